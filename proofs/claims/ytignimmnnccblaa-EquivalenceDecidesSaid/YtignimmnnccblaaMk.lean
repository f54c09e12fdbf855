/- What comparisons and classes say of the values. -/
import Derived.Test.YtignimmnnccblaaMg
import Derived.Test.YtignimmnnccblaaQr
set_option linter.unusedVariables false
set_option linter.unusedSimpArgs false
namespace Go.Proofs.Ytignimmnnccblaa
open Go Go.RowKit
structure Pair (a b : Net) : Prop where
 qa : NetQ 100 a
 qb : NetQ 100 b
 ins : b.ins = a.ins
 out : b.out = a.out
 dl : b.drive.length = a.drive.length
 sum : a.gates.length + b.gates.length ≤ 180
theorem NetQ.up {m k : Nat} {n : Net} (h : NetQ m n) (hk : m ≤ k) : NetQ k n := ⟨h.i1, h.i2, Nat.le_trans h.g1 hk, h.g2, h.d0, h.d1, h.d2, h.d3⟩
theorem Pair.mit {a b : Net} (h : Pair a b) : MitOk (2 + a.ins.length) a b := by
 have hb := h.qb.g2
 have hd := h.qb.d2
 rw [h.ins] at hb hd
 exact ⟨by omega, h.qa.g2, hb, h.qa.d2, hd, h.dl.symm⟩
theorem Pair.len {a b : Net} (h : Pair a b) : (zkx a b).gates.length ≤ 200 ∧ (zkx a b).gates.length = a.gates.length + b.gates.length + a.drive.length + (a.drive.length - 1) := by
 have e : (zkx a b).gates.length = a.gates.length + b.gates.length + a.drive.length + (a.drive.length - 1) := jd7 _ _ _ _ _
 have := h.sum
 have := h.qa.d1
 omega
theorem Pair.gates {a b : Net} (h : Pair a b) : GatesOk (2 + (zkx a b).ins.length) (zkx a b).gates :=
 zsv h.mit (Nat.le_refl _) (.inr ⟨rfl, by have := h.qa.d3; omega⟩)
def jlv (a b : Net) : Nat := (zx5 (2 + a.ins.length + a.gates.length + b.gates.length) a.drive.length (a.drive.length - 1)).toNat
theorem Pair.lst {a b : Net} (h : Pair a b) : (zkx a b).drive = [(jlv a b : Int)] ∧ jlv a b < 2 + (zkx a b).ins.length + (zkx a b).gates.length := by
 have hl := h.len.2
 have hd := h.qa.d3
 have e : (zkx a b).ins.length = a.ins.length := rfl
 obtain ⟨b0, b1, b2⟩ := jri (2 + a.ins.length + a.gates.length + b.gates.length) a.drive.length (a.drive.length - 1)
 have e2 : zx5 (2 + a.ins.length + a.gates.length + b.gates.length) a.drive.length (a.drive.length - 1) < ((2 + a.ins.length + a.gates.length + b.gates.length + a.drive.length + (a.drive.length - 1) : Nat) : Int) := by
  by_cases h1 : a.drive.length - 1 = 0
  ·rw [b1 h1]; omega
  ·rw [b2 (a.drive.length - 1 - 1) (by omega)]; omega
 refine ⟨?_, ?_⟩
 ·show [zx5 _ _ _] = _
  unfold jlv
  congr 1; omega
 ·unfold jlv
  rw [hl, e]; omega
def zqw (a b : Net) (sh : Sh) (l : List Bool) : Bool := !decide (zqr a sh l = zqr b sh l)
theorem Pair.value {a b : Net} (h : Pair a b) {sh : Sh} (hsh : ShOk sh) {V : Nat} {fs : List T} (hF : FsP V (zkx a b).ins.length sh (zkx a b).gates (zkx a b).gates.length fs) (l : List Bool) : (nth fs (jlv a b)).eval (atB l) = zqw a b sh l := by
 have hm := jtz hsh hF h.gates l (zkx a b).gates.length (Nat.le_refl _) (jlv a b) h.lst.2
 rw [List.take_length] at hm
 rw [← hm]
 have hv := jd8 (a := a) (b := b) (v := false :: true :: zmq a.ins.length l) (by
  have e : (false :: true :: zmq a.ins.length l).length = 2 + a.ins.length := by simp [zir]; omega
  rw [e]; exact h.mit) (zg3 a.ins.length sh l) h.qa.d3
 have e : (false :: true :: zmq a.ins.length l).length = 2 + a.ins.length := by simp [zir]; omega
 rw [e] at hv
 unfold zqw zqr zty
 rw [h.ins]
 exact hv
theorem jej (a : Net) (sh : Sh) (l : List Bool) : zqw a a sh l = false := by unfold zqw; rw [decide_eq_true rfl]; rfl
def jt1 (a b : Net) (sh : Sh) (is : Bool) (L : List Bool) (E : Int) : Prop :=
 (is = false ∧ L = [] ∧ E = 2 ∧ ∃ fs, FsP (zc3 a.ins.length sh) a.ins.length sh (zkx a b).gates (zkx a b).gates.length fs ∧ 3000 < (zeq fs).length) ∨
 (is = true ∧ L = [] ∧ E = 0 ∧ ∀ l, zqw a b sh l = false) ∨
 (is = false ∧ E = 0 ∧ ∃ i : Nat, i < 2 ^ zc3 a.ins.length sh ∧ zqw a b sh (zg6 (zc3 a.ins.length sh) (i : Int)) = true ∧ (∀ j : Nat, j < i → zqw a b sh (zg6 (zc3 a.ins.length sh) (j : Int)) = false) ∧ L = zg6 (zc3 a.ins.length sh) (i : Int))
theorem jrp {V j : Nat} (hV : V ≤ 60) (h : j < 2 ^ V) : j < 2 ^ 62 := Nat.lt_of_lt_of_le h (Nat.pow_le_pow_right (by decide) (by omega))
theorem Pair.compare {a b : Net} (h : Pair a b) {sh : Sh} (hsh : ShOk sh) (hsv : zc3 a.ins.length sh ≤ a.ins.length + 5) : ∃ is L E, jt1 a b sh is L E ∧ zbd Try.prog 31 [zaw a, zaw b, shD sh] (.tup [.d (oD is), .d (boolsD L), .d (iD E)]) := by
 have hi9 := h.qa.i2
 have hmi : (zkx a b).ins.length = a.ins.length := rfl
 obtain ⟨V, hV⟩ : ∃ V, V = zc3 a.ins.length sh := ⟨_, rfl⟩
 have hV60 : V ≤ 60 := by omega
 obtain ⟨fs, hF⟩ := jll (ins := a.ins.length) (sh := sh) (gates := (zkx a b).gates) _ (Nat.le_refl _)
 have hl := hF.len
 have hlen := h.len
 have hlst := h.lst
 have hno : (zkx a b).drive.any (ztv (2 + (zkx a b).ins.length + (zkx a b).gates.length)) = false := by rw [hlst.1]; exact jrf hlst.2
 have hB := jjs (n := zkx a b) (sh := sh) (nodes := (zkx a b).drive) hi9 hlen.1 hsh hsv h.gates hno (by rw [hlst.1]; simp)
 have hM := jea a b h.ins h.out h.mit (by omega) (by have := h.qa.d0; have := h.qa.d1; omega) (by have := h.qa.g1; omega) (by have := h.qb.g1; omega) h.qa.d3 (by have := h.qa.d1; omega)
 by_cases hbig : 3000 < (zeq fs).length
 ·refine ⟨false, [], 2, .inl ⟨rfl, rfl, rfl, fs, hF, hbig⟩, ?_⟩
  exact jlr a b (zkx a b) sh _ hM hsh (by omega) rfl (by rw [hmi]; omega) (zsx hF h.gates (by omega) hB hbig)
 ·have hbo := zx8 hF h.gates (by omega) hB hbig
  obtain ⟨t, ht⟩ : ∃ t, t = nth fs (jlv a b) := ⟨_, rfl⟩
  have hroots : zfq fs (zkx a b).drive = [t] := by rw [hlst.1, ht]; rfl
  have hok : t.Ok V 0 := by rw [ht, hV]; exact hF.ok _ (zb9 (by omega))
  have hfull := zx2 (V := zc3 a.ins.length sh) (fs := fs) hF.ok
  have hle := jdo hfull (fs := [t]) fun s hs => by
   rw [List.mem_singleton.1 hs, ht]; exact zkr (zb9 (by omega))
  have hO : One V (zeq [t]) t := ⟨zx2 fun s hs => by rw [List.mem_singleton.1 hs]; exact hok, by omega, hok, zkr (List.mem_singleton.2 rfl)⟩
  have hval : ∀ l, t.eval (atB l) = zqw a b sh l := fun l => by rw [ht]; exact h.value hsh hF l
  have hasn : ∀ j, j < 2 ^ V → t.eval (asn V j) = zqw a b sh (zg6 V (j : Int)) := fun j hj => by rw [← hval, jli (jrp hV60 hj) hV60]
  rw [hroots] at hbo
  have hA := jsv V (zeq [t]) [num (zeq [t]) t] hO.row (by omega) (by unfold zel; have := hO.len; omega) ((num (zeq [t]) t : Nat) : Int) (V : Nat)
  have hnl : (zlp (zeq [t])).length ≤ 1000000 := by rw [zal]; have := hO.len; omega
  by_cases ht0 : t = .leaf false
  ·obtain ⟨hL, hE⟩ := hO.none hV60 fun j _ => by rw [ht0]; rfl
   rw [hL, hE] at hA
   refine ⟨true, [], 0, .inr (.inl ⟨rfl, rfl, rfl, fun l => by rw [← hval, ht0]; rfl⟩), ?_⟩
   exact jjw a b (zkx a b) sh V hM hsh (by omega) hV.symm hV60 _ _ hnl hbo [] 4 hA (.inl ⟨rfl, rfl⟩)
  ·have hex : ∃ i, i < 2 ^ V ∧ t.eval (asn V i) = true := by
    refine Classical.byContradiction fun hn => ht0 (jjt (n := V) hok (s := .leaf false) (j := 0) trivial fun i hi => ?_)
    cases hc : t.eval (asn V i) with
    | false => rfl
    | true => exact absurd ⟨i, hi, hc⟩ hn
   obtain ⟨i0, hi0, hi0t⟩ := hex
   have hp1 := zkw hok (Nat.zero_le _) ht0
   have hp2 := zms hok (Nat.zero_le _)
   have hple : zn4 V t ≤ i0 := Nat.le_of_not_lt fun hc => by rw [hp2 i0 hc] at hi0t; cases hi0t
   obtain ⟨hL, hE⟩ := hO.some hV60 (i := zn4 V t) (Nat.lt_of_le_of_lt hple hi0) (fun j hj => hp2 j hj) hp1
   have hplt : zn4 V t < 2 ^ V := Nat.lt_of_le_of_lt hple hi0
   rw [hL, hE] at hA
   refine ⟨false, zg6 V (zn4 V t : Nat), 0, .inr (.inr ⟨rfl, rfl, zn4 V t, by rw [← hV]; exact hplt, ?_, fun j hj => ?_, by rw [← hV]⟩), ?_⟩
   ·rw [← hV, ← hasn _ hplt]; exact hp1
   ·rw [← hV, ← hasn _ (Nat.lt_trans hj hplt)]; exact hp2 j hj
   ·exact jjw a b (zkx a b) sh V hM hsh (by omega) hV.symm hV60 _ _ hnl hbo _ 0 hA (.inr rfl)
end Go.Proofs.Ytignimmnnccblaa

/- The classes, by values; the chapter's examples. -/
set_option linter.unusedVariables false
set_option linter.unusedSimpArgs false
set_option maxRecDepth 100000
set_option maxHeartbeats 4000000
namespace Go.Proofs.Ytignimmnnccblaa
open Go Go.RowKit
theorem zg5 : ((((((type_of% @zd1) ∧ ((type_of% @zd2) ∧ (type_of% @zda))) ∧ ((type_of% @zdb) ∧ ((type_of% @zfs) ∧ (type_of% @zft)))) ∧ (((type_of% @zfu) ∧ ((type_of% @zfv) ∧ (type_of% @ze4))) ∧ ((type_of% @ze5) ∧ ((type_of% @ze7) ∧ (type_of% @zdq))))) ∧ ((((type_of% @zdr) ∧ ((type_of% @zgz) ∧ (type_of% @zg0))) ∧ ((type_of% @zg1) ∧ ((type_of% @zg2) ∧ (type_of% @zdm)))) ∧ (((type_of% @zdn) ∧ ((type_of% @zdo) ∧ (type_of% @zdv))) ∧ (((type_of% @zfd) ∧ (type_of% @zfe)) ∧ ((type_of% @zff) ∧ (type_of% @zfg)))))) ∧ (((((type_of% @zl0) ∧ ((type_of% @zl1) ∧ (type_of% @zhw))) ∧ ((type_of% @zhx) ∧ ((type_of% @zeg) ∧ (type_of% @zeh)))) ∧ (((type_of% @zjq) ∧ ((type_of% @zjp) ∧ (type_of% @zkk))) ∧ (((type_of% @zkl) ∧ (type_of% @zkm)) ∧ ((type_of% @zht) ∧ (type_of% @zhs))))) ∧ ((((type_of% @znt) ∧ ((type_of% @znu) ∧ (type_of% @zs1))) ∧ ((type_of% @zn0) ∧ ((type_of% @zn1) ∧ (type_of% @zsb)))) ∧ (((type_of% @zsa) ∧ ((type_of% @jer) ∧ (type_of% @jes))) ∧ (((type_of% @zyw) ∧ (type_of% @zlc)) ∧ ((type_of% @zld) ∧ (type_of% @zlg))))))) := ⟨⟨⟨⟨⟨@zd1, ⟨@zd2, @zda⟩⟩, ⟨@zdb, ⟨@zfs, @zft⟩⟩⟩, ⟨⟨@zfu, ⟨@zfv, @ze4⟩⟩, ⟨@ze5, ⟨@ze7, @zdq⟩⟩⟩⟩, ⟨⟨⟨@zdr, ⟨@zgz, @zg0⟩⟩, ⟨@zg1, ⟨@zg2, @zdm⟩⟩⟩, ⟨⟨@zdn, ⟨@zdo, @zdv⟩⟩, ⟨⟨@zfd, @zfe⟩, ⟨@zff, @zfg⟩⟩⟩⟩⟩, ⟨⟨⟨⟨@zl0, ⟨@zl1, @zhw⟩⟩, ⟨@zhx, ⟨@zeg, @zeh⟩⟩⟩, ⟨⟨@zjq, ⟨@zjp, @zkk⟩⟩, ⟨⟨@zkl, @zkm⟩, ⟨@zht, @zhs⟩⟩⟩⟩, ⟨⟨⟨@znt, ⟨@znu, @zs1⟩⟩, ⟨@zn0, ⟨@zn1, @zsb⟩⟩⟩, ⟨⟨@zsa, ⟨@jer, @jes⟩⟩, ⟨⟨@zyw, @zlc⟩, ⟨@zld, @zlg⟩⟩⟩⟩⟩⟩
theorem zt7 (n : Net) (sh : Sh) (hi : n.ins.length ≤ 1000) (hg : n.gates.length ≤ 1000) (h : zbd Try.prog 48 [zaw n, shD sh, intsD (zxz n)] (.tup [.d (zbw [] []), .d (iD 2)])) : zbd Try.prog 32 [zaw n, shD sh] (.tup [.d (intsD []), .d (iD 2)]) := by
 refine zbg (fn := Try.f32) (by kernel_rfl) Try.func32 rfl (Nat.le_of_ble_eq_true rfl) fun c hc hp => ?_
 refine zbh (τ' := frL [(0, .d (zaw n)), (1, .d (shD sh))]) (by repeat (first | exact zam _ | refine zai ?_ (by first | rfl | (simp [r_f, zaa, zab, zae, zad, za9, za6]; done) | simp [r_f, zaa, zab, zae, zad, za9, za6, *]))) ?_
 refine zac hp zak hc rfl fun K1 hK1 => ?_
 simp -dsimp -implicitDefEqProofs (disch := first | assumption | omega | (simp only [r_z, zaa, zab, zae, zad, za9, za6] <;> omega) | decide) only [r_r, ↓reduceIte, Nat.reduceEqDiff, Nat.reduceAdd, D.fix, Int.reduceToNat, Nat.reduceMul, Nat.reduceBNe, Nat.reduceBEq, r_m, zaw, zax, zaf, zag, shD, zbw, zb1, zg5]
 refine hK1 _ _ ?_
 refine zac hp zak hc rfl fun K2 hK2 => ?_
 simp -dsimp -implicitDefEqProofs (disch := first | assumption | omega | (simp only [r_z, zaa, zab, zae, zad, za9, za6] <;> omega) | decide) only [r_r, ↓reduceIte, Nat.reduceEqDiff, Nat.reduceAdd, D.fix, Int.reduceToNat, Nat.reduceMul, Nat.reduceBNe, Nat.reduceBEq, r_m, zaw, zax, zaf, zag, shD, zbw, zb1, zg5]
 refine hK2 _ _ ?_
 refine zao fun K3 hK3 => ?_
 refine zac hp zak hc rfl fun K4 hK4 => ?_
 simp -dsimp -implicitDefEqProofs (disch := first | assumption | omega | (simp only [r_z, zaa, zab, zae, zad, za9, za6] <;> omega) | decide) only [r_r, ↓reduceIte, Nat.reduceEqDiff, Nat.reduceAdd, D.fix, Int.reduceToNat, Nat.reduceMul, Nat.reduceBNe, Nat.reduceBEq, r_m, zaw, zax, zaf, zag, shD, zbw, zb1, zg5]
 refine hK4 _ _ ?_
 refine zaz ?_
 refine zbb hp (fun τ' H' mm => ∃ (i : Nat), (i ≤ 2 + n.ins.length + n.gates.length) ∧ mm = 2 + n.ins.length + n.gates.length - i ∧ H' = [.cells (avs (zax n)), .cells (avs (zit (fun j => (j : Int)) (2 + n.ins.length + n.gates.length) i))] ∧ τ' = frL [(1, .d (shD sh)), (2, .op 0 0), (4, .d (.val (.slice none 0 0))), (5, .d (iD 0)), (6, .os 1 1 0 (2 + n.ins.length + n.gates.length)), (26, .d (iD (2 + n.ins.length + n.gates.length : Nat))), (27, .d (iD i))]) (2 + n.ins.length + n.gates.length) ?_ ⟨0, Nat.zero_le _, rfl, rfl, rfl⟩ ?_
 ·refine Rt.trans (Rt.gc (keep := [0,1]) (by decide) (by decide) (by simp [fzH, gcH])) ?_
  refine Rt.end (by repeat (first | exact zam _ | refine zai ?_ (by first | rfl | (simp [r_f, zaa, zab, zae, zad, za9, za6]; done) | simp [r_f, zaa, zab, zae, zad, za9, za6, *]))) ?_
  simp only [r_g, Nat.reduceAdd, ↓reduceIte, Nat.reduceEqDiff, r_m, zaw, zax, zaf, zag, shD, zbw, zb1]; rw [← jeh]; rfl
 rintro τ' H' mm ⟨i, hi2, rfl, rfl, rfl⟩
 refine zac hp zak hc rfl fun K5 hK5 => ?_
 simp -dsimp -implicitDefEqProofs (disch := first | assumption | omega | (simp only [r_z, zaa, zab, zae, zad, za9, za6] <;> omega) | decide) only [r_r, ↓reduceIte, Nat.reduceEqDiff, Nat.reduceAdd, D.fix, Int.reduceToNat, Nat.reduceMul, Nat.reduceBNe, Nat.reduceBEq, r_m, zaw, zax, zaf, zag, shD, zbw, zb1, zg5]
 refine hK5 _ _ ?_
 refine zao fun K6 hK6 => ?_
 refine zaq rfl (fun ht => ?_) (fun ht => ?_)
 ·have hlt : i < 2 + n.ins.length + n.gates.length := by simp at ht; omega
  refine zay (hK6 _ _ ?_)
  refine zao fun K7 hK7 => ?_
  refine zaz ?_
  refine zac hp zak hc rfl fun K8 hK8 => ?_
  simp -dsimp -implicitDefEqProofs (disch := first | assumption | omega | (simp only [r_z, zaa, zab, zae, zad, za9, za6] <;> omega) | decide) only [r_r, ↓reduceIte, Nat.reduceEqDiff, Nat.reduceAdd, D.fix, Int.reduceToNat, Nat.reduceMul, Nat.reduceBNe, Nat.reduceBEq, r_m, zaw, zax, zaf, zag, shD, zbw, zb1]
  refine hK8 _ _ ?_
  refine zbt hp zak hc rfl fun K9 hK9 => ?_
  simp -dsimp -implicitDefEqProofs (disch := first | assumption | omega | (simp only [r_z, zaa, zab, zae, zad, za9, za6] <;> omega) | decide) only [r_r, ↓reduceIte, Nat.reduceEqDiff, Nat.reduceAdd, D.fix, Int.reduceToNat, Nat.reduceMul, Nat.reduceBNe, Nat.reduceBEq, r_m, zaw, zax, zaf, zag, shD, zbw, zb1, zg5]
  refine hK9 _ _ (hK7 _ _ ?_)
  refine zbt hp zak hc rfl fun K10 hK10 => ?_
  simp -dsimp -implicitDefEqProofs (disch := first | assumption | omega | (simp only [r_z, zaa, zab, zae, zad, za9, za6] <;> omega) | decide) only [r_r, ↓reduceIte, Nat.reduceEqDiff, Nat.reduceAdd, D.fix, Int.reduceToNat, Nat.reduceMul, Nat.reduceBNe, Nat.reduceBEq, r_m, zaw, zax, zaf, zag, shD, zbw, zb1, zg5]
  refine hK10 _ _ ⟨_, _, _, ?_, ⟨i + 1, by omega, rfl, rfl, rfl⟩, ?_⟩
  ·first | omega | (simp only [List.length_cons]; omega) | (dsimp only; omega)
  ·refine Rt.trans (Rt.gc (keep := [0,1]) (by decide) (by decide) (by simp [fzH, gcH])) ?_
   refine Rt.end (by repeat (first | exact zam _ | refine zai ?_ (by first | rfl | (simp [r_f, zaa, zab, zae, zad, za9, za6]; done) | simp [r_f, zaa, zab, zae, zad, za9, za6, *]))) ?_
   simp only [r_g, Nat.reduceAdd, ↓reduceIte, Nat.reduceEqDiff, r_m, zaw, zax, zaf, zag, shD, zbw, zb1]; rw [← zqt hlt]; rfl
 ·have hie : i = 2 + n.ins.length + n.gates.length := by simp at ht; omega
  have hfa : zit (fun j => (j : Int)) (2 + n.ins.length + n.gates.length) i = (zxz n).map iD := by rw [hie, jei]; unfold zxz; rw [List.map_map]; rfl
  rw [hfa]
  refine zbn (hK3 _ _ ?_)
  refine zb3 hp (τ' := frL [(1, .d (shD sh)), (2, .op 0 0), (4, .d (.val (.slice none 0 0))), (5, .d (iD 0)), (6, .d (intsD (zxz n)))]) (H' := [.cells (avs (zax n))]) ?_ ?_
  ·refine Rt.trans (Rt.fz (id := 1) rfl) ?_
   refine Rt.trans (Rt.slot 6 (zrw (zdh (by simp [r_z, zaa, zab, zae, zad, za9, za6])))) ?_
   refine Rt.trans (Rt.gc (keep := [0]) (by decide) (by decide) (by simp [fzH, gcH])) ?_
   refine Rt.end (by repeat (first | exact zam _ | refine zai ?_ (by first | rfl | (simp [r_f, zaa, zab, zae, zad, za9, za6]; done) | simp [r_f, zaa, zab, zae, zad, za9, za6, *]))) ?_
   first | rfl | (simp only [r_g, Nat.reduceAdd, ↓reduceIte, Nat.reduceEqDiff, r_m, zaw, zax, zaf, zag, shD, zbw, zb1]; first | done | rfl)
  refine zac hp zak hc rfl fun K11 hK11 => ?_
  simp -dsimp -implicitDefEqProofs (disch := first | assumption | omega | (simp only [r_z, zaa, zab, zae, zad, za9, za6] <;> omega) | decide) only [r_r, ↓reduceIte, Nat.reduceEqDiff, Nat.reduceAdd, D.fix, Int.reduceToNat, Nat.reduceMul, Nat.reduceBNe, Nat.reduceBEq, r_m, zaw, zax, zaf, zag, shD, zbw, zb1, zg5]
  refine zb8 (h) rfl ?_
  simp -dsimp -implicitDefEqProofs (disch := first | assumption | omega | (simp only [r_z, zaa, zab, zae, zad, za9, za6] <;> omega) | decide) only [r_r, ↓reduceIte, Nat.reduceEqDiff, Nat.reduceAdd, D.fix, Int.reduceToNat, Nat.reduceMul, Nat.reduceBNe, Nat.reduceBEq, r_m, zaw, zax, zaf, zag, shD, zbw, zb1, zg5]
  refine hK11 _ _ ?_
  refine zao fun K12 hK12 => ?_
  refine zac hp zak hc rfl fun K13 hK13 => ?_
  simp -dsimp -implicitDefEqProofs (disch := first | assumption | omega | (simp only [r_z, zaa, zab, zae, zad, za9, za6] <;> omega) | decide) only [r_r, ↓reduceIte, Nat.reduceEqDiff, Nat.reduceAdd, D.fix, Int.reduceToNat, Nat.reduceMul, Nat.reduceBNe, Nat.reduceBEq, r_m, zaw, zax, zaf, zag, shD, zbw, zb1, zg5]
  refine hK13 _ _ ?_
  refine zaq rfl (fun ht => ?_) (fun ht => ?_)
  ·refine zac hp zak hc rfl fun K14 hK14 => ?_
   simp -dsimp -implicitDefEqProofs (disch := first | assumption | omega | (simp only [r_z, zaa, zab, zae, zad, za9, za6] <;> omega) | decide) only [r_r, ↓reduceIte, Nat.reduceEqDiff, Nat.reduceAdd, D.fix, Int.reduceToNat, Nat.reduceMul, Nat.reduceBNe, Nat.reduceBEq, r_m, zaw, zax, zaf, zag, shD, zbw, zb1]
   refine hK14 _ _ ?_
   refine za4 ?_
   show closeA _ _ = _
   simp (disch := first | assumption | omega | (simp only [r_z, zaa, zab, zae, zad, za9, za6] <;> omega) | decide) only [r_c, Nat.reduceAdd, D.fix, ↓reduceIte, Nat.reduceEqDiff, r_m, zaw, zax, zaf, zag, shD, zbw, zb1]
  ·cases ht
def jum (n : Net) (sh : Sh) (L : List Int) (E : Int) : Prop :=
 (E = 2 ∧ L = [] ∧ ∃ fs, FsP (zc3 n.ins.length sh) n.ins.length sh n.gates n.gates.length fs ∧ 3000 < (zeq fs).length) ∨
 (E = 0 ∧ ∃ fs, FsP (zc3 n.ins.length sh) n.ins.length sh n.gates n.gates.length fs ∧ L = (fs.map (num (zeq fs))).map fun r => (zzd (fs.map (num (zeq fs))) r : Int))
theorem jlw {n : Net} (hn : NetB n) {sh : Sh} (hsh : ShOk sh) (hsv : zc3 n.ins.length sh ≤ n.ins.length + 5) : ∃ L E, jum n sh L E ∧ zbd Try.prog 32 [zaw n, shD sh] (.tup [.d (intsD L), .d (iD E)]) := by
 have hi9 := hn.i1
 have hg1 := hn.g1
 obtain ⟨fs, hF⟩ := jll (ins := n.ins.length) (sh := sh) (gates := n.gates) _ (Nat.le_refl _)
 have hl := hF.len
 have hB := jjs (n := n) (sh := sh) (nodes := zxz n) hi9 (by omega) hsh hsv hn.g2 (jq8 n) (by rw [za6]; omega)
 by_cases hbig : 3000 < (zeq fs).length
 ·exact ⟨[], 2, .inl ⟨rfl, rfl, fs, hF, hbig⟩, zt7 n sh (by omega) (by omega) (zsx hF hn.g2 (by omega) hB hbig)⟩
 ·have hbo := zx8 hF hn.g2 (by omega) hB hbig
  rw [jd1 hl] at hbo
  refine ⟨_, 0, .inr ⟨rfl, fs, hF, rfl⟩, zy9 n sh (by omega) (by omega) (zlp (zeq fs)) (fs.map (num (zeq fs))) (by rw [List.length_map, hl]) (fun r hr => ?_) hbo⟩
  obtain ⟨t, ht, rfl⟩ := List.mem_map.1 hr
  have := zee (zkr ht)
  omega
def exA : Net := ⟨[⟨1, 0, 0⟩, ⟨1, 0, 1⟩], [⟨4, 2, 3, 0, 0⟩], [⟨6, 0, 0⟩], [4]⟩
def exB : Net := ⟨[⟨1, 0, 0⟩, ⟨1, 0, 1⟩], [⟨3, 2, 3, 0, 0⟩], [⟨6, 0, 0⟩], [4]⟩
def exC : Net := ⟨[⟨1, 0, 0⟩, ⟨1, 0, 1⟩], [⟨2, 2, 3, 0, 0⟩, ⟨1, 4, 0, 0, 0⟩, ⟨1, 5, 0, 0, 0⟩], [], []⟩
def exM : Net := ⟨[⟨1, 0, 0⟩, ⟨1, 0, 1⟩], [⟨4, 2, 3, 0, 0⟩, ⟨3, 2, 3, 0, 0⟩, ⟨4, 4, 5, 0, 0⟩], [⟨6, 0, 0⟩], [6]⟩
theorem gok {m : Nat} {o a b c : Int} (h : 1 ≤ o ∧ o ≤ 7 ∧ 0 ≤ a ∧ a < m ∧ 0 ≤ b ∧ b < m ∧ 0 ≤ c ∧ c < m) : GateOk m ⟨o, a, b, c, 0⟩ := ⟨h.1, h.2.1, h.2.2.1, h.2.2.2.1, h.2.2.2.2.1, h.2.2.2.2.2.1, h.2.2.2.2.2.2.1, h.2.2.2.2.2.2.2, show (0 : Int) ≤ 0 by decide, show (0 : Int) < 1000000 by decide⟩
theorem jt2 {m : Nat} {g : Gate} (h : GateOk m g) : GatesOk m [g] := fun k hk => by
 have e : k = 0 := by simpa using hk
 subst e
 exact h
theorem jt3 {m : Nat} {d : Int} (h0 : 0 ≤ d) (h1 : d < m) : DriveOk m [d] := fun k hk => by
 have e : k = 0 := by simpa using hk
 subst e
 exact ⟨h0, h1⟩
theorem jlx : NetQ 100 exA := ⟨by decide, by decide, by decide, jt2 (gok (by decide)), rfl, by decide, jt3 (by decide) (by decide), by decide⟩
theorem js8 : NetQ 100 exB := ⟨by decide, by decide, by decide, jt2 (gok (by decide)), rfl, by decide, jt3 (by decide) (by decide), by decide⟩
theorem exAB : Pair exA exB := ⟨jlx, js8, rfl, rfl, rfl, by decide⟩
theorem exAA : Pair exA exA := ⟨jlx, jlx, rfl, rfl, rfl, by decide⟩
theorem jek : ShOk [] := ⟨by decide, fun k hk => by simp at hk⟩
theorem jel : zbd Try.prog 39 [zaw exA, zaw exB] (.tup [.d (zaw exM), .d (iD 0)]) := jea exA exB rfl rfl exAB.mit (by decide) (by decide) (by decide) (by decide) (by decide) (by decide)
theorem js9 : zbd Try.prog 24 [zaw exA, zaw exB] (.d (.agg (zax exM ++ [iD 0]))) := jls exA exB exM jel
theorem jta : zbd Try.prog 11 [zaw exA, zaw exB, shD []] (.d (zck false [true, true] 0)) := by
 obtain ⟨is, L, E, hS, hc⟩ := exAB.compare jek (by decide)
 have h0 : zqw exA exB [] (zg6 2 ((0 : Nat) : Int)) = false := by kernel_rfl
 have h1 : zqw exA exB [] (zg6 2 ((1 : Nat) : Int)) = false := by kernel_rfl
 have h2 : zqw exA exB [] (zg6 2 ((2 : Nat) : Int)) = false := by kernel_rfl
 have hd : ∀ j : Nat, j < 3 → zqw exA exB [] (zg6 2 (j : Int)) = false := fun j hj => by
  match j, hj with
  | 0, _ => exact h0
  | 1, _ => exact h1
  | 2, _ => exact h2
 have hd3 : zqw exA exB [] (zg6 2 ((3 : Nat) : Int)) = true := by kernel_rfl
 rcases hS with ⟨_, _, _, fs, hF, hbig⟩ | ⟨_, _, _, h⟩ | ⟨rfl, rfl, i, hi, h3, h4, rfl⟩
 ·exact absurd hbig (zqn hF (by decide) (by decide))
 ·rw [h] at hd3; cases hd3
 ·have hi4 : i < 4 := hi
  have : i = 3 := by
   rcases Nat.lt_or_ge i 3 with hl | hl
   ·have e := hd i hl
    have h1' : zqw exA exB [] (zg6 2 (i : Int)) = true := h3
    rw [e] at h1'; cases h1'
   ·omega
  subst this
  exact zls exA exB [] false _ 0 hc
theorem jtb : zbd Try.prog 11 [zaw exA, zaw exA, shD []] (.d (zck true [] 0)) := by
 obtain ⟨is, L, E, hS, hc⟩ := exAA.compare jek (by decide)
 rcases hS with ⟨_, _, _, fs, hF, hbig⟩ | ⟨rfl, rfl, rfl, h⟩ | ⟨_, _, i, hi, h1, _⟩
 ·exact absurd hbig (zqn hF (by decide) (by decide))
 ·exact zls exA exA [] true [] 0 hc
 ·rw [jej] at h1; cases h1
theorem jtc : zbd Try.prog 11 [zaw exA, zaw exC, shD []] (.d (zck false [] 1)) := zb7 (n := 60) mixed zak (by kernel_rfl)
def sh9 : D := .fs (List.replicate 18 (iD 0)) 9
theorem jrq : zbd Try.prog 47 [zaw exM, sh9] (.tup [.d (iD 2), .d (oD false)]) := zb7 (n := 60) mixed zak (by kernel_rfl)
theorem jly : zbd Try.prog 28 [zaw exM, zaw exM] (.d (oD true)) := zb7 (n := 60) mixed zak (by kernel_rfl)
theorem jlz (a b m : Net) (v : Int) (h1 : zbd Try.prog 39 [zaw a, zaw b] (.tup [.d (zaw m), .d (iD 0)])) (h3 : zbd Try.prog 47 [zaw m, sh9] (.tup [.d (iD v), .d (oD false)])) : zbd Try.prog 31 [zaw a, zaw b, sh9] (.tup [.d (oD false), .d (boolsD []), .d (iD 1)]) := by
 refine zbg (fn := Try.f31) (by kernel_rfl) Try.func31 rfl (Nat.le_of_ble_eq_true rfl) fun c hc hp => ?_
 refine zbh (τ' := frL [(0, .d (zaw a)), (1, .d (zaw b)), (2, .d (sh9))]) (by repeat (first | exact zam _ | refine zai ?_ (by first | rfl | (simp [r_f, zaa]; done) | simp [r_f, zaa, *]))) ?_
 refine zac hp zak hc rfl fun K1 hK1 => ?_
 simp -dsimp -implicitDefEqProofs (disch := first | assumption | omega | (simp only [r_z, zaa] <;> omega) | decide) only [r_r, ↓reduceIte, Nat.reduceEqDiff, Nat.reduceAdd, D.fix, Int.reduceToNat, Nat.reduceMul, Nat.reduceBNe, Nat.reduceBEq, zaw, zax, zaf, zag, zg5]
 refine hK1 _ _ ?_
 refine zac hp zak hc rfl fun K2 hK2 => ?_
 simp -dsimp -implicitDefEqProofs (disch := first | assumption | omega | (simp only [r_z, zaa] <;> omega) | decide) only [r_r, ↓reduceIte, Nat.reduceEqDiff, Nat.reduceAdd, D.fix, Int.reduceToNat, Nat.reduceMul, Nat.reduceBNe, Nat.reduceBEq, zaw, zax, zaf, zag, zg5]
 refine zb8 (h1) rfl ?_
 simp -dsimp -implicitDefEqProofs (disch := first | assumption | omega | (simp only [r_z, zaa] <;> omega) | decide) only [r_r, ↓reduceIte, Nat.reduceEqDiff, Nat.reduceAdd, D.fix, Int.reduceToNat, Nat.reduceMul, Nat.reduceBNe, Nat.reduceBEq, zaw, zax, zaf, zag, zg5]
 refine hK2 _ _ ?_
 refine zao fun K3 hK3 => ?_
 refine zac hp zak hc rfl fun K4 hK4 => ?_
 simp -dsimp -implicitDefEqProofs (disch := first | assumption | omega | (simp only [r_z, zaa] <;> omega) | decide) only [r_r, ↓reduceIte, Nat.reduceEqDiff, Nat.reduceAdd, D.fix, Int.reduceToNat, Nat.reduceMul, Nat.reduceBNe, Nat.reduceBEq, zaw, zax, zaf, zag, zg5]
 refine hK4 _ _ ?_
 refine zaq rfl (fun ht => ?_) (fun ht => ?_)
 ·cases ht
 ·refine zay (hK3 _ _ ?_)
  refine zac hp zak hc rfl fun K5 hK5 => ?_
  simp -dsimp -implicitDefEqProofs (disch := first | assumption | omega | (simp only [r_z, zaa] <;> omega) | decide) only [r_r, ↓reduceIte, Nat.reduceEqDiff, Nat.reduceAdd, D.fix, Int.reduceToNat, Nat.reduceMul, Nat.reduceBNe, Nat.reduceBEq, zaw, zax, zaf, zag, zg5]
  refine zb8 (h3) rfl ?_
  simp -dsimp -implicitDefEqProofs (disch := first | assumption | omega | (simp only [r_z, zaa] <;> omega) | decide) only [r_r, ↓reduceIte, Nat.reduceEqDiff, Nat.reduceAdd, D.fix, Int.reduceToNat, Nat.reduceMul, Nat.reduceBNe, Nat.reduceBEq, zaw, zax, zaf, zag, zg5]
  refine hK5 _ _ ?_
  refine zao fun K6 hK6 => ?_
  refine zaz ?_
  refine zac hp zak hc rfl fun K7 hK7 => ?_
  simp -dsimp -implicitDefEqProofs (disch := first | assumption | omega | (simp only [r_z, zaa] <;> omega) | decide) only [r_r, ↓reduceIte, Nat.reduceEqDiff, Nat.reduceAdd, D.fix, Int.reduceToNat, Nat.reduceMul, Nat.reduceBNe, Nat.reduceBEq, zaw, zax, zaf, zag, zg5]
  refine hK7 _ _ ?_
  refine zaq rfl (fun ht => ?_) (fun ht => ?_)
  ·refine zac hp zak hc rfl fun K8 hK8 => ?_
   simp -dsimp -implicitDefEqProofs (disch := first | assumption | omega | (simp only [r_z, zaa] <;> omega) | decide) only [r_r, ↓reduceIte, Nat.reduceEqDiff, Nat.reduceAdd, D.fix, Int.reduceToNat, Nat.reduceMul, Nat.reduceBNe, Nat.reduceBEq, zaw, zax, zaf, zag]
   refine hK8 _ _ ?_
   refine za4 ?_
   show closeA _ _ = _
   simp (disch := first | assumption | omega | (simp only [r_z, zaa] <;> omega) | decide) only [r_c, Nat.reduceAdd, D.fix, ↓reduceIte, Nat.reduceEqDiff, zaw, zax, zaf, zag]
  ·cases ht
theorem zza (a b : Net) (is : Bool) (L : List Bool) (E : Int) (h : zbd Try.prog 31 [zaw a, zaw b, sh9] (.tup [.d (oD is), .d (boolsD L), .d (iD E)])) : zbd Try.prog 11 [zaw a, zaw b, sh9] (.d (zck is L E)) := by
 refine zbg (fn := Try.f11) (by kernel_rfl) Try.func11 rfl (Nat.le_of_ble_eq_true rfl) fun c hc hp => ?_
 refine zbh (τ' := frL [(0, .d (zaw a)), (1, .d (zaw b)), (2, .d (sh9))]) (by repeat (first | exact zam _ | refine zai ?_ (by first | rfl | (simp [r_f, zaa, zab]; done) | simp [r_f, zaa, zab, *]))) ?_
 refine zac hp zak hc rfl fun K1 hK1 => ?_
 simp -dsimp -implicitDefEqProofs (disch := first | assumption | omega | (simp only [r_z, zaa, zab] <;> omega) | decide) only [r_r, ↓reduceIte, Nat.reduceEqDiff, Nat.reduceAdd, D.fix, Int.reduceToNat, Nat.reduceMul, Nat.reduceBNe, Nat.reduceBEq, zaw, zax, zaf, zag, zck, zg5]
 refine hK1 _ _ ?_
 refine zac hp zak hc rfl fun K2 hK2 => ?_
 simp -dsimp -implicitDefEqProofs (disch := first | assumption | omega | (simp only [r_z, zaa, zab] <;> omega) | decide) only [r_r, ↓reduceIte, Nat.reduceEqDiff, Nat.reduceAdd, D.fix, Int.reduceToNat, Nat.reduceMul, Nat.reduceBNe, Nat.reduceBEq, zaw, zax, zaf, zag, zck, zg5]
 refine zb8 (h) rfl ?_
 simp -dsimp -implicitDefEqProofs (disch := first | assumption | omega | (simp only [r_z, zaa, zab] <;> omega) | decide) only [r_r, ↓reduceIte, Nat.reduceEqDiff, Nat.reduceAdd, D.fix, Int.reduceToNat, Nat.reduceMul, Nat.reduceBNe, Nat.reduceBEq, zaw, zax, zaf, zag, zck, zg5]
 refine hK2 _ _ ?_
 refine zac hp zak hc rfl fun K3 hK3 => ?_
 simp -dsimp -implicitDefEqProofs (disch := first | assumption | omega | (simp only [r_z, zaa, zab] <;> omega) | decide) only [r_r, ↓reduceIte, Nat.reduceEqDiff, Nat.reduceAdd, D.fix, Int.reduceToNat, Nat.reduceMul, Nat.reduceBNe, Nat.reduceBEq, zaw, zax, zaf, zag, zck, zg5]
 refine hK3 _ _ ?_
 refine za4 ?_
 try dsimp only [zjd, zcz]
 refine zdk rfl ?_
 simp -dsimp -implicitDefEqProofs (disch := first | assumption | omega | (simp only [r_z, zaa, zab] <;> omega) | decide) only [r_r, ↓reduceIte, Nat.reduceEqDiff, Nat.reduceAdd, D.fix, Int.reduceToNat, Nat.reduceMul, Nat.reduceBNe, Nat.reduceBEq, zaw, zax, zaf, zag, zck, zn0, zn1]
 show closeA _ _ = _
 simp (disch := first | assumption | omega | (simp only [r_z, zaa, zab] <;> omega) | decide) only [r_c, Nat.reduceAdd, D.fix, ↓reduceIte, Nat.reduceEqDiff, zaw, zax, zaf, zag, zck]
theorem jtd : zbd Try.prog 11 [zaw exA, zaw exB, sh9] (.d (zck false [] 1)) := zza exA exB false [] 1 (jlz exA exB exM 2 jel jrq)
def tAn : T := .node 0 (.leaf false) (zqe 1)
def tNa : T := .node 0 (.leaf true) (.node 1 (.leaf true) (.leaf false))
def exT : List T := [.leaf false, .leaf true, zqe 0, zqe 1, tAn, tNa, tAn]
theorem jte : GatesOk (2 + exC.ins.length) exC.gates := fun k hk => by
 match k, hk with
 | 0, _ => exact gok (by decide)
 | 1, _ => exact gok (by decide)
 | 2, _ => exact gok (by decide)
theorem jrr {fs : List T} (hF : FsP (zc3 exC.ins.length []) exC.ins.length [] exC.gates exC.gates.length fs) : fs = exT := by
 have hl : fs.length = 7 := hF.len
 have e2 := hF.fv 0 (by decide)
 have e3 := hF.fv 1 (by decide)
 have t4 : ∀ a, (nth fs 4).eval a = (a 0 && a 1) := fun a => by
  refine (hF.fg 0 (by decide) a).trans ?_
  show ((nth (fs.take 4) 2).eval a && (nth (fs.take 4) 3).eval a) = _
  rw [zej (by omega), zej (by omega), e2, e3]
  simp [zqe, T.eval]
 have t5 : ∀ a, (nth fs 5).eval a = !(a 0 && a 1) := fun a => by
  refine (hF.fg 1 (by decide) a).trans ?_
  show (!(nth (fs.take 5) 4).eval a) = _
  rw [zej (by omega), t4]
 have t6 : ∀ a, (nth fs 6).eval a = (a 0 && a 1) := fun a => by
  refine (hF.fg 2 (by decide) a).trans ?_
  show (!(nth (fs.take 6) 5).eval a) = _
  rw [zej (by omega), t5]; simp
 have hok : ∀ k, k < 7 → (nth fs k).Ok 2 0 := fun k hk => hF.ok _ (zb9 (by omega))
 refine znc (by rw [hl]; rfl) fun k hk => ?_
 rw [hl] at hk
 match k, hk with
 | 0, _ => exact hF.f0
 | 1, _ => exact hF.f1
 | 2, _ => exact e2
 | 3, _ => exact e3
 | 4, _ => exact T.Ok.eq (hok 4 (by decide)) (show tAn.Ok 2 0 by simp [tAn, zqe, T.Ok]) fun a => by rw [t4]; show _ = tAn.eval a; simp only [tAn, zqe, T.eval]; cases a 0 <;> cases a 1 <;> rfl
 | 5, _ => exact T.Ok.eq (hok 5 (by decide)) (show tNa.Ok 2 0 by simp [tNa, T.Ok]) fun a => by rw [t5]; show _ = tNa.eval a; simp only [tNa, T.eval]; cases a 0 <;> cases a 1 <;> rfl
 | 6, _ => exact T.Ok.eq (hok 6 (by decide)) (show tAn.Ok 2 0 by simp [tAn, zqe, T.Ok]) fun a => by rw [t6]; show _ = tAn.eval a; simp only [tAn, zqe, T.eval]; cases a 0 <;> cases a 1 <;> rfl
theorem jrs : zbd Try.prog 17 [zaw exC, shD []] (.d (clD [0, 1, 2, 3, 4, 5, 4] 0)) := by
 obtain ⟨L, E, hS, hc⟩ := jlw (n := exC) ⟨by decide, by decide, jte⟩ jek (by decide)
 rcases hS with ⟨_, _, fs, hF, hbig⟩ | ⟨rfl, fs, hF, rfl⟩
 ·exact absurd hbig (zqn hF (by decide) (by decide))
 ·rw [jrr hF] at hc
  rw [show ((exT.map (num (zeq exT))).map fun r => (zzd (exT.map (num (zeq exT))) r : Int)) = [0, 1, 2, 3, 4, 5, 4] by kernel_rfl] at hc
  exact jec exC [] _ 0 hc
end Go.Proofs.Ytignimmnnccblaa

/- The chapter's examples. -/
set_option linter.unusedVariables false
set_option linter.unusedSimpArgs false
set_option maxRecDepth 100000
set_option maxHeartbeats 4000000
namespace Go.Proofs.Ytignimmnnccblaa
open Go Go.RowKit
theorem zhv : (((((((type_of% @zy1) ∧ (type_of% @zlh)) ∧ ((type_of% @zli) ∧ ((type_of% @zlj) ∧ (type_of% @zsg)))) ∧ (((type_of% @zsh) ∧ (type_of% @zy0)) ∧ ((type_of% @zyz) ∧ ((type_of% @zfs) ∧ (type_of% @zft))))) ∧ ((((type_of% @zfu) ∧ (type_of% @zfv)) ∧ ((type_of% @jer) ∧ ((type_of% @jes) ∧ (type_of% @zhw)))) ∧ (((type_of% @zhx) ∧ ((type_of% @zsi) ∧ (type_of% @zih))) ∧ ((type_of% @zii) ∧ ((type_of% @zij) ∧ (type_of% @zik)))))) ∧ (((((type_of% @zil) ∧ (type_of% @zjf)) ∧ ((type_of% @zjg) ∧ ((type_of% @zl6) ∧ (type_of% @zl5)))) ∧ (((type_of% @zgz) ∧ (type_of% @zg0)) ∧ ((type_of% @zg1) ∧ ((type_of% @zg2) ∧ (type_of% @zdm))))) ∧ ((((type_of% @zdn) ∧ (type_of% @zdo)) ∧ ((type_of% @zdv) ∧ ((type_of% @zr9) ∧ (type_of% @zib)))) ∧ (((type_of% @zic) ∧ ((type_of% @zid) ∧ (type_of% @zie))) ∧ ((type_of% @zd1) ∧ ((type_of% @zd2) ∧ (type_of% @zht))))))) ∧ ((((((type_of% @zhs) ∧ (type_of% @ze4)) ∧ ((type_of% @ze5) ∧ ((type_of% @zfd) ∧ (type_of% @zfe)))) ∧ (((type_of% @zff) ∧ (type_of% @zfg)) ∧ ((type_of% @jc4) ∧ ((type_of% @jc5) ∧ (type_of% @jf0))))) ∧ ((((type_of% @jfz) ∧ (type_of% @jcw)) ∧ ((type_of% @jcx) ∧ ((type_of% @jfy) ∧ (type_of% @jfx)))) ∧ (((type_of% @jc9) ∧ ((type_of% @jda) ∧ (type_of% @zkk))) ∧ ((type_of% @zkl) ∧ ((type_of% @zkm) ∧ (type_of% @jc6)))))) ∧ (((((type_of% @jc7) ∧ (type_of% @zkg)) ∧ ((type_of% @zkh) ∧ ((type_of% @zki) ∧ (type_of% @zkj)))) ∧ (((type_of% @zyw) ∧ (type_of% @zlc)) ∧ ((type_of% @zld) ∧ ((type_of% @zlg) ∧ (type_of% @zn0))))) ∧ ((((type_of% @zn1) ∧ (type_of% @zsb)) ∧ ((type_of% @zsa) ∧ ((type_of% @zle) ∧ (type_of% @zlf)))) ∧ (((type_of% @jc1) ∧ ((type_of% @jc2) ∧ (type_of% @jcy))) ∧ ((type_of% @jcz) ∧ ((type_of% @jr1) ∧ (type_of% @jr2)))))))) := ⟨⟨⟨⟨⟨⟨@zy1, @zlh⟩, ⟨@zli, ⟨@zlj, @zsg⟩⟩⟩, ⟨⟨@zsh, @zy0⟩, ⟨@zyz, ⟨@zfs, @zft⟩⟩⟩⟩, ⟨⟨⟨@zfu, @zfv⟩, ⟨@jer, ⟨@jes, @zhw⟩⟩⟩, ⟨⟨@zhx, ⟨@zsi, @zih⟩⟩, ⟨@zii, ⟨@zij, @zik⟩⟩⟩⟩⟩, ⟨⟨⟨⟨@zil, @zjf⟩, ⟨@zjg, ⟨@zl6, @zl5⟩⟩⟩, ⟨⟨@zgz, @zg0⟩, ⟨@zg1, ⟨@zg2, @zdm⟩⟩⟩⟩, ⟨⟨⟨@zdn, @zdo⟩, ⟨@zdv, ⟨@zr9, @zib⟩⟩⟩, ⟨⟨@zic, ⟨@zid, @zie⟩⟩, ⟨@zd1, ⟨@zd2, @zht⟩⟩⟩⟩⟩⟩, ⟨⟨⟨⟨⟨@zhs, @ze4⟩, ⟨@ze5, ⟨@zfd, @zfe⟩⟩⟩, ⟨⟨@zff, @zfg⟩, ⟨@jc4, ⟨@jc5, @jf0⟩⟩⟩⟩, ⟨⟨⟨@jfz, @jcw⟩, ⟨@jcx, ⟨@jfy, @jfx⟩⟩⟩, ⟨⟨@jc9, ⟨@jda, @zkk⟩⟩, ⟨@zkl, ⟨@zkm, @jc6⟩⟩⟩⟩⟩, ⟨⟨⟨⟨@jc7, @zkg⟩, ⟨@zkh, ⟨@zki, @zkj⟩⟩⟩, ⟨⟨@zyw, @zlc⟩, ⟨@zld, ⟨@zlg, @zn0⟩⟩⟩⟩, ⟨⟨⟨@zn1, @zsb⟩, ⟨@zsa, ⟨@zle, @zlf⟩⟩⟩, ⟨⟨@jc1, ⟨@jc2, @jcy⟩⟩, ⟨@jcz, ⟨@jr1, @jr2⟩⟩⟩⟩⟩⟩⟩
theorem jtf : zbd Try.prog 12 [zck false [true, true] 0, zck false [true, true] 0] (.d (oD true)) := jjx false false [true, true] [true, true] 0 0 (by decide)
theorem jtg : zbd Try.prog 12 [zck true [] 0, zck true [] 0] (.d (oD true)) := jjx true true [] [] 0 0 (by decide)
theorem jl0 : zbd Try.prog 29 [intsD [0, 1, 2, 3, 4, 5, 4], intsD [0, 1, 2, 3, 4, 5, 4]] (.d (oD true)) := jqf [0, 1, 2, 3, 4, 5, 4] [0, 1, 2, 3, 4, 5, 4] (by decide)
theorem zzb : zbd Try.prog 7 [] (.d (oD true)) := by
 refine zbg (fn := Try.f7) (by kernel_rfl) Try.func7 rfl (Nat.le_of_ble_eq_true rfl) fun c hc hp => ?_
 refine zbh (τ' := frL []) (zam _) ?_
 refine zac hp zak hc rfl fun K1 hK1 => ?_
 simp -dsimp -implicitDefEqProofs (disch := first | assumption | omega | (simp only [r_z] <;> omega) | decide) only [r_r, ↓reduceIte, Nat.reduceEqDiff, Nat.reduceAdd, D.fix, Int.reduceToNat, Nat.reduceMul, Nat.reduceBNe, Nat.reduceBEq, r_e, zaw, zax, zaf, zag, zck, clD, beq_self_eq_true, Int.reduceBEq, Int.reduceBNe, bne_self_eq_false]
 refine hK1 _ _ ?_
 refine zac hp zak hc rfl fun K2 hK2 => ?_
 simp -dsimp -implicitDefEqProofs (disch := first | assumption | omega | (simp only [r_z] <;> omega) | decide) only [r_r, ↓reduceIte, Nat.reduceEqDiff, Nat.reduceAdd, D.fix, Int.reduceToNat, Nat.reduceMul, Nat.reduceBNe, Nat.reduceBEq, r_e, zaw, zax, zaf, zag, zck, clD, beq_self_eq_true, Int.reduceBEq, Int.reduceBNe, bne_self_eq_false, zhv]
 refine hK2 _ _ ?_
 refine zac hp zak hc rfl fun K3 hK3 => ?_
 simp -dsimp -implicitDefEqProofs (disch := first | assumption | omega | (simp only [r_z] <;> omega) | decide) only [r_r, ↓reduceIte, Nat.reduceEqDiff, Nat.reduceAdd, D.fix, Int.reduceToNat, Nat.reduceMul, Nat.reduceBNe, Nat.reduceBEq, r_e, zaw, zax, zaf, zag, zck, clD, beq_self_eq_true, Int.reduceBEq, Int.reduceBNe, bne_self_eq_false, zhv]
 refine hK3 _ _ ?_
 refine zac hp zak hc rfl fun K4 hK4 => ?_
 simp -dsimp -implicitDefEqProofs (disch := first | assumption | omega | (simp only [r_z] <;> omega) | decide) only [r_r, ↓reduceIte, Nat.reduceEqDiff, Nat.reduceAdd, D.fix, Int.reduceToNat, Nat.reduceMul, Nat.reduceBNe, Nat.reduceBEq, r_e, zaw, zax, zaf, zag, zck, clD, beq_self_eq_true, Int.reduceBEq, Int.reduceBNe, bne_self_eq_false, zhv]
 refine hK4 _ _ ?_
 refine zac hp zak hc rfl fun K5 hK5 => ?_
 simp -dsimp -implicitDefEqProofs (disch := first | assumption | omega | (simp only [r_z] <;> omega) | decide) only [r_r, ↓reduceIte, Nat.reduceEqDiff, Nat.reduceAdd, D.fix, Int.reduceToNat, Nat.reduceMul, Nat.reduceBNe, Nat.reduceBEq, r_e, zaw, zax, zaf, zag, zck, clD, beq_self_eq_true, Int.reduceBEq, Int.reduceBNe, bne_self_eq_false, zhv]
 refine hK5 _ _ ?_
 refine zac hp zak hc rfl fun K6 hK6 => ?_
 simp -dsimp -implicitDefEqProofs (disch := first | assumption | omega | (simp only [r_z] <;> omega) | decide) only [r_r, ↓reduceIte, Nat.reduceEqDiff, Nat.reduceAdd, D.fix, Int.reduceToNat, Nat.reduceMul, Nat.reduceBNe, Nat.reduceBEq, r_e, zaw, zax, zaf, zag, zck, clD, beq_self_eq_true, Int.reduceBEq, Int.reduceBNe, bne_self_eq_false, zhv]
 refine hK6 _ _ ?_
 refine zac hp zak hc rfl fun K7 hK7 => ?_
 simp -dsimp -implicitDefEqProofs (disch := first | assumption | omega | (simp only [r_z] <;> omega) | decide) only [r_r, ↓reduceIte, Nat.reduceEqDiff, Nat.reduceAdd, D.fix, Int.reduceToNat, Nat.reduceMul, Nat.reduceBNe, Nat.reduceBEq, r_e, zaw, zax, zaf, zag, zck, clD, beq_self_eq_true, Int.reduceBEq, Int.reduceBNe, bne_self_eq_false, zhv]
 refine hK7 _ _ ?_
 refine zb3 hp (τ' := frL [(3, .d (.fp (zax exA) 0)), (4, .d (.fp (zax exB) 0)), (5, .d (.fp (zax exC) 0)), (6, .d (.fp (zax exM) 0))]) (H' := []) ?_ ?_
 ·refine Rt.trans (Rt.fz (id := 0) (l := exA.ins.flatMap zbl) rfl) ?_
  refine Rt.trans (Rt.fz (id := 1) (l := exA.out.flatMap zbl) rfl) ?_
  refine Rt.trans (Rt.fz (id := 2) (l := exA.gates.flatMap zar) rfl) ?_
  refine Rt.trans (Rt.fz (id := 3) (l := [iD 4]) rfl) ?_
  refine Rt.trans (Rt.fz (id := 5) (l := exB.gates.flatMap zar) rfl) ?_
  refine Rt.trans (Rt.fz (id := 6) (l := [iD 4]) rfl) ?_
  refine Rt.trans (Rt.fz (id := 8) (l := exC.gates.flatMap zar) rfl) ?_
  refine Rt.trans (Rt.fz (id := 10) (l := exM.gates.flatMap zar) rfl) ?_
  refine Rt.trans (Rt.fz (id := 11) (l := [iD 6]) rfl) ?_
  refine Rt.trans (Rt.fixc 9 2 rfl rfl) ?_
  refine Rt.trans (Rt.fixc 9 3 rfl rfl) ?_
  refine Rt.trans (Rt.fz (id := 4) (l := zax exA) rfl) ?_
  refine Rt.trans (Rt.fz (id := 7) (l := zax exB) rfl) ?_
  refine Rt.trans (Rt.fz (id := 9) (l := zax exC) rfl) ?_
  refine Rt.trans (Rt.fz (id := 12) (l := zax exM) rfl) ?_
  refine Rt.trans (Rt.gc (keep := []) (by decide) (by decide) (by simp [fzH, gcH])) ?_
  refine Rt.end (by repeat (first | exact zam _ | refine zai ?_ (by first | rfl | (simp [r_f]; done) | simp [r_f, *]))) ?_
  first | rfl | (simp only [r_g, Nat.reduceAdd, ↓reduceIte, Nat.reduceEqDiff, r_e, zaw, zax, zaf, zag, zck, clD, beq_self_eq_true, Int.reduceBEq, Int.reduceBNe, bne_self_eq_false]; first | done | rfl)
 refine zbp zak hc mixed rfl (q := 2) (by kernel_rfl) (by kernel_rfl) fun K8 hK8 => ?_
 simp -dsimp -implicitDefEqProofs (disch := first | assumption | omega | (simp only [r_z] <;> omega) | decide) only [r_r, ↓reduceIte, Nat.reduceEqDiff, Nat.reduceAdd, D.fix, Int.reduceToNat, Nat.reduceMul, Nat.reduceBNe, Nat.reduceBEq, r_e, zaw, zax, zaf, zag, zck, clD, beq_self_eq_true, Int.reduceBEq, Int.reduceBNe, bne_self_eq_false, zhv]
 refine zb8 (js9) rfl ?_
 simp -dsimp -implicitDefEqProofs (disch := first | assumption | omega | (simp only [r_z] <;> omega) | decide) only [r_r, ↓reduceIte, Nat.reduceEqDiff, Nat.reduceAdd, D.fix, Int.reduceToNat, Nat.reduceMul, Nat.reduceBNe, Nat.reduceBEq, r_e, zaw, zax, zaf, zag, zck, clD, beq_self_eq_true, Int.reduceBEq, Int.reduceBNe, bne_self_eq_false, zhv]
 refine zb8 (jrs) rfl ?_
 simp -dsimp -implicitDefEqProofs (disch := first | assumption | omega | (simp only [r_z] <;> omega) | decide) only [r_r, ↓reduceIte, Nat.reduceEqDiff, Nat.reduceAdd, D.fix, Int.reduceToNat, Nat.reduceMul, Nat.reduceBNe, Nat.reduceBEq, r_e, zaw, zax, zaf, zag, zck, clD, beq_self_eq_true, Int.reduceBEq, Int.reduceBNe, bne_self_eq_false, zhv]
 refine hK8 _ _ ?_
 refine zb3 hp (τ' := frL [(3, .d (.fp (zax exA) 0)), (4, .d (.fp (zax exB) 0)), (5, .d (.fp (zax exC) 0)), (6, .d (.fp (zax exM) 0)), (7, .d (.fp (zax exM ++ [iD 0]) 0)), (8, .d (.fp [intsD [0, 1, 2, 3, 4, 5, 4], iD 0] 0))]) (H' := []) ?_ ?_
 ·refine Rt.trans (Rt.fz (id := 0) (l := zax exM ++ [iD 0]) rfl) ?_
  refine Rt.trans (Rt.fz (id := 1) (l := [intsD [0, 1, 2, 3, 4, 5, 4], iD 0]) rfl) ?_
  refine Rt.trans (Rt.gc (keep := []) (by decide) (by decide) (by simp [fzH, gcH])) ?_
  refine Rt.end (by repeat (first | exact zam _ | refine zai ?_ (by first | rfl | (simp [r_f]; done) | simp [r_f, *]))) ?_
  first | rfl | (simp only [r_g, Nat.reduceAdd, ↓reduceIte, Nat.reduceEqDiff, r_e, zaw, zax, zaf, zag, zck, clD, beq_self_eq_true, Int.reduceBEq, Int.reduceBNe, bne_self_eq_false]; first | done | rfl)
 refine zbp zak hc mixed rfl (q := 3) (by kernel_rfl) (by kernel_rfl) fun K9 hK9 => ?_
 simp -dsimp -implicitDefEqProofs (disch := first | assumption | omega | (simp only [r_z] <;> omega) | decide) only [r_r, ↓reduceIte, Nat.reduceEqDiff, Nat.reduceAdd, D.fix, Int.reduceToNat, Nat.reduceMul, Nat.reduceBNe, Nat.reduceBEq, r_e, zaw, zax, zaf, zag, zck, clD, beq_self_eq_true, Int.reduceBEq, Int.reduceBNe, bne_self_eq_false, zhv]
 refine zb8 (jly) rfl ?_
 simp -dsimp -implicitDefEqProofs (disch := first | assumption | omega | (simp only [r_z] <;> omega) | decide) only [r_r, ↓reduceIte, Nat.reduceEqDiff, Nat.reduceAdd, D.fix, Int.reduceToNat, Nat.reduceMul, Nat.reduceBNe, Nat.reduceBEq, r_e, zaw, zax, zaf, zag, zck, clD, beq_self_eq_true, Int.reduceBEq, Int.reduceBNe, bne_self_eq_false, zhv]
 refine zb8 (jta) rfl ?_
 simp -dsimp -implicitDefEqProofs (disch := first | assumption | omega | (simp only [r_z] <;> omega) | decide) only [r_r, ↓reduceIte, Nat.reduceEqDiff, Nat.reduceAdd, D.fix, Int.reduceToNat, Nat.reduceMul, Nat.reduceBNe, Nat.reduceBEq, r_e, zaw, zax, zaf, zag, zck, clD, beq_self_eq_true, Int.reduceBEq, Int.reduceBNe, bne_self_eq_false, zhv]
 refine zb8 (jtf) rfl ?_
 simp -dsimp -implicitDefEqProofs (disch := first | assumption | omega | (simp only [r_z] <;> omega) | decide) only [r_r, ↓reduceIte, Nat.reduceEqDiff, Nat.reduceAdd, D.fix, Int.reduceToNat, Nat.reduceMul, Nat.reduceBNe, Nat.reduceBEq, r_e, zaw, zax, zaf, zag, zck, clD, beq_self_eq_true, Int.reduceBEq, Int.reduceBNe, bne_self_eq_false, zhv]
 refine zb8 (jtb) rfl ?_
 simp -dsimp -implicitDefEqProofs (disch := first | assumption | omega | (simp only [r_z] <;> omega) | decide) only [r_r, ↓reduceIte, Nat.reduceEqDiff, Nat.reduceAdd, D.fix, Int.reduceToNat, Nat.reduceMul, Nat.reduceBNe, Nat.reduceBEq, r_e, zaw, zax, zaf, zag, zck, clD, beq_self_eq_true, Int.reduceBEq, Int.reduceBNe, bne_self_eq_false, zhv]
 refine zb8 (jtg) rfl ?_
 simp -dsimp -implicitDefEqProofs (disch := first | assumption | omega | (simp only [r_z] <;> omega) | decide) only [r_r, ↓reduceIte, Nat.reduceEqDiff, Nat.reduceAdd, D.fix, Int.reduceToNat, Nat.reduceMul, Nat.reduceBNe, Nat.reduceBEq, r_e, zaw, zax, zaf, zag, zck, clD, beq_self_eq_true, Int.reduceBEq, Int.reduceBNe, bne_self_eq_false, zhv]
 refine zb8 (jtc) rfl ?_
 simp -dsimp -implicitDefEqProofs (disch := first | assumption | omega | (simp only [r_z] <;> omega) | decide) only [r_r, ↓reduceIte, Nat.reduceEqDiff, Nat.reduceAdd, D.fix, Int.reduceToNat, Nat.reduceMul, Nat.reduceBNe, Nat.reduceBEq, r_e, zaw, zax, zaf, zag, zck, clD, beq_self_eq_true, Int.reduceBEq, Int.reduceBNe, bne_self_eq_false, zhv]
 refine zb8 (jl0) rfl ?_
 simp -dsimp -implicitDefEqProofs (disch := first | assumption | omega | (simp only [r_z] <;> omega) | decide) only [r_r, ↓reduceIte, Nat.reduceEqDiff, Nat.reduceAdd, D.fix, Int.reduceToNat, Nat.reduceMul, Nat.reduceBNe, Nat.reduceBEq, r_e, zaw, zax, zaf, zag, zck, clD, beq_self_eq_true, Int.reduceBEq, Int.reduceBNe, bne_self_eq_false, zhv]
 refine zb8 (jtd) rfl ?_
 simp -dsimp -implicitDefEqProofs (disch := first | assumption | omega | (simp only [r_z] <;> omega) | decide) only [r_r, ↓reduceIte, Nat.reduceEqDiff, Nat.reduceAdd, D.fix, Int.reduceToNat, Nat.reduceMul, Nat.reduceBNe, Nat.reduceBEq, r_e, zaw, zax, zaf, zag, zck, clD, beq_self_eq_true, Int.reduceBEq, Int.reduceBNe, bne_self_eq_false, zhv]
 refine hK9 _ _ ?_
 refine za4 ?_
 show closeA _ _ = _
 simp (disch := first | assumption | omega | (simp only [r_z] <;> omega) | decide) only [r_c, Nat.reduceAdd, D.fix, ↓reduceIte, Nat.reduceEqDiff, r_e, zaw, zax, zaf, zag, zck, clD, beq_self_eq_true, Int.reduceBEq, Int.reduceBNe, bne_self_eq_false]
end Go.Proofs.Ytignimmnnccblaa
