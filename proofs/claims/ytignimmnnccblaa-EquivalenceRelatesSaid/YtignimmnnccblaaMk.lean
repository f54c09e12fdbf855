/- What comparisons and classes say of the values. -/
import Derived.Test.YtignimmnnccblaaMg
import Derived.Test.YtignimmnnccblaaQr
set_option linter.unusedVariables false
set_option linter.unusedSimpArgs false
namespace Go.Proofs.Ytignimmnnccblaa
open Go Go.RowKit
structure Pair (a b : Net) : Prop where
 qa : NetQ 100 a
 qb : NetQ 100 b
 ins : b.ins = a.ins
 out : b.out = a.out
 dl : b.drive.length = a.drive.length
 sum : a.gates.length + b.gates.length ≤ 180
theorem NetQ.up {m k : Nat} {n : Net} (h : NetQ m n) (hk : m ≤ k) : NetQ k n := ⟨h.i1, h.i2, Nat.le_trans h.g1 hk, h.g2, h.d0, h.d1, h.d2, h.d3⟩
theorem Pair.mit {a b : Net} (h : Pair a b) : MitOk (2 + a.ins.length) a b := by
 have hb := h.qb.g2
 have hd := h.qb.d2
 rw [h.ins] at hb hd
 exact ⟨by omega, h.qa.g2, hb, h.qa.d2, hd, h.dl.symm⟩
theorem Pair.len {a b : Net} (h : Pair a b) : (zkz a b).gates.length ≤ 200 ∧ (zkz a b).gates.length = a.gates.length + b.gates.length + a.drive.length + (a.drive.length - 1) := by
 have e : (zkz a b).gates.length = a.gates.length + b.gates.length + a.drive.length + (a.drive.length - 1) := jd1 _ _ _ _ _
 have := h.sum
 have := h.qa.d1
 omega
theorem Pair.gates {a b : Net} (h : Pair a b) : GatesOk (2 + (zkz a b).ins.length) (zkz a b).gates :=
 zte h.mit (Nat.le_refl _) (.inr ⟨rfl, by have := h.qa.d3; omega⟩)
def jlt (a b : Net) : Nat := (zyf (2 + a.ins.length + a.gates.length + b.gates.length) a.drive.length (a.drive.length - 1)).toNat
theorem Pair.lst {a b : Net} (h : Pair a b) : (zkz a b).drive = [(jlt a b : Int)] ∧ jlt a b < 2 + (zkz a b).ins.length + (zkz a b).gates.length := by
 have hl := h.len.2
 have hd := h.qa.d3
 have e : (zkz a b).ins.length = a.ins.length := rfl
 obtain ⟨b0, b1, b2⟩ := jq6 (2 + a.ins.length + a.gates.length + b.gates.length) a.drive.length (a.drive.length - 1)
 have e2 : zyf (2 + a.ins.length + a.gates.length + b.gates.length) a.drive.length (a.drive.length - 1) < ((2 + a.ins.length + a.gates.length + b.gates.length + a.drive.length + (a.drive.length - 1) : Nat) : Int) := by
  by_cases h1 : a.drive.length - 1 = 0
  ·rw [b1 h1]; omega
  ·rw [b2 (a.drive.length - 1 - 1) (by omega)]; omega
 refine ⟨?_, ?_⟩
 ·show [zyf _ _ _] = _
  unfold jlt
  congr 1; omega
 ·unfold jlt
  rw [hl, e]; omega
def zk2 (a b : Net) (sh : Sh) (l : List Bool) : Bool := !decide (jd7 a sh l = jd7 b sh l)
theorem Pair.value {a b : Net} (h : Pair a b) {sh : Sh} (hsh : ShOk sh) {V : Nat} {fs : List T} (hF : FsP V (zkz a b).ins.length sh (zkz a b).gates (zkz a b).gates.length fs) (l : List Bool) : (nth fs (jlt a b)).eval (atB l) = zk2 a b sh l := by
 have hm := jsl hsh hF h.gates l (zkz a b).gates.length (Nat.le_refl _) (jlt a b) h.lst.2
 rw [List.take_length] at hm
 rw [← hm]
 have hv := jd2 (a := a) (b := b) (v := false :: true :: zl9 a.ins.length l) (by
  have e : (false :: true :: zl9 a.ins.length l).length = 2 + a.ins.length := by simp [ziv]; omega
  rw [e]; exact h.mit) (zg8 a.ins.length sh l) h.qa.d3
 have e : (false :: true :: zl9 a.ins.length l).length = 2 + a.ins.length := by simp [ziv]; omega
 rw [e] at hv
 unfold zk2 jd7 zta
 rw [h.ins]
 exact hv
theorem ztk (a : Net) (sh : Sh) (l : List Bool) : zk2 a a sh l = false := by unfold zk2; rw [decide_eq_true rfl]; rfl
theorem jee (a b : Net) (sh : Sh) (l : List Bool) : zk2 a b sh l = zk2 b a sh l := by
 unfold zk2
 by_cases h : jd7 a sh l = jd7 b sh l
 ·rw [decide_eq_true h, decide_eq_true h.symm]
 ·rw [decide_eq_false h, decide_eq_false fun e => h e.symm]
theorem zzg {a b c : Net} {sh : Sh} {l : List Bool} (h : zk2 a b sh l = false) : zk2 b c sh l = zk2 a c sh l := by
 unfold zk2 at h ⊢
 have e : jd7 a sh l = jd7 b sh l := by simpa using h
 rw [e]
def CmpS (a b : Net) (sh : Sh) (is : Bool) (L : List Bool) (E : Int) : Prop :=
 (is = false ∧ L = [] ∧ E = 2 ∧ ∃ fs, FsP (zci a.ins.length sh) a.ins.length sh (zkz a b).gates (zkz a b).gates.length fs ∧ 3000 < (zem fs).length) ∨
 (is = true ∧ L = [] ∧ E = 0 ∧ ∀ l, zk2 a b sh l = false) ∨
 (is = false ∧ E = 0 ∧ ∃ i : Nat, i < 2 ^ zci a.ins.length sh ∧ zk2 a b sh (zhz (zci a.ins.length sh) (i : Int)) = true ∧ (∀ j : Nat, j < i → zk2 a b sh (zhz (zci a.ins.length sh) (j : Int)) = false) ∧ L = zhz (zci a.ins.length sh) (i : Int))
theorem jrc {V j : Nat} (hV : V ≤ 60) (h : j < 2 ^ V) : j < 2 ^ 62 := Nat.lt_of_lt_of_le h (Nat.pow_le_pow_right (by decide) (by omega))
theorem Pair.compare {a b : Net} (h : Pair a b) {sh : Sh} (hsh : ShOk sh) (hsv : zci a.ins.length sh ≤ a.ins.length + 5) : ∃ is L E, CmpS a b sh is L E ∧ zbf Try.prog 31 [zas a, zas b, shD sh] (.tup [.d (oD is), .d (boolsD L), .d (iD E)]) := by
 have hi9 := h.qa.i2
 have hmi : (zkz a b).ins.length = a.ins.length := rfl
 obtain ⟨V, hV⟩ : ∃ V, V = zci a.ins.length sh := ⟨_, rfl⟩
 have hV60 : V ≤ 60 := by omega
 obtain ⟨fs, hF⟩ := jlk (ins := a.ins.length) (sh := sh) (gates := (zkz a b).gates) _ (Nat.le_refl _)
 have hl := hF.len
 have hlen := h.len
 have hlst := h.lst
 have hno : (zkz a b).drive.any (zuf (2 + (zkz a b).ins.length + (zkz a b).gates.length)) = false := by rw [hlst.1]; exact jq3 hlst.2
 have hB := jjw (n := zkz a b) (sh := sh) (nodes := (zkz a b).drive) hi9 hlen.1 hsh hsv h.gates hno (by rw [hlst.1]; simp)
 have hM := jd4 a b h.ins h.out h.mit (by omega) (by have := h.qa.d0; have := h.qa.d1; omega) (by have := h.qa.g1; omega) (by have := h.qb.g1; omega) h.qa.d3 (by have := h.qa.d1; omega)
 by_cases hbig : 3000 < (zem fs).length
 ·refine ⟨false, [], 2, .inl ⟨rfl, rfl, rfl, fs, hF, hbig⟩, ?_⟩
  exact jlq a b (zkz a b) sh _ hM hsh (by omega) rfl (by rw [hmi]; omega) (ztg hF h.gates (by omega) hB hbig)
 ·have hbo := zyi hF h.gates (by omega) hB hbig
  obtain ⟨t, ht⟩ : ∃ t, t = nth fs (jlt a b) := ⟨_, rfl⟩
  have hroots : zft fs (zkz a b).drive = [t] := by rw [hlst.1, ht]; rfl
  have hok : t.Ok V 0 := by rw [ht, hV]; exact hF.ok _ (zb6 (by omega))
  have hfull := zyd (V := zci a.ins.length sh) (fs := fs) hF.ok
  have hle := jdf hfull (fs := [t]) fun s hs => by
   rw [List.mem_singleton.1 hs, ht]; exact zg7 (zb6 (by omega))
  have hO : One V (zem [t]) t := ⟨zyd fun s hs => by rw [List.mem_singleton.1 hs]; exact hok, by omega, hok, zg7 (List.mem_singleton.2 rfl)⟩
  have hval : ∀ l, t.eval (atB l) = zk2 a b sh l := fun l => by rw [ht]; exact h.value hsh hF l
  have hasn : ∀ j, j < 2 ^ V → t.eval (asn V j) = zk2 a b sh (zhz V (j : Int)) := fun j hj => by rw [← hval, jdu (jrc hV60 hj) hV60]
  rw [hroots] at hbo
  have hA := jsj V (zem [t]) [num (zem [t]) t] hO.row (by omega) (by unfold zeo; have := hO.len; omega) ((num (zem [t]) t : Nat) : Int) (V : Nat)
  have hnl : (zlo (zem [t])).length ≤ 1000000 := by rw [zam]; have := hO.len; omega
  by_cases ht0 : t = .leaf false
  ·obtain ⟨hL, hE⟩ := hO.none hV60 fun j _ => by rw [ht0]; rfl
   rw [hL, hE] at hA
   refine ⟨true, [], 0, .inr (.inl ⟨rfl, rfl, rfl, fun l => by rw [← hval, ht0]; rfl⟩), ?_⟩
   exact jjz a b (zkz a b) sh V hM hsh (by omega) hV.symm hV60 _ _ hnl hbo [] 4 hA (.inl ⟨rfl, rfl⟩)
  ·have hex : ∃ i, i < 2 ^ V ∧ t.eval (asn V i) = true := by
    refine Classical.byContradiction fun hn => ht0 (jdw (n := V) hok (s := .leaf false) (j := 0) trivial fun i hi => ?_)
    cases hc : t.eval (asn V i) with
    | false => rfl
    | true => exact absurd ⟨i, hi, hc⟩ hn
   obtain ⟨i0, hi0, hi0t⟩ := hex
   have hp1 := zky hok (Nat.zero_le _) ht0
   have hp2 := zmv hok (Nat.zero_le _)
   have hple : zn7 V t ≤ i0 := Nat.le_of_not_lt fun hc => by rw [hp2 i0 hc] at hi0t; cases hi0t
   obtain ⟨hL, hE⟩ := hO.some hV60 (i := zn7 V t) (Nat.lt_of_le_of_lt hple hi0) (fun j hj => hp2 j hj) hp1
   have hplt : zn7 V t < 2 ^ V := Nat.lt_of_le_of_lt hple hi0
   rw [hL, hE] at hA
   refine ⟨false, zhz V (zn7 V t : Nat), 0, .inr (.inr ⟨rfl, rfl, zn7 V t, by rw [← hV]; exact hplt, ?_, fun j hj => ?_, by rw [← hV]⟩), ?_⟩
   ·rw [← hV, ← hasn _ hplt]; exact hp1
   ·rw [← hV, ← hasn _ (Nat.lt_trans hj hplt)]; exact hp2 j hj
   ·exact jjz a b (zkz a b) sh V hM hsh (by omega) hV.symm hV60 _ _ hnl hbo _ 0 hA (.inr rfl)
end Go.Proofs.Ytignimmnnccblaa

/- The classes, by values; the chapter's examples. -/
set_option linter.unusedVariables false
set_option linter.unusedSimpArgs false
set_option maxRecDepth 100000
set_option maxHeartbeats 4000000
namespace Go.Proofs.Ytignimmnnccblaa
open Go Go.RowKit
theorem zhb : ((((((type_of% @zds) ∧ ((type_of% @zdt) ∧ (type_of% @zdc))) ∧ ((type_of% @zdd) ∧ ((type_of% @zfw) ∧ (type_of% @zfx)))) ∧ (((type_of% @zfy) ∧ ((type_of% @zfz) ∧ (type_of% @ze9))) ∧ ((type_of% @zfa) ∧ ((type_of% @zfc) ∧ (type_of% @zdu))))) ∧ ((((type_of% @zdv) ∧ ((type_of% @zg1) ∧ (type_of% @zg2))) ∧ ((type_of% @zg3) ∧ ((type_of% @zg4) ∧ (type_of% @zdf)))) ∧ (((type_of% @zdg) ∧ ((type_of% @zdh) ∧ (type_of% @zdq))) ∧ (((type_of% @ze4) ∧ (type_of% @ze5)) ∧ ((type_of% @ze6) ∧ (type_of% @ze7)))))) ∧ (((((type_of% @zlz) ∧ ((type_of% @zl0) ∧ (type_of% @zhq))) ∧ ((type_of% @zhr) ∧ ((type_of% @zei) ∧ (type_of% @zej)))) ∧ (((type_of% @zj1) ∧ ((type_of% @zj0) ∧ (type_of% @zjk))) ∧ (((type_of% @zjl) ∧ (type_of% @zjm)) ∧ ((type_of% @zg6) ∧ (type_of% @zg5))))) ∧ ((((type_of% @zmn) ∧ ((type_of% @zmo) ∧ (type_of% @zre))) ∧ ((type_of% @znz) ∧ ((type_of% @zn0) ∧ (type_of% @zsv)))) ∧ (((type_of% @zsu) ∧ ((type_of% @jen) ∧ (type_of% @jeo))) ∧ (((type_of% @zsw) ∧ (type_of% @zif)) ∧ ((type_of% @zig) ∧ (type_of% @zih))))))) := ⟨⟨⟨⟨⟨@zds, ⟨@zdt, @zdc⟩⟩, ⟨@zdd, ⟨@zfw, @zfx⟩⟩⟩, ⟨⟨@zfy, ⟨@zfz, @ze9⟩⟩, ⟨@zfa, ⟨@zfc, @zdu⟩⟩⟩⟩, ⟨⟨⟨@zdv, ⟨@zg1, @zg2⟩⟩, ⟨@zg3, ⟨@zg4, @zdf⟩⟩⟩, ⟨⟨@zdg, ⟨@zdh, @zdq⟩⟩, ⟨⟨@ze4, @ze5⟩, ⟨@ze6, @ze7⟩⟩⟩⟩⟩, ⟨⟨⟨⟨@zlz, ⟨@zl0, @zhq⟩⟩, ⟨@zhr, ⟨@zei, @zej⟩⟩⟩, ⟨⟨@zj1, ⟨@zj0, @zjk⟩⟩, ⟨⟨@zjl, @zjm⟩, ⟨@zg6, @zg5⟩⟩⟩⟩, ⟨⟨⟨@zmn, ⟨@zmo, @zre⟩⟩, ⟨@znz, ⟨@zn0, @zsv⟩⟩⟩, ⟨⟨@zsu, ⟨@jen, @jeo⟩⟩, ⟨⟨@zsw, @zif⟩, ⟨@zig, @zih⟩⟩⟩⟩⟩⟩
theorem zun (n : Net) (sh : Sh) (hi : n.ins.length ≤ 1000) (hg : n.gates.length ≤ 1000) (h : zbf Try.prog 48 [zas n, shD sh, intsD (zya n)] (.tup [.d (zby [] []), .d (iD 2)])) : zbf Try.prog 32 [zas n, shD sh] (.tup [.d (intsD []), .d (iD 2)]) := by
 refine zbi (fn := Try.f32) (by kernel_rfl) Try.func32 rfl (Nat.le_of_ble_eq_true rfl) fun c hc hp => ?_
 refine zbk (τ' := frL [(0, .d (zas n)), (1, .d (shD sh))]) (by repeat (first | exact zal _ | refine zai ?_ (by first | rfl | (simp [r_f, zaa, zab, zad, zae, zbc, za9]; done) | simp [r_f, zaa, zab, zad, zae, zbc, za9, *]))) ?_
 refine zac hp zaj hc rfl fun K1 hK1 => ?_
 simp -dsimp -implicitDefEqProofs (disch := first | assumption | omega | (simp only [r_z, zaa, zab, zad, zae, zbc, za9] <;> omega) | decide) only [r_r, ↓reduceIte, Nat.reduceEqDiff, Nat.reduceAdd, D.fix, Int.reduceToNat, Nat.reduceMul, Nat.reduceBNe, Nat.reduceBEq, r_m, zas, zaz, zaf, zag, shD, zby, zb2, zhb]
 refine hK1 _ _ ?_
 refine zac hp zaj hc rfl fun K2 hK2 => ?_
 simp -dsimp -implicitDefEqProofs (disch := first | assumption | omega | (simp only [r_z, zaa, zab, zad, zae, zbc, za9] <;> omega) | decide) only [r_r, ↓reduceIte, Nat.reduceEqDiff, Nat.reduceAdd, D.fix, Int.reduceToNat, Nat.reduceMul, Nat.reduceBNe, Nat.reduceBEq, r_m, zas, zaz, zaf, zag, shD, zby, zb2, zhb]
 refine hK2 _ _ ?_
 refine zan fun K3 hK3 => ?_
 refine zac hp zaj hc rfl fun K4 hK4 => ?_
 simp -dsimp -implicitDefEqProofs (disch := first | assumption | omega | (simp only [r_z, zaa, zab, zad, zae, zbc, za9] <;> omega) | decide) only [r_r, ↓reduceIte, Nat.reduceEqDiff, Nat.reduceAdd, D.fix, Int.reduceToNat, Nat.reduceMul, Nat.reduceBNe, Nat.reduceBEq, r_m, zas, zaz, zaf, zag, shD, zby, zb2, zhb]
 refine hK4 _ _ ?_
 refine za1 ?_
 refine zbd hp (fun τ' H' mm => ∃ (i : Nat), (i ≤ 2 + n.ins.length + n.gates.length) ∧ mm = 2 + n.ins.length + n.gates.length - i ∧ H' = [.cells (avs (zaz n)), .cells (avs (zix (fun j => (j : Int)) (2 + n.ins.length + n.gates.length) i))] ∧ τ' = frL [(1, .d (shD sh)), (2, .op 0 0), (4, .d (.val (.slice none 0 0))), (5, .d (iD 0)), (6, .os 1 1 0 (2 + n.ins.length + n.gates.length)), (26, .d (iD (2 + n.ins.length + n.gates.length : Nat))), (27, .d (iD i))]) (2 + n.ins.length + n.gates.length) ?_ ⟨0, Nat.zero_le _, rfl, rfl, rfl⟩ ?_
 ·refine Rt.trans (Rt.gc (keep := [0,1]) (by decide) (by decide) (by simp [fzH, gcH])) ?_
  refine Rt.end (by repeat (first | exact zal _ | refine zai ?_ (by first | rfl | (simp [r_f, zaa, zab, zad, zae, zbc, za9]; done) | simp [r_f, zaa, zab, zad, zae, zbc, za9, *]))) ?_
  simp only [r_g, Nat.reduceAdd, ↓reduceIte, Nat.reduceEqDiff, r_m, zas, zaz, zaf, zag, shD, zby, zb2]; rw [← jec]; rfl
 rintro τ' H' mm ⟨i, hi2, rfl, rfl, rfl⟩
 refine zac hp zaj hc rfl fun K5 hK5 => ?_
 simp -dsimp -implicitDefEqProofs (disch := first | assumption | omega | (simp only [r_z, zaa, zab, zad, zae, zbc, za9] <;> omega) | decide) only [r_r, ↓reduceIte, Nat.reduceEqDiff, Nat.reduceAdd, D.fix, Int.reduceToNat, Nat.reduceMul, Nat.reduceBNe, Nat.reduceBEq, r_m, zas, zaz, zaf, zag, shD, zby, zb2, zhb]
 refine hK5 _ _ ?_
 refine zan fun K6 hK6 => ?_
 refine zap rfl (fun ht => ?_) (fun ht => ?_)
 ·have hlt : i < 2 + n.ins.length + n.gates.length := by simp at ht; omega
  refine za0 (hK6 _ _ ?_)
  refine zan fun K7 hK7 => ?_
  refine za1 ?_
  refine zac hp zaj hc rfl fun K8 hK8 => ?_
  simp -dsimp -implicitDefEqProofs (disch := first | assumption | omega | (simp only [r_z, zaa, zab, zad, zae, zbc, za9] <;> omega) | decide) only [r_r, ↓reduceIte, Nat.reduceEqDiff, Nat.reduceAdd, D.fix, Int.reduceToNat, Nat.reduceMul, Nat.reduceBNe, Nat.reduceBEq, r_m, zas, zaz, zaf, zag, shD, zby, zb2]
  refine hK8 _ _ ?_
  refine zbt hp zaj hc rfl fun K9 hK9 => ?_
  simp -dsimp -implicitDefEqProofs (disch := first | assumption | omega | (simp only [r_z, zaa, zab, zad, zae, zbc, za9] <;> omega) | decide) only [r_r, ↓reduceIte, Nat.reduceEqDiff, Nat.reduceAdd, D.fix, Int.reduceToNat, Nat.reduceMul, Nat.reduceBNe, Nat.reduceBEq, r_m, zas, zaz, zaf, zag, shD, zby, zb2, zhb]
  refine hK9 _ _ (hK7 _ _ ?_)
  refine zbt hp zaj hc rfl fun K10 hK10 => ?_
  simp -dsimp -implicitDefEqProofs (disch := first | assumption | omega | (simp only [r_z, zaa, zab, zad, zae, zbc, za9] <;> omega) | decide) only [r_r, ↓reduceIte, Nat.reduceEqDiff, Nat.reduceAdd, D.fix, Int.reduceToNat, Nat.reduceMul, Nat.reduceBNe, Nat.reduceBEq, r_m, zas, zaz, zaf, zag, shD, zby, zb2, zhb]
  refine hK10 _ _ ⟨_, _, _, ?_, ⟨i + 1, by omega, rfl, rfl, rfl⟩, ?_⟩
  ·first | omega | (simp only [List.length_cons]; omega) | (dsimp only; omega)
  ·refine Rt.trans (Rt.gc (keep := [0,1]) (by decide) (by decide) (by simp [fzH, gcH])) ?_
   refine Rt.end (by repeat (first | exact zal _ | refine zai ?_ (by first | rfl | (simp [r_f, zaa, zab, zad, zae, zbc, za9]; done) | simp [r_f, zaa, zab, zad, zae, zbc, za9, *]))) ?_
   simp only [r_g, Nat.reduceAdd, ↓reduceIte, Nat.reduceEqDiff, r_m, zas, zaz, zaf, zag, shD, zby, zb2]; rw [← zrc hlt]; rfl
 ·have hie : i = 2 + n.ins.length + n.gates.length := by simp at ht; omega
  have hfa : zix (fun j => (j : Int)) (2 + n.ins.length + n.gates.length) i = (zya n).map iD := by rw [hie, jed]; unfold zya; rw [List.map_map]; rfl
  rw [hfa]
  refine zbl (hK3 _ _ ?_)
  refine zb3 hp (τ' := frL [(1, .d (shD sh)), (2, .op 0 0), (4, .d (.val (.slice none 0 0))), (5, .d (iD 0)), (6, .d (intsD (zya n)))]) (H' := [.cells (avs (zaz n))]) ?_ ?_
  ·refine Rt.trans (Rt.fz (id := 1) rfl) ?_
   refine Rt.trans (Rt.slot 6 (zv7 (zdz (by simp [r_z, zaa, zab, zad, zae, zbc, za9])))) ?_
   refine Rt.trans (Rt.gc (keep := [0]) (by decide) (by decide) (by simp [fzH, gcH])) ?_
   refine Rt.end (by repeat (first | exact zal _ | refine zai ?_ (by first | rfl | (simp [r_f, zaa, zab, zad, zae, zbc, za9]; done) | simp [r_f, zaa, zab, zad, zae, zbc, za9, *]))) ?_
   first | rfl | (simp only [r_g, Nat.reduceAdd, ↓reduceIte, Nat.reduceEqDiff, r_m, zas, zaz, zaf, zag, shD, zby, zb2]; first | done | rfl)
  refine zac hp zaj hc rfl fun K11 hK11 => ?_
  simp -dsimp -implicitDefEqProofs (disch := first | assumption | omega | (simp only [r_z, zaa, zab, zad, zae, zbc, za9] <;> omega) | decide) only [r_r, ↓reduceIte, Nat.reduceEqDiff, Nat.reduceAdd, D.fix, Int.reduceToNat, Nat.reduceMul, Nat.reduceBNe, Nat.reduceBEq, r_m, zas, zaz, zaf, zag, shD, zby, zb2, zhb]
  refine zb8 (h) rfl ?_
  simp -dsimp -implicitDefEqProofs (disch := first | assumption | omega | (simp only [r_z, zaa, zab, zad, zae, zbc, za9] <;> omega) | decide) only [r_r, ↓reduceIte, Nat.reduceEqDiff, Nat.reduceAdd, D.fix, Int.reduceToNat, Nat.reduceMul, Nat.reduceBNe, Nat.reduceBEq, r_m, zas, zaz, zaf, zag, shD, zby, zb2, zhb]
  refine hK11 _ _ ?_
  refine zan fun K12 hK12 => ?_
  refine zac hp zaj hc rfl fun K13 hK13 => ?_
  simp -dsimp -implicitDefEqProofs (disch := first | assumption | omega | (simp only [r_z, zaa, zab, zad, zae, zbc, za9] <;> omega) | decide) only [r_r, ↓reduceIte, Nat.reduceEqDiff, Nat.reduceAdd, D.fix, Int.reduceToNat, Nat.reduceMul, Nat.reduceBNe, Nat.reduceBEq, r_m, zas, zaz, zaf, zag, shD, zby, zb2, zhb]
  refine hK13 _ _ ?_
  refine zap rfl (fun ht => ?_) (fun ht => ?_)
  ·refine zac hp zaj hc rfl fun K14 hK14 => ?_
   simp -dsimp -implicitDefEqProofs (disch := first | assumption | omega | (simp only [r_z, zaa, zab, zad, zae, zbc, za9] <;> omega) | decide) only [r_r, ↓reduceIte, Nat.reduceEqDiff, Nat.reduceAdd, D.fix, Int.reduceToNat, Nat.reduceMul, Nat.reduceBNe, Nat.reduceBEq, r_m, zas, zaz, zaf, zag, shD, zby, zb2]
   refine hK14 _ _ ?_
   refine za6 ?_
   show closeA _ _ = _
   simp (disch := first | assumption | omega | (simp only [r_z, zaa, zab, zad, zae, zbc, za9] <;> omega) | decide) only [r_c, Nat.reduceAdd, D.fix, ↓reduceIte, Nat.reduceEqDiff, r_m, zas, zaz, zaf, zag, shD, zby, zb2]
  ·cases ht
def jua (n : Net) (sh : Sh) (L : List Int) (E : Int) : Prop :=
 (E = 2 ∧ L = [] ∧ ∃ fs, FsP (zci n.ins.length sh) n.ins.length sh n.gates n.gates.length fs ∧ 3000 < (zem fs).length) ∨
 (E = 0 ∧ ∃ fs, FsP (zci n.ins.length sh) n.ins.length sh n.gates n.gates.length fs ∧ L = (fs.map (num (zem fs))).map fun r => (znt (fs.map (num (zem fs))) r : Int))
theorem jef {n : Net} (hn : NetB n) {sh : Sh} (hsh : ShOk sh) (hsv : zci n.ins.length sh ≤ n.ins.length + 5) : ∃ L E, jua n sh L E ∧ zbf Try.prog 32 [zas n, shD sh] (.tup [.d (intsD L), .d (iD E)]) := by
 have hi9 := hn.i1
 have hg1 := hn.g1
 obtain ⟨fs, hF⟩ := jlk (ins := n.ins.length) (sh := sh) (gates := n.gates) _ (Nat.le_refl _)
 have hl := hF.len
 have hB := jjw (n := n) (sh := sh) (nodes := zya n) hi9 (by omega) hsh hsv hn.g2 (jqx n) (by rw [za9]; omega)
 by_cases hbig : 3000 < (zem fs).length
 ·exact ⟨[], 2, .inl ⟨rfl, rfl, fs, hF, hbig⟩, zun n sh (by omega) (by omega) (ztg hF hn.g2 (by omega) hB hbig)⟩
 ·have hbo := zyi hF hn.g2 (by omega) hB hbig
  rw [jdr hl] at hbo
  refine ⟨_, 0, .inr ⟨rfl, fs, hF, rfl⟩, zzf n sh (by omega) (by omega) (zlo (zem fs)) (fs.map (num (zem fs))) (by rw [List.length_map, hl]) (fun r hr => ?_) hbo⟩
  obtain ⟨t, ht, rfl⟩ := List.mem_map.1 hr
  have := zeg (zg7 ht)
  omega
theorem jg3 {rs : List Nat} {i : Nat} (hi : i < rs.length) : znt rs (nth rs i) ≤ i ∧ nth rs (znt rs (nth rs i)) = nth rs i ∧ ∀ j, j < znt rs (nth rs i) → nth rs j ≠ nth rs i := by
 have h1 : znt rs (nth rs i) < rs.length := by
  unfold znt
  exact List.findIdx_lt_length_of_exists ⟨nth rs i, zb6 hi, by simp⟩
 have h3 : ∀ j, j < znt rs (nth rs i) → nth rs j ≠ nth rs i := fun j hj e => by
  have := List.not_of_lt_findIdx (p := fun x => x == nth rs i) hj
  rw [← zb9, e] at this
  simp at this
 have h2 : nth rs (znt rs (nth rs i)) = nth rs i := by
  have := List.findIdx_getElem (p := fun x => x == nth rs i) (xs := rs) (w := h1)
  rw [zb9 h1]
  exact eq_of_beq this
 exact ⟨Nat.le_of_not_lt fun hc => h3 i hc rfl, h2, h3⟩
theorem jeg {fs : List T} {a b : Nat} (ha : a < fs.length) (hb : b < fs.length) : nth (fs.map (num (zem fs))) a = nth (fs.map (num (zem fs))) b ↔ nth fs a = nth fs b := by
 rw [zfs ha, zfs hb]
 exact ⟨fun h => zdb (zg7 (zb6 ha)) (zg7 (zb6 hb)) h, fun h => by rw [h]⟩
def exA : Net := ⟨[⟨1, 0, 0⟩, ⟨1, 0, 1⟩], [⟨4, 2, 3, 0, 0⟩], [⟨6, 0, 0⟩], [4]⟩
def exB : Net := ⟨[⟨1, 0, 0⟩, ⟨1, 0, 1⟩], [⟨3, 2, 3, 0, 0⟩], [⟨6, 0, 0⟩], [4]⟩
def exC : Net := ⟨[⟨1, 0, 0⟩, ⟨1, 0, 1⟩], [⟨2, 2, 3, 0, 0⟩, ⟨1, 4, 0, 0, 0⟩, ⟨1, 5, 0, 0, 0⟩], [], []⟩
def exM : Net := ⟨[⟨1, 0, 0⟩, ⟨1, 0, 1⟩], [⟨4, 2, 3, 0, 0⟩, ⟨3, 2, 3, 0, 0⟩, ⟨4, 4, 5, 0, 0⟩], [⟨6, 0, 0⟩], [6]⟩
theorem gok {m : Nat} {o a b c : Int} (h : 1 ≤ o ∧ o ≤ 7 ∧ 0 ≤ a ∧ a < m ∧ 0 ≤ b ∧ b < m ∧ 0 ≤ c ∧ c < m) : GateOk m ⟨o, a, b, c, 0⟩ := ⟨h.1, h.2.1, h.2.2.1, h.2.2.2.1, h.2.2.2.2.1, h.2.2.2.2.2.1, h.2.2.2.2.2.2.1, h.2.2.2.2.2.2.2, show (0 : Int) ≤ 0 by decide, show (0 : Int) < 1000000 by decide⟩
theorem jtq {m : Nat} {g : Gate} (h : GateOk m g) : GatesOk m [g] := fun k hk => by
 have e : k = 0 := by simpa using hk
 subst e
 exact h
theorem jtr {m : Nat} {d : Int} (h0 : 0 ≤ d) (h1 : d < m) : DriveOk m [d] := fun k hk => by
 have e : k = 0 := by simpa using hk
 subst e
 exact ⟨h0, h1⟩
theorem jlu : NetQ 100 exA := ⟨by decide, by decide, by decide, jtq (gok (by decide)), rfl, by decide, jtr (by decide) (by decide), by decide⟩
theorem jsy : NetQ 100 exB := ⟨by decide, by decide, by decide, jtq (gok (by decide)), rfl, by decide, jtr (by decide) (by decide), by decide⟩
theorem exAB : Pair exA exB := ⟨jlu, jsy, rfl, rfl, rfl, by decide⟩
theorem exAA : Pair exA exA := ⟨jlu, jlu, rfl, rfl, rfl, by decide⟩
theorem jeh : ShOk [] := ⟨by decide, fun k hk => by simp at hk⟩
theorem jei : zbf Try.prog 39 [zas exA, zas exB] (.tup [.d (zas exM), .d (iD 0)]) := jd4 exA exB rfl rfl exAB.mit (by decide) (by decide) (by decide) (by decide) (by decide) (by decide)
theorem jsz : zbf Try.prog 24 [zas exA, zas exB] (.d (.agg (zaz exM ++ [iD 0]))) := jlr exA exB exM jei
theorem js0 : zbf Try.prog 11 [zas exA, zas exB, shD []] (.d (zca false [true, true] 0)) := by
 obtain ⟨is, L, E, hS, hc⟩ := exAB.compare jeh (by decide)
 have h0 : zk2 exA exB [] (zhz 2 ((0 : Nat) : Int)) = false := by kernel_rfl
 have h1 : zk2 exA exB [] (zhz 2 ((1 : Nat) : Int)) = false := by kernel_rfl
 have h2 : zk2 exA exB [] (zhz 2 ((2 : Nat) : Int)) = false := by kernel_rfl
 have hd : ∀ j : Nat, j < 3 → zk2 exA exB [] (zhz 2 (j : Int)) = false := fun j hj => by
  match j, hj with
  | 0, _ => exact h0
  | 1, _ => exact h1
  | 2, _ => exact h2
 have hd3 : zk2 exA exB [] (zhz 2 ((3 : Nat) : Int)) = true := by kernel_rfl
 rcases hS with ⟨_, _, _, fs, hF, hbig⟩ | ⟨_, _, _, h⟩ | ⟨rfl, rfl, i, hi, h3, h4, rfl⟩
 ·exact absurd hbig (zq8 hF (by decide) (by decide))
 ·rw [h] at hd3; cases hd3
 ·have hi4 : i < 4 := hi
  have : i = 3 := by
   rcases Nat.lt_or_ge i 3 with hl | hl
   ·have e := hd i hl
    have h1' : zk2 exA exB [] (zhz 2 (i : Int)) = true := h3
    rw [e] at h1'; cases h1'
   ·omega
  subst this
  exact zct exA exB [] false _ 0 hc
theorem js1 : zbf Try.prog 11 [zas exA, zas exA, shD []] (.d (zca true [] 0)) := by
 obtain ⟨is, L, E, hS, hc⟩ := exAA.compare jeh (by decide)
 rcases hS with ⟨_, _, _, fs, hF, hbig⟩ | ⟨rfl, rfl, rfl, h⟩ | ⟨_, _, i, hi, h1, _⟩
 ·exact absurd hbig (zq8 hF (by decide) (by decide))
 ·exact zct exA exA [] true [] 0 hc
 ·rw [ztk] at h1; cases h1
theorem js2 : zbf Try.prog 11 [zas exA, zas exC, shD []] (.d (zca false [] 1)) := zcb (n := 60) mixed zaj (by kernel_rfl)
def sh9 : D := .fs (List.replicate 18 (iD 0)) 9
theorem jrd : zbf Try.prog 47 [zas exM, sh9] (.tup [.d (iD 2), .d (oD false)]) := zcb (n := 60) mixed zaj (by kernel_rfl)
theorem jlv : zbf Try.prog 28 [zas exM, zas exM] (.d (oD true)) := zcb (n := 60) mixed zaj (by kernel_rfl)
theorem jlw (a b m : Net) (v : Int) (h1 : zbf Try.prog 39 [zas a, zas b] (.tup [.d (zas m), .d (iD 0)])) (h3 : zbf Try.prog 47 [zas m, sh9] (.tup [.d (iD v), .d (oD false)])) : zbf Try.prog 31 [zas a, zas b, sh9] (.tup [.d (oD false), .d (boolsD []), .d (iD 1)]) := by
 refine zbi (fn := Try.f31) (by kernel_rfl) Try.func31 rfl (Nat.le_of_ble_eq_true rfl) fun c hc hp => ?_
 refine zbk (τ' := frL [(0, .d (zas a)), (1, .d (zas b)), (2, .d (sh9))]) (by repeat (first | exact zal _ | refine zai ?_ (by first | rfl | (simp [r_f, zaa]; done) | simp [r_f, zaa, *]))) ?_
 refine zac hp zaj hc rfl fun K1 hK1 => ?_
 simp -dsimp -implicitDefEqProofs (disch := first | assumption | omega | (simp only [r_z, zaa] <;> omega) | decide) only [r_r, ↓reduceIte, Nat.reduceEqDiff, Nat.reduceAdd, D.fix, Int.reduceToNat, Nat.reduceMul, Nat.reduceBNe, Nat.reduceBEq, zas, zaz, zaf, zag, zhb]
 refine hK1 _ _ ?_
 refine zac hp zaj hc rfl fun K2 hK2 => ?_
 simp -dsimp -implicitDefEqProofs (disch := first | assumption | omega | (simp only [r_z, zaa] <;> omega) | decide) only [r_r, ↓reduceIte, Nat.reduceEqDiff, Nat.reduceAdd, D.fix, Int.reduceToNat, Nat.reduceMul, Nat.reduceBNe, Nat.reduceBEq, zas, zaz, zaf, zag, zhb]
 refine zb8 (h1) rfl ?_
 simp -dsimp -implicitDefEqProofs (disch := first | assumption | omega | (simp only [r_z, zaa] <;> omega) | decide) only [r_r, ↓reduceIte, Nat.reduceEqDiff, Nat.reduceAdd, D.fix, Int.reduceToNat, Nat.reduceMul, Nat.reduceBNe, Nat.reduceBEq, zas, zaz, zaf, zag, zhb]
 refine hK2 _ _ ?_
 refine zan fun K3 hK3 => ?_
 refine zac hp zaj hc rfl fun K4 hK4 => ?_
 simp -dsimp -implicitDefEqProofs (disch := first | assumption | omega | (simp only [r_z, zaa] <;> omega) | decide) only [r_r, ↓reduceIte, Nat.reduceEqDiff, Nat.reduceAdd, D.fix, Int.reduceToNat, Nat.reduceMul, Nat.reduceBNe, Nat.reduceBEq, zas, zaz, zaf, zag, zhb]
 refine hK4 _ _ ?_
 refine zap rfl (fun ht => ?_) (fun ht => ?_)
 ·cases ht
 ·refine za0 (hK3 _ _ ?_)
  refine zac hp zaj hc rfl fun K5 hK5 => ?_
  simp -dsimp -implicitDefEqProofs (disch := first | assumption | omega | (simp only [r_z, zaa] <;> omega) | decide) only [r_r, ↓reduceIte, Nat.reduceEqDiff, Nat.reduceAdd, D.fix, Int.reduceToNat, Nat.reduceMul, Nat.reduceBNe, Nat.reduceBEq, zas, zaz, zaf, zag, zhb]
  refine zb8 (h3) rfl ?_
  simp -dsimp -implicitDefEqProofs (disch := first | assumption | omega | (simp only [r_z, zaa] <;> omega) | decide) only [r_r, ↓reduceIte, Nat.reduceEqDiff, Nat.reduceAdd, D.fix, Int.reduceToNat, Nat.reduceMul, Nat.reduceBNe, Nat.reduceBEq, zas, zaz, zaf, zag, zhb]
  refine hK5 _ _ ?_
  refine zan fun K6 hK6 => ?_
  refine za1 ?_
  refine zac hp zaj hc rfl fun K7 hK7 => ?_
  simp -dsimp -implicitDefEqProofs (disch := first | assumption | omega | (simp only [r_z, zaa] <;> omega) | decide) only [r_r, ↓reduceIte, Nat.reduceEqDiff, Nat.reduceAdd, D.fix, Int.reduceToNat, Nat.reduceMul, Nat.reduceBNe, Nat.reduceBEq, zas, zaz, zaf, zag, zhb]
  refine hK7 _ _ ?_
  refine zap rfl (fun ht => ?_) (fun ht => ?_)
  ·refine zac hp zaj hc rfl fun K8 hK8 => ?_
   simp -dsimp -implicitDefEqProofs (disch := first | assumption | omega | (simp only [r_z, zaa] <;> omega) | decide) only [r_r, ↓reduceIte, Nat.reduceEqDiff, Nat.reduceAdd, D.fix, Int.reduceToNat, Nat.reduceMul, Nat.reduceBNe, Nat.reduceBEq, zas, zaz, zaf, zag]
   refine hK8 _ _ ?_
   refine za6 ?_
   show closeA _ _ = _
   simp (disch := first | assumption | omega | (simp only [r_z, zaa] <;> omega) | decide) only [r_c, Nat.reduceAdd, D.fix, ↓reduceIte, Nat.reduceEqDiff, zas, zaz, zaf, zag]
  ·cases ht
theorem zzh (a b : Net) (is : Bool) (L : List Bool) (E : Int) (h : zbf Try.prog 31 [zas a, zas b, sh9] (.tup [.d (oD is), .d (boolsD L), .d (iD E)])) : zbf Try.prog 11 [zas a, zas b, sh9] (.d (zca is L E)) := by
 refine zbi (fn := Try.f11) (by kernel_rfl) Try.func11 rfl (Nat.le_of_ble_eq_true rfl) fun c hc hp => ?_
 refine zbk (τ' := frL [(0, .d (zas a)), (1, .d (zas b)), (2, .d (sh9))]) (by repeat (first | exact zal _ | refine zai ?_ (by first | rfl | (simp [r_f, zaa, zab]; done) | simp [r_f, zaa, zab, *]))) ?_
 refine zac hp zaj hc rfl fun K1 hK1 => ?_
 simp -dsimp -implicitDefEqProofs (disch := first | assumption | omega | (simp only [r_z, zaa, zab] <;> omega) | decide) only [r_r, ↓reduceIte, Nat.reduceEqDiff, Nat.reduceAdd, D.fix, Int.reduceToNat, Nat.reduceMul, Nat.reduceBNe, Nat.reduceBEq, zas, zaz, zaf, zag, zca, zhb]
 refine hK1 _ _ ?_
 refine zac hp zaj hc rfl fun K2 hK2 => ?_
 simp -dsimp -implicitDefEqProofs (disch := first | assumption | omega | (simp only [r_z, zaa, zab] <;> omega) | decide) only [r_r, ↓reduceIte, Nat.reduceEqDiff, Nat.reduceAdd, D.fix, Int.reduceToNat, Nat.reduceMul, Nat.reduceBNe, Nat.reduceBEq, zas, zaz, zaf, zag, zca, zhb]
 refine zb8 (h) rfl ?_
 simp -dsimp -implicitDefEqProofs (disch := first | assumption | omega | (simp only [r_z, zaa, zab] <;> omega) | decide) only [r_r, ↓reduceIte, Nat.reduceEqDiff, Nat.reduceAdd, D.fix, Int.reduceToNat, Nat.reduceMul, Nat.reduceBNe, Nat.reduceBEq, zas, zaz, zaf, zag, zca, zhb]
 refine hK2 _ _ ?_
 refine zac hp zaj hc rfl fun K3 hK3 => ?_
 simp -dsimp -implicitDefEqProofs (disch := first | assumption | omega | (simp only [r_z, zaa, zab] <;> omega) | decide) only [r_r, ↓reduceIte, Nat.reduceEqDiff, Nat.reduceAdd, D.fix, Int.reduceToNat, Nat.reduceMul, Nat.reduceBNe, Nat.reduceBEq, zas, zaz, zaf, zag, zca, zhb]
 refine hK3 _ _ ?_
 refine za6 ?_
 try dsimp only [zji, zc2]
 refine zdo rfl ?_
 simp -dsimp -implicitDefEqProofs (disch := first | assumption | omega | (simp only [r_z, zaa, zab] <;> omega) | decide) only [r_r, ↓reduceIte, Nat.reduceEqDiff, Nat.reduceAdd, D.fix, Int.reduceToNat, Nat.reduceMul, Nat.reduceBNe, Nat.reduceBEq, zas, zaz, zaf, zag, zca, znz, zn0]
 show closeA _ _ = _
 simp (disch := first | assumption | omega | (simp only [r_z, zaa, zab] <;> omega) | decide) only [r_c, Nat.reduceAdd, D.fix, ↓reduceIte, Nat.reduceEqDiff, zas, zaz, zaf, zag, zca]
theorem js3 : zbf Try.prog 11 [zas exA, zas exB, sh9] (.d (zca false [] 1)) := zzh exA exB false [] 1 (jlw exA exB exM 2 jei jrd)
def tAn : T := .node 0 (.leaf false) (zqz 1)
def tNa : T := .node 0 (.leaf true) (.node 1 (.leaf true) (.leaf false))
def exT : List T := [.leaf false, .leaf true, zqz 0, zqz 1, tAn, tNa, tAn]
theorem js4 : GatesOk (2 + exC.ins.length) exC.gates := fun k hk => by
 match k, hk with
 | 0, _ => exact gok (by decide)
 | 1, _ => exact gok (by decide)
 | 2, _ => exact gok (by decide)
theorem jre {fs : List T} (hF : FsP (zci exC.ins.length []) exC.ins.length [] exC.gates exC.gates.length fs) : fs = exT := by
 have hl : fs.length = 7 := hF.len
 have e2 := hF.fv 0 (by decide)
 have e3 := hF.fv 1 (by decide)
 have t4 : ∀ a, (nth fs 4).eval a = (a 0 && a 1) := fun a => by
  refine (hF.fg 0 (by decide) a).trans ?_
  show ((nth (fs.take 4) 2).eval a && (nth (fs.take 4) 3).eval a) = _
  rw [zel (by omega), zel (by omega), e2, e3]
  simp [zqz, T.eval]
 have t5 : ∀ a, (nth fs 5).eval a = !(a 0 && a 1) := fun a => by
  refine (hF.fg 1 (by decide) a).trans ?_
  show (!(nth (fs.take 5) 4).eval a) = _
  rw [zel (by omega), t4]
 have t6 : ∀ a, (nth fs 6).eval a = (a 0 && a 1) := fun a => by
  refine (hF.fg 2 (by decide) a).trans ?_
  show (!(nth (fs.take 6) 5).eval a) = _
  rw [zel (by omega), t5]; simp
 have hok : ∀ k, k < 7 → (nth fs k).Ok 2 0 := fun k hk => hF.ok _ (zb6 (by omega))
 refine zpw (by rw [hl]; rfl) fun k hk => ?_
 rw [hl] at hk
 match k, hk with
 | 0, _ => exact hF.f0
 | 1, _ => exact hF.f1
 | 2, _ => exact e2
 | 3, _ => exact e3
 | 4, _ => exact T.Ok.eq (hok 4 (by decide)) (show tAn.Ok 2 0 by simp [tAn, zqz, T.Ok]) fun a => by rw [t4]; show _ = tAn.eval a; simp only [tAn, zqz, T.eval]; cases a 0 <;> cases a 1 <;> rfl
 | 5, _ => exact T.Ok.eq (hok 5 (by decide)) (show tNa.Ok 2 0 by simp [tNa, T.Ok]) fun a => by rw [t5]; show _ = tNa.eval a; simp only [tNa, T.eval]; cases a 0 <;> cases a 1 <;> rfl
 | 6, _ => exact T.Ok.eq (hok 6 (by decide)) (show tAn.Ok 2 0 by simp [tAn, zqz, T.Ok]) fun a => by rw [t6]; show _ = tAn.eval a; simp only [tAn, zqz, T.eval]; cases a 0 <;> cases a 1 <;> rfl
theorem jrf : zbf Try.prog 17 [zas exC, shD []] (.d (clD [0, 1, 2, 3, 4, 5, 4] 0)) := by
 obtain ⟨L, E, hS, hc⟩ := jef (n := exC) ⟨by decide, by decide, js4⟩ jeh (by decide)
 rcases hS with ⟨_, _, fs, hF, hbig⟩ | ⟨rfl, fs, hF, rfl⟩
 ·exact absurd hbig (zq8 hF (by decide) (by decide))
 ·rw [jre hF] at hc
  rw [show ((exT.map (num (zem exT))).map fun r => (znt (exT.map (num (zem exT))) r : Int)) = [0, 1, 2, 3, 4, 5, 4] by kernel_rfl] at hc
  exact zth exC [] _ 0 hc
end Go.Proofs.Ytignimmnnccblaa

/- The chapter's examples. -/
set_option linter.unusedVariables false
set_option linter.unusedSimpArgs false
set_option maxRecDepth 100000
set_option maxHeartbeats 4000000
namespace Go.Proofs.Ytignimmnnccblaa
open Go Go.RowKit
theorem zhy : (((((((type_of% @zy6) ∧ (type_of% @zlg)) ∧ ((type_of% @zlh) ∧ ((type_of% @zli) ∧ (type_of% @zsz)))) ∧ (((type_of% @zs0) ∧ (type_of% @zy5)) ∧ ((type_of% @zy4) ∧ ((type_of% @zfw) ∧ (type_of% @zfx))))) ∧ ((((type_of% @zfy) ∧ (type_of% @zfz)) ∧ ((type_of% @jen) ∧ ((type_of% @jeo) ∧ (type_of% @zhq)))) ∧ (((type_of% @zhr) ∧ ((type_of% @zs1) ∧ (type_of% @zik))) ∧ ((type_of% @zil) ∧ ((type_of% @zim) ∧ (type_of% @zin)))))) ∧ (((((type_of% @zio) ∧ (type_of% @zjq)) ∧ ((type_of% @zjr) ∧ ((type_of% @zl5) ∧ (type_of% @zl4)))) ∧ (((type_of% @zg1) ∧ (type_of% @zg2)) ∧ ((type_of% @zg3) ∧ ((type_of% @zg4) ∧ (type_of% @zdf))))) ∧ ((((type_of% @zdg) ∧ (type_of% @zdh)) ∧ ((type_of% @zdq) ∧ ((type_of% @zst) ∧ (type_of% @zib)))) ∧ (((type_of% @zic) ∧ ((type_of% @zid) ∧ (type_of% @zie))) ∧ ((type_of% @zds) ∧ ((type_of% @zdt) ∧ (type_of% @zg6))))))) ∧ ((((((type_of% @zg5) ∧ (type_of% @ze9)) ∧ ((type_of% @zfa) ∧ ((type_of% @ze4) ∧ (type_of% @ze5)))) ∧ (((type_of% @ze6) ∧ (type_of% @ze7)) ∧ ((type_of% @jcv) ∧ ((type_of% @jcw) ∧ (type_of% @jf6))))) ∧ ((((type_of% @jf5) ∧ (type_of% @zt9)) ∧ ((type_of% @zua) ∧ ((type_of% @zy3) ∧ (type_of% @zy2)))) ∧ (((type_of% @jc0) ∧ ((type_of% @jc1) ∧ (type_of% @zjk))) ∧ ((type_of% @zjl) ∧ ((type_of% @zjm) ∧ (type_of% @jcx)))))) ∧ (((((type_of% @jcy) ∧ (type_of% @zkr)) ∧ ((type_of% @zks) ∧ ((type_of% @zkt) ∧ (type_of% @zku)))) ∧ (((type_of% @zsw) ∧ (type_of% @zif)) ∧ ((type_of% @zig) ∧ ((type_of% @zih) ∧ (type_of% @znz))))) ∧ ((((type_of% @zn0) ∧ (type_of% @zsv)) ∧ ((type_of% @zsu) ∧ ((type_of% @zle) ∧ (type_of% @zlf)))) ∧ (((type_of% @zqw) ∧ ((type_of% @zqx) ∧ (type_of% @zqu))) ∧ ((type_of% @zqv) ∧ ((type_of% @jrp) ∧ (type_of% @jrq)))))))) := ⟨⟨⟨⟨⟨⟨@zy6, @zlg⟩, ⟨@zlh, ⟨@zli, @zsz⟩⟩⟩, ⟨⟨@zs0, @zy5⟩, ⟨@zy4, ⟨@zfw, @zfx⟩⟩⟩⟩, ⟨⟨⟨@zfy, @zfz⟩, ⟨@jen, ⟨@jeo, @zhq⟩⟩⟩, ⟨⟨@zhr, ⟨@zs1, @zik⟩⟩, ⟨@zil, ⟨@zim, @zin⟩⟩⟩⟩⟩, ⟨⟨⟨⟨@zio, @zjq⟩, ⟨@zjr, ⟨@zl5, @zl4⟩⟩⟩, ⟨⟨@zg1, @zg2⟩, ⟨@zg3, ⟨@zg4, @zdf⟩⟩⟩⟩, ⟨⟨⟨@zdg, @zdh⟩, ⟨@zdq, ⟨@zst, @zib⟩⟩⟩, ⟨⟨@zic, ⟨@zid, @zie⟩⟩, ⟨@zds, ⟨@zdt, @zg6⟩⟩⟩⟩⟩⟩, ⟨⟨⟨⟨⟨@zg5, @ze9⟩, ⟨@zfa, ⟨@ze4, @ze5⟩⟩⟩, ⟨⟨@ze6, @ze7⟩, ⟨@jcv, ⟨@jcw, @jf6⟩⟩⟩⟩, ⟨⟨⟨@jf5, @zt9⟩, ⟨@zua, ⟨@zy3, @zy2⟩⟩⟩, ⟨⟨@jc0, ⟨@jc1, @zjk⟩⟩, ⟨@zjl, ⟨@zjm, @jcx⟩⟩⟩⟩⟩, ⟨⟨⟨⟨@jcy, @zkr⟩, ⟨@zks, ⟨@zkt, @zku⟩⟩⟩, ⟨⟨@zsw, @zif⟩, ⟨@zig, ⟨@zih, @znz⟩⟩⟩⟩, ⟨⟨⟨@zn0, @zsv⟩, ⟨@zsu, ⟨@zle, @zlf⟩⟩⟩, ⟨⟨@zqw, ⟨@zqx, @zqu⟩⟩, ⟨@zqv, ⟨@jrp, @jrq⟩⟩⟩⟩⟩⟩⟩
theorem js5 : zbf Try.prog 12 [zca false [true, true] 0, zca false [true, true] 0] (.d (oD true)) := jd6 false false [true, true] [true, true] 0 0 (by decide)
theorem js6 : zbf Try.prog 12 [zca true [] 0, zca true [] 0] (.d (oD true)) := jd6 true true [] [] 0 0 (by decide)
theorem jlx : zbf Try.prog 29 [intsD [0, 1, 2, 3, 4, 5, 4], intsD [0, 1, 2, 3, 4, 5, 4]] (.d (oD true)) := jp4 [0, 1, 2, 3, 4, 5, 4] [0, 1, 2, 3, 4, 5, 4] (by decide)
theorem zpa : zbf Try.prog 7 [] (.d (oD true)) := by
 refine zbi (fn := Try.f7) (by kernel_rfl) Try.func7 rfl (Nat.le_of_ble_eq_true rfl) fun c hc hp => ?_
 refine zbk (τ' := frL []) (zal _) ?_
 refine zac hp zaj hc rfl fun K1 hK1 => ?_
 simp -dsimp -implicitDefEqProofs (disch := first | assumption | omega | (simp only [r_z] <;> omega) | decide) only [r_r, ↓reduceIte, Nat.reduceEqDiff, Nat.reduceAdd, D.fix, Int.reduceToNat, Nat.reduceMul, Nat.reduceBNe, Nat.reduceBEq, r_e, zas, zaz, zaf, zag, zca, clD, beq_self_eq_true, Int.reduceBEq, Int.reduceBNe, bne_self_eq_false]
 refine hK1 _ _ ?_
 refine zac hp zaj hc rfl fun K2 hK2 => ?_
 simp -dsimp -implicitDefEqProofs (disch := first | assumption | omega | (simp only [r_z] <;> omega) | decide) only [r_r, ↓reduceIte, Nat.reduceEqDiff, Nat.reduceAdd, D.fix, Int.reduceToNat, Nat.reduceMul, Nat.reduceBNe, Nat.reduceBEq, r_e, zas, zaz, zaf, zag, zca, clD, beq_self_eq_true, Int.reduceBEq, Int.reduceBNe, bne_self_eq_false, zhy]
 refine hK2 _ _ ?_
 refine zac hp zaj hc rfl fun K3 hK3 => ?_
 simp -dsimp -implicitDefEqProofs (disch := first | assumption | omega | (simp only [r_z] <;> omega) | decide) only [r_r, ↓reduceIte, Nat.reduceEqDiff, Nat.reduceAdd, D.fix, Int.reduceToNat, Nat.reduceMul, Nat.reduceBNe, Nat.reduceBEq, r_e, zas, zaz, zaf, zag, zca, clD, beq_self_eq_true, Int.reduceBEq, Int.reduceBNe, bne_self_eq_false, zhy]
 refine hK3 _ _ ?_
 refine zac hp zaj hc rfl fun K4 hK4 => ?_
 simp -dsimp -implicitDefEqProofs (disch := first | assumption | omega | (simp only [r_z] <;> omega) | decide) only [r_r, ↓reduceIte, Nat.reduceEqDiff, Nat.reduceAdd, D.fix, Int.reduceToNat, Nat.reduceMul, Nat.reduceBNe, Nat.reduceBEq, r_e, zas, zaz, zaf, zag, zca, clD, beq_self_eq_true, Int.reduceBEq, Int.reduceBNe, bne_self_eq_false, zhy]
 refine hK4 _ _ ?_
 refine zac hp zaj hc rfl fun K5 hK5 => ?_
 simp -dsimp -implicitDefEqProofs (disch := first | assumption | omega | (simp only [r_z] <;> omega) | decide) only [r_r, ↓reduceIte, Nat.reduceEqDiff, Nat.reduceAdd, D.fix, Int.reduceToNat, Nat.reduceMul, Nat.reduceBNe, Nat.reduceBEq, r_e, zas, zaz, zaf, zag, zca, clD, beq_self_eq_true, Int.reduceBEq, Int.reduceBNe, bne_self_eq_false, zhy]
 refine hK5 _ _ ?_
 refine zac hp zaj hc rfl fun K6 hK6 => ?_
 simp -dsimp -implicitDefEqProofs (disch := first | assumption | omega | (simp only [r_z] <;> omega) | decide) only [r_r, ↓reduceIte, Nat.reduceEqDiff, Nat.reduceAdd, D.fix, Int.reduceToNat, Nat.reduceMul, Nat.reduceBNe, Nat.reduceBEq, r_e, zas, zaz, zaf, zag, zca, clD, beq_self_eq_true, Int.reduceBEq, Int.reduceBNe, bne_self_eq_false, zhy]
 refine hK6 _ _ ?_
 refine zac hp zaj hc rfl fun K7 hK7 => ?_
 simp -dsimp -implicitDefEqProofs (disch := first | assumption | omega | (simp only [r_z] <;> omega) | decide) only [r_r, ↓reduceIte, Nat.reduceEqDiff, Nat.reduceAdd, D.fix, Int.reduceToNat, Nat.reduceMul, Nat.reduceBNe, Nat.reduceBEq, r_e, zas, zaz, zaf, zag, zca, clD, beq_self_eq_true, Int.reduceBEq, Int.reduceBNe, bne_self_eq_false, zhy]
 refine hK7 _ _ ?_
 refine zb3 hp (τ' := frL [(3, .d (.fp (zaz exA) 0)), (4, .d (.fp (zaz exB) 0)), (5, .d (.fp (zaz exC) 0)), (6, .d (.fp (zaz exM) 0))]) (H' := []) ?_ ?_
 ·refine Rt.trans (Rt.fz (id := 0) (l := exA.ins.flatMap zbn) rfl) ?_
  refine Rt.trans (Rt.fz (id := 1) (l := exA.out.flatMap zbn) rfl) ?_
  refine Rt.trans (Rt.fz (id := 2) (l := exA.gates.flatMap zar) rfl) ?_
  refine Rt.trans (Rt.fz (id := 3) (l := [iD 4]) rfl) ?_
  refine Rt.trans (Rt.fz (id := 5) (l := exB.gates.flatMap zar) rfl) ?_
  refine Rt.trans (Rt.fz (id := 6) (l := [iD 4]) rfl) ?_
  refine Rt.trans (Rt.fz (id := 8) (l := exC.gates.flatMap zar) rfl) ?_
  refine Rt.trans (Rt.fz (id := 10) (l := exM.gates.flatMap zar) rfl) ?_
  refine Rt.trans (Rt.fz (id := 11) (l := [iD 6]) rfl) ?_
  refine Rt.trans (Rt.fixc 9 2 rfl rfl) ?_
  refine Rt.trans (Rt.fixc 9 3 rfl rfl) ?_
  refine Rt.trans (Rt.fz (id := 4) (l := zaz exA) rfl) ?_
  refine Rt.trans (Rt.fz (id := 7) (l := zaz exB) rfl) ?_
  refine Rt.trans (Rt.fz (id := 9) (l := zaz exC) rfl) ?_
  refine Rt.trans (Rt.fz (id := 12) (l := zaz exM) rfl) ?_
  refine Rt.trans (Rt.gc (keep := []) (by decide) (by decide) (by simp [fzH, gcH])) ?_
  refine Rt.end (by repeat (first | exact zal _ | refine zai ?_ (by first | rfl | (simp [r_f]; done) | simp [r_f, *]))) ?_
  first | rfl | (simp only [r_g, Nat.reduceAdd, ↓reduceIte, Nat.reduceEqDiff, r_e, zas, zaz, zaf, zag, zca, clD, beq_self_eq_true, Int.reduceBEq, Int.reduceBNe, bne_self_eq_false]; first | done | rfl)
 refine zbr zaj hc mixed rfl (q := 2) (by kernel_rfl) (by kernel_rfl) fun K8 hK8 => ?_
 simp -dsimp -implicitDefEqProofs (disch := first | assumption | omega | (simp only [r_z] <;> omega) | decide) only [r_r, ↓reduceIte, Nat.reduceEqDiff, Nat.reduceAdd, D.fix, Int.reduceToNat, Nat.reduceMul, Nat.reduceBNe, Nat.reduceBEq, r_e, zas, zaz, zaf, zag, zca, clD, beq_self_eq_true, Int.reduceBEq, Int.reduceBNe, bne_self_eq_false, zhy]
 refine zb8 (jsz) rfl ?_
 simp -dsimp -implicitDefEqProofs (disch := first | assumption | omega | (simp only [r_z] <;> omega) | decide) only [r_r, ↓reduceIte, Nat.reduceEqDiff, Nat.reduceAdd, D.fix, Int.reduceToNat, Nat.reduceMul, Nat.reduceBNe, Nat.reduceBEq, r_e, zas, zaz, zaf, zag, zca, clD, beq_self_eq_true, Int.reduceBEq, Int.reduceBNe, bne_self_eq_false, zhy]
 refine zb8 (jrf) rfl ?_
 simp -dsimp -implicitDefEqProofs (disch := first | assumption | omega | (simp only [r_z] <;> omega) | decide) only [r_r, ↓reduceIte, Nat.reduceEqDiff, Nat.reduceAdd, D.fix, Int.reduceToNat, Nat.reduceMul, Nat.reduceBNe, Nat.reduceBEq, r_e, zas, zaz, zaf, zag, zca, clD, beq_self_eq_true, Int.reduceBEq, Int.reduceBNe, bne_self_eq_false, zhy]
 refine hK8 _ _ ?_
 refine zb3 hp (τ' := frL [(3, .d (.fp (zaz exA) 0)), (4, .d (.fp (zaz exB) 0)), (5, .d (.fp (zaz exC) 0)), (6, .d (.fp (zaz exM) 0)), (7, .d (.fp (zaz exM ++ [iD 0]) 0)), (8, .d (.fp [intsD [0, 1, 2, 3, 4, 5, 4], iD 0] 0))]) (H' := []) ?_ ?_
 ·refine Rt.trans (Rt.fz (id := 0) (l := zaz exM ++ [iD 0]) rfl) ?_
  refine Rt.trans (Rt.fz (id := 1) (l := [intsD [0, 1, 2, 3, 4, 5, 4], iD 0]) rfl) ?_
  refine Rt.trans (Rt.gc (keep := []) (by decide) (by decide) (by simp [fzH, gcH])) ?_
  refine Rt.end (by repeat (first | exact zal _ | refine zai ?_ (by first | rfl | (simp [r_f]; done) | simp [r_f, *]))) ?_
  first | rfl | (simp only [r_g, Nat.reduceAdd, ↓reduceIte, Nat.reduceEqDiff, r_e, zas, zaz, zaf, zag, zca, clD, beq_self_eq_true, Int.reduceBEq, Int.reduceBNe, bne_self_eq_false]; first | done | rfl)
 refine zbr zaj hc mixed rfl (q := 3) (by kernel_rfl) (by kernel_rfl) fun K9 hK9 => ?_
 simp -dsimp -implicitDefEqProofs (disch := first | assumption | omega | (simp only [r_z] <;> omega) | decide) only [r_r, ↓reduceIte, Nat.reduceEqDiff, Nat.reduceAdd, D.fix, Int.reduceToNat, Nat.reduceMul, Nat.reduceBNe, Nat.reduceBEq, r_e, zas, zaz, zaf, zag, zca, clD, beq_self_eq_true, Int.reduceBEq, Int.reduceBNe, bne_self_eq_false, zhy]
 refine zb8 (jlv) rfl ?_
 simp -dsimp -implicitDefEqProofs (disch := first | assumption | omega | (simp only [r_z] <;> omega) | decide) only [r_r, ↓reduceIte, Nat.reduceEqDiff, Nat.reduceAdd, D.fix, Int.reduceToNat, Nat.reduceMul, Nat.reduceBNe, Nat.reduceBEq, r_e, zas, zaz, zaf, zag, zca, clD, beq_self_eq_true, Int.reduceBEq, Int.reduceBNe, bne_self_eq_false, zhy]
 refine zb8 (js0) rfl ?_
 simp -dsimp -implicitDefEqProofs (disch := first | assumption | omega | (simp only [r_z] <;> omega) | decide) only [r_r, ↓reduceIte, Nat.reduceEqDiff, Nat.reduceAdd, D.fix, Int.reduceToNat, Nat.reduceMul, Nat.reduceBNe, Nat.reduceBEq, r_e, zas, zaz, zaf, zag, zca, clD, beq_self_eq_true, Int.reduceBEq, Int.reduceBNe, bne_self_eq_false, zhy]
 refine zb8 (js5) rfl ?_
 simp -dsimp -implicitDefEqProofs (disch := first | assumption | omega | (simp only [r_z] <;> omega) | decide) only [r_r, ↓reduceIte, Nat.reduceEqDiff, Nat.reduceAdd, D.fix, Int.reduceToNat, Nat.reduceMul, Nat.reduceBNe, Nat.reduceBEq, r_e, zas, zaz, zaf, zag, zca, clD, beq_self_eq_true, Int.reduceBEq, Int.reduceBNe, bne_self_eq_false, zhy]
 refine zb8 (js1) rfl ?_
 simp -dsimp -implicitDefEqProofs (disch := first | assumption | omega | (simp only [r_z] <;> omega) | decide) only [r_r, ↓reduceIte, Nat.reduceEqDiff, Nat.reduceAdd, D.fix, Int.reduceToNat, Nat.reduceMul, Nat.reduceBNe, Nat.reduceBEq, r_e, zas, zaz, zaf, zag, zca, clD, beq_self_eq_true, Int.reduceBEq, Int.reduceBNe, bne_self_eq_false, zhy]
 refine zb8 (js6) rfl ?_
 simp -dsimp -implicitDefEqProofs (disch := first | assumption | omega | (simp only [r_z] <;> omega) | decide) only [r_r, ↓reduceIte, Nat.reduceEqDiff, Nat.reduceAdd, D.fix, Int.reduceToNat, Nat.reduceMul, Nat.reduceBNe, Nat.reduceBEq, r_e, zas, zaz, zaf, zag, zca, clD, beq_self_eq_true, Int.reduceBEq, Int.reduceBNe, bne_self_eq_false, zhy]
 refine zb8 (js2) rfl ?_
 simp -dsimp -implicitDefEqProofs (disch := first | assumption | omega | (simp only [r_z] <;> omega) | decide) only [r_r, ↓reduceIte, Nat.reduceEqDiff, Nat.reduceAdd, D.fix, Int.reduceToNat, Nat.reduceMul, Nat.reduceBNe, Nat.reduceBEq, r_e, zas, zaz, zaf, zag, zca, clD, beq_self_eq_true, Int.reduceBEq, Int.reduceBNe, bne_self_eq_false, zhy]
 refine zb8 (jlx) rfl ?_
 simp -dsimp -implicitDefEqProofs (disch := first | assumption | omega | (simp only [r_z] <;> omega) | decide) only [r_r, ↓reduceIte, Nat.reduceEqDiff, Nat.reduceAdd, D.fix, Int.reduceToNat, Nat.reduceMul, Nat.reduceBNe, Nat.reduceBEq, r_e, zas, zaz, zaf, zag, zca, clD, beq_self_eq_true, Int.reduceBEq, Int.reduceBNe, bne_self_eq_false, zhy]
 refine zb8 (js3) rfl ?_
 simp -dsimp -implicitDefEqProofs (disch := first | assumption | omega | (simp only [r_z] <;> omega) | decide) only [r_r, ↓reduceIte, Nat.reduceEqDiff, Nat.reduceAdd, D.fix, Int.reduceToNat, Nat.reduceMul, Nat.reduceBNe, Nat.reduceBEq, r_e, zas, zaz, zaf, zag, zca, clD, beq_self_eq_true, Int.reduceBEq, Int.reduceBNe, bne_self_eq_false, zhy]
 refine hK9 _ _ ?_
 refine za6 ?_
 show closeA _ _ = _
 simp (disch := first | assumption | omega | (simp only [r_z] <;> omega) | decide) only [r_c, Nat.reduceAdd, D.fix, ↓reduceIte, Nat.reduceEqDiff, r_e, zas, zaz, zaf, zag, zca, clD, beq_self_eq_true, Int.reduceBEq, Int.reduceBNe, bne_self_eq_false]
end Go.Proofs.Ytignimmnnccblaa
