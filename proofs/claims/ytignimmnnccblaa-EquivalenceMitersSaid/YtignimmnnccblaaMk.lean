/- What comparisons and classes say of the values. -/
import Derived.Test.YtignimmnnccblaaMg
import Derived.Test.YtignimmnnccblaaQr
set_option linter.unusedVariables false
set_option linter.unusedSimpArgs false
namespace Go.Proofs.Ytignimmnnccblaa
open Go Go.RowKit
structure Pair (a b : Net) : Prop where
 qa : NetQ 100 a
 qb : NetQ 100 b
 ins : b.ins = a.ins
 out : b.out = a.out
 dl : b.drive.length = a.drive.length
 sum : a.gates.length + b.gates.length ≤ 180
theorem NetQ.up {m k : Nat} {n : Net} (h : NetQ m n) (hk : m ≤ k) : NetQ k n := ⟨h.i1, h.i2, Nat.le_trans h.g1 hk, h.g2, h.d0, h.d1, h.d2, h.d3⟩
theorem Pair.mit {a b : Net} (h : Pair a b) : MitOk (2 + a.ins.length) a b := by
 have hb := h.qb.g2
 have hd := h.qb.d2
 rw [h.ins] at hb hd
 exact ⟨by omega, h.qa.g2, hb, h.qa.d2, hd, h.dl.symm⟩
theorem Pair.len {a b : Net} (h : Pair a b) : (zhw a b).gates.length ≤ 200 ∧ (zhw a b).gates.length = a.gates.length + b.gates.length + a.drive.length + (a.drive.length - 1) := by
 have e : (zhw a b).gates.length = a.gates.length + b.gates.length + a.drive.length + (a.drive.length - 1) := jem _ _ _ _ _
 have := h.sum
 have := h.qa.d1
 omega
theorem Pair.gates {a b : Net} (h : Pair a b) : GatesOk (2 + (zhw a b).ins.length) (zhw a b).gates :=
 zs7 h.mit (Nat.le_refl _) (.inr ⟨rfl, by have := h.qa.d3; omega⟩)
def jl3 (a b : Net) : Nat := (zya (2 + a.ins.length + a.gates.length + b.gates.length) a.drive.length (a.drive.length - 1)).toNat
theorem Pair.lst {a b : Net} (h : Pair a b) : (zhw a b).drive = [(jl3 a b : Int)] ∧ jl3 a b < 2 + (zhw a b).ins.length + (zhw a b).gates.length := by
 have hl := h.len.2
 have hd := h.qa.d3
 have e : (zhw a b).ins.length = a.ins.length := rfl
 obtain ⟨b0, b1, b2⟩ := jrx (2 + a.ins.length + a.gates.length + b.gates.length) a.drive.length (a.drive.length - 1)
 have e2 : zya (2 + a.ins.length + a.gates.length + b.gates.length) a.drive.length (a.drive.length - 1) < ((2 + a.ins.length + a.gates.length + b.gates.length + a.drive.length + (a.drive.length - 1) : Nat) : Int) := by
  by_cases h1 : a.drive.length - 1 = 0
  ·rw [b1 h1]; omega
  ·rw [b2 (a.drive.length - 1 - 1) (by omega)]; omega
 refine ⟨?_, ?_⟩
 ·show [zya _ _ _] = _
  unfold jl3
  congr 1; omega
 ·unfold jl3
  rw [hl, e]; omega
def zq6 (a b : Net) (sh : Sh) (l : List Bool) : Bool := !decide (zzh a sh l = zzh b sh l)
theorem Pair.value {a b : Net} (h : Pair a b) {sh : Sh} (hsh : ShOk sh) {V : Nat} {fs : List T} (hF : FsP V (zhw a b).ins.length sh (zhw a b).gates (zhw a b).gates.length fs) (l : List Bool) : (nth fs (jl3 a b)).eval (atB l) = zq6 a b sh l := by
 have hm := jui hsh hF h.gates l (zhw a b).gates.length (Nat.le_refl _) (jl3 a b) h.lst.2
 rw [List.take_length] at hm
 rw [← hm]
 have hv := zs8 (a := a) (b := b) (v := false :: true :: zl2 a.ins.length l) (by
  have e : (false :: true :: zl2 a.ins.length l).length = 2 + a.ins.length := by simp [zhm]; omega
  rw [e]; exact h.mit) (zgz a.ins.length sh l) h.qa.d3
 have e : (false :: true :: zl2 a.ins.length l).length = 2 + a.ins.length := by simp [zhm]; omega
 rw [e] at hv
 unfold zq6 zzh zs2
 rw [h.ins]
 exact hv
theorem jex (a : Net) (sh : Sh) (l : List Bool) : zq6 a a sh l = false := by unfold zq6; rw [decide_eq_true rfl]; rfl
def ju4 (a b : Net) (sh : Sh) (is : Bool) (L : List Bool) (E : Int) : Prop :=
 (is = false ∧ L = [] ∧ E = 2 ∧ ∃ fs, FsP (zdm a.ins.length sh) a.ins.length sh (zhw a b).gates (zhw a b).gates.length fs ∧ 3000 < (zeq fs).length) ∨
 (is = true ∧ L = [] ∧ E = 0 ∧ ∀ l, zq6 a b sh l = false) ∨
 (is = false ∧ E = 0 ∧ ∃ i : Nat, i < 2 ^ zdm a.ins.length sh ∧ zq6 a b sh (zo4 (zdm a.ins.length sh) (i : Int)) = true ∧ (∀ j : Nat, j < i → zq6 a b sh (zo4 (zdm a.ins.length sh) (j : Int)) = false) ∧ L = zo4 (zdm a.ins.length sh) (i : Int))
theorem jtn {V j : Nat} (hV : V ≤ 60) (h : j < 2 ^ V) : j < 2 ^ 62 := Nat.lt_of_lt_of_le h (Nat.pow_le_pow_right (by decide) (by omega))
theorem Pair.compare {a b : Net} (h : Pair a b) {sh : Sh} (hsh : ShOk sh) (hsv : zdm a.ins.length sh ≤ a.ins.length + 5) : ∃ is L E, ju4 a b sh is L E ∧ za9 Try.prog 31 [zas a, zas b, shD sh] (.tup [.d (oD is), .d (boolsD L), .d (iD E)]) := by
 have hi9 := h.qa.i2
 have hmi : (zhw a b).ins.length = a.ins.length := rfl
 obtain ⟨V, hV⟩ : ∃ V, V = zdm a.ins.length sh := ⟨_, rfl⟩
 have hV60 : V ≤ 60 := by omega
 obtain ⟨fs, hF⟩ := jlu (ins := a.ins.length) (sh := sh) (gates := (zhw a b).gates) _ (Nat.le_refl _)
 have hl := hF.len
 have hlen := h.len
 have hlst := h.lst
 have hno : (zhw a b).drive.any (znp (2 + (zhw a b).ins.length + (zhw a b).gates.length)) = false := by rw [hlst.1]; exact jru hlst.2
 have hB := jj1 (n := zhw a b) (sh := sh) (nodes := (zhw a b).drive) hi9 hlen.1 hsh hsv h.gates hno (by rw [hlst.1]; simp)
 have hM := zud a b h.ins h.out h.mit (by omega) (by have := h.qa.d0; have := h.qa.d1; omega) (by have := h.qa.g1; omega) (by have := h.qb.g1; omega) h.qa.d3 (by have := h.qa.d1; omega)
 by_cases hbig : 3000 < (zeq fs).length
 ·refine ⟨false, [], 2, .inl ⟨rfl, rfl, rfl, fs, hF, hbig⟩, ?_⟩
  exact jl0 a b (zhw a b) sh _ hM hsh (by omega) rfl (by rw [hmi]; omega) (zta hF h.gates (by omega) hB hbig)
 ·have hbo := zyd hF h.gates (by omega) hB hbig
  obtain ⟨t, ht⟩ : ∃ t, t = nth fs (jl3 a b) := ⟨_, rfl⟩
  have hroots : zf6 fs (zhw a b).drive = [t] := by rw [hlst.1, ht]; rfl
  have hok : t.Ok V 0 := by rw [ht, hV]; exact hF.ok _ (zb3 (by omega))
  have hfull := zx7 (V := zdm a.ins.length sh) (fs := fs) hF.ok
  have hle := jd1 hfull (fs := [t]) fun s hs => by
   rw [List.mem_singleton.1 hs, ht]; exact zkx (zb3 (by omega))
  have hO : One V (zeq [t]) t := ⟨zx7 fun s hs => by rw [List.mem_singleton.1 hs]; exact hok, by omega, hok, zkx (List.mem_singleton.2 rfl)⟩
  have hval : ∀ l, t.eval (atB l) = zq6 a b sh l := fun l => by rw [ht]; exact h.value hsh hF l
  have hasn : ∀ j, j < 2 ^ V → t.eval (asn V j) = zq6 a b sh (zo4 V (j : Int)) := fun j hj => by rw [← hval, jlr (jtn hV60 hj) hV60]
  rw [hroots] at hbo
  have hA := jta V (zeq [t]) [num (zeq [t]) t] hO.row (by omega) (by unfold zel; have := hO.len; omega) ((num (zeq [t]) t : Nat) : Int) (V : Nat)
  have hnl : (zlp (zeq [t])).length ≤ 1000000 := by rw [zan]; have := hO.len; omega
  by_cases ht0 : t = .leaf false
  ·obtain ⟨hL, hE⟩ := hO.none hV60 fun j _ => by rw [ht0]; rfl
   rw [hL, hE] at hA
   refine ⟨true, [], 0, .inr (.inl ⟨rfl, rfl, rfl, fun l => by rw [← hval, ht0]; rfl⟩), ?_⟩
   exact jj5 a b (zhw a b) sh V hM hsh (by omega) hV.symm hV60 _ _ hnl hbo [] 4 hA (.inl ⟨rfl, rfl⟩)
  ·have hex : ∃ i, i < 2 ^ V ∧ t.eval (asn V i) = true := by
    refine Classical.byContradiction fun hn => ht0 (jj2 (n := V) hok (s := .leaf false) (j := 0) trivial fun i hi => ?_)
    cases hc : t.eval (asn V i) with
    | false => rfl
    | true => exact absurd ⟨i, hi, hc⟩ hn
   obtain ⟨i0, hi0, hi0t⟩ := hex
   have hp1 := zk3 hok (Nat.zero_le _) ht0
   have hp2 := zmr hok (Nat.zero_le _)
   have hple : zn4 V t ≤ i0 := Nat.le_of_not_lt fun hc => by rw [hp2 i0 hc] at hi0t; cases hi0t
   obtain ⟨hL, hE⟩ := hO.some hV60 (i := zn4 V t) (Nat.lt_of_le_of_lt hple hi0) (fun j hj => hp2 j hj) hp1
   have hplt : zn4 V t < 2 ^ V := Nat.lt_of_le_of_lt hple hi0
   rw [hL, hE] at hA
   refine ⟨false, zo4 V (zn4 V t : Nat), 0, .inr (.inr ⟨rfl, rfl, zn4 V t, by rw [← hV]; exact hplt, ?_, fun j hj => ?_, by rw [← hV]⟩), ?_⟩
   ·rw [← hV, ← hasn _ hplt]; exact hp1
   ·rw [← hV, ← hasn _ (Nat.lt_trans hj hplt)]; exact hp2 j hj
   ·exact jj5 a b (zhw a b) sh V hM hsh (by omega) hV.symm hV60 _ _ hnl hbo _ 0 hA (.inr rfl)
end Go.Proofs.Ytignimmnnccblaa

/- The classes, by values; the chapter's examples. -/
set_option linter.unusedVariables false
set_option linter.unusedSimpArgs false
set_option maxRecDepth 100000
set_option maxHeartbeats 4000000
namespace Go.Proofs.Ytignimmnnccblaa
open Go Go.RowKit
theorem zg9 : ((((((type_of% @zds) ∧ ((type_of% @zdt) ∧ (type_of% @zcr))) ∧ ((type_of% @zcs) ∧ ((type_of% @ze4) ∧ (type_of% @ze5)))) ∧ (((type_of% @ze6) ∧ ((type_of% @ze7) ∧ (type_of% @zex))) ∧ ((type_of% @zey) ∧ ((type_of% @zfa) ∧ (type_of% @zc6))))) ∧ ((((type_of% @zc7) ∧ ((type_of% @zfq) ∧ (type_of% @zfr))) ∧ ((type_of% @zfs) ∧ ((type_of% @zft) ∧ (type_of% @zde)))) ∧ (((type_of% @zdf) ∧ ((type_of% @zdg) ∧ (type_of% @zdq))) ∧ (((type_of% @zfu) ∧ (type_of% @zfv)) ∧ ((type_of% @zfw) ∧ (type_of% @zfx)))))) ∧ (((((type_of% @zlz) ∧ ((type_of% @zl0) ∧ (type_of% @zhq))) ∧ ((type_of% @zhr) ∧ ((type_of% @zeg) ∧ (type_of% @zeh)))) ∧ (((type_of% @zju) ∧ ((type_of% @zjt) ∧ (type_of% @zko))) ∧ (((type_of% @zkp) ∧ (type_of% @zkq)) ∧ ((type_of% @zh0) ∧ (type_of% @zhz))))) ∧ ((((type_of% @zmk) ∧ ((type_of% @zml) ∧ (type_of% @zq4))) ∧ ((type_of% @zsk) ∧ ((type_of% @zsl) ∧ (type_of% @zy2)))) ∧ (((type_of% @zy1) ∧ ((type_of% @je4) ∧ (type_of% @je5))) ∧ (((type_of% @zy3) ∧ (type_of% @zlg)) ∧ ((type_of% @zlh) ∧ (type_of% @zli))))))) := ⟨⟨⟨⟨⟨@zds, ⟨@zdt, @zcr⟩⟩, ⟨@zcs, ⟨@ze4, @ze5⟩⟩⟩, ⟨⟨@ze6, ⟨@ze7, @zex⟩⟩, ⟨@zey, ⟨@zfa, @zc6⟩⟩⟩⟩, ⟨⟨⟨@zc7, ⟨@zfq, @zfr⟩⟩, ⟨@zfs, ⟨@zft, @zde⟩⟩⟩, ⟨⟨@zdf, ⟨@zdg, @zdq⟩⟩, ⟨⟨@zfu, @zfv⟩, ⟨@zfw, @zfx⟩⟩⟩⟩⟩, ⟨⟨⟨⟨@zlz, ⟨@zl0, @zhq⟩⟩, ⟨@zhr, ⟨@zeg, @zeh⟩⟩⟩, ⟨⟨@zju, ⟨@zjt, @zko⟩⟩, ⟨⟨@zkp, @zkq⟩, ⟨@zh0, @zhz⟩⟩⟩⟩, ⟨⟨⟨@zmk, ⟨@zml, @zq4⟩⟩, ⟨@zsk, ⟨@zsl, @zy2⟩⟩⟩, ⟨⟨@zy1, ⟨@je4, @je5⟩⟩, ⟨⟨@zy3, @zlg⟩, ⟨@zlh, @zli⟩⟩⟩⟩⟩⟩
theorem zue (n : Net) (sh : Sh) (hi : n.ins.length ≤ 1000) (hg : n.gates.length ≤ 1000) (h : za9 Try.prog 48 [zas n, shD sh, intsD (zx4 n)] (.tup [.d (zbt [] []), .d (iD 2)])) : za9 Try.prog 32 [zas n, shD sh] (.tup [.d (intsD []), .d (iD 2)]) := by
 refine zbc (fn := Try.f32) (by kernel_rfl) Try.func32 rfl (Nat.le_of_ble_eq_true rfl) fun c hc hp => ?_
 refine zbf (τ' := frL [(0, .d (zas n)), (1, .d (shD sh))]) (by repeat (first | exact zak _ | refine zah ?_ (by first | rfl | (simp [r_f, zaa, zab, zag, zad, zbd, za8]; done) | simp [r_f, zaa, zab, zag, zad, zbd, za8, *]))) ?_
 refine zac hp zaj hc rfl fun K1 hK1 => ?_
 simp -dsimp -implicitDefEqProofs (disch := first | assumption | omega | (simp only [r_z, zaa, zab, zag, zad, zbd, za8] <;> omega) | decide) only [r_r, ↓reduceIte, Nat.reduceEqDiff, Nat.reduceAdd, D.fix, Int.reduceToNat, Nat.reduceMul, Nat.reduceBNe, Nat.reduceBEq, r_m, zas, zax, zae, zaf, shD, zbt, zby, zg9]
 refine hK1 _ _ ?_
 refine zac hp zaj hc rfl fun K2 hK2 => ?_
 simp -dsimp -implicitDefEqProofs (disch := first | assumption | omega | (simp only [r_z, zaa, zab, zag, zad, zbd, za8] <;> omega) | decide) only [r_r, ↓reduceIte, Nat.reduceEqDiff, Nat.reduceAdd, D.fix, Int.reduceToNat, Nat.reduceMul, Nat.reduceBNe, Nat.reduceBEq, r_m, zas, zax, zae, zaf, shD, zbt, zby, zg9]
 refine hK2 _ _ ?_
 refine zam fun K3 hK3 => ?_
 refine zac hp zaj hc rfl fun K4 hK4 => ?_
 simp -dsimp -implicitDefEqProofs (disch := first | assumption | omega | (simp only [r_z, zaa, zab, zag, zad, zbd, za8] <;> omega) | decide) only [r_r, ↓reduceIte, Nat.reduceEqDiff, Nat.reduceAdd, D.fix, Int.reduceToNat, Nat.reduceMul, Nat.reduceBNe, Nat.reduceBEq, r_m, zas, zax, zae, zaf, shD, zbt, zby, zg9]
 refine hK4 _ _ ?_
 refine zaz ?_
 refine za7 hp (fun τ' H' mm => ∃ (i : Nat), (i ≤ 2 + n.ins.length + n.gates.length) ∧ mm = 2 + n.ins.length + n.gates.length - i ∧ H' = [.cells (avs (zax n)), .cells (avs (ziz (fun j => (j : Int)) (2 + n.ins.length + n.gates.length) i))] ∧ τ' = frL [(1, .d (shD sh)), (2, .op 0 0), (4, .d (.val (.slice none 0 0))), (5, .d (iD 0)), (6, .os 1 1 0 (2 + n.ins.length + n.gates.length)), (26, .d (iD (2 + n.ins.length + n.gates.length : Nat))), (27, .d (iD i))]) (2 + n.ins.length + n.gates.length) ?_ ⟨0, Nat.zero_le _, rfl, rfl, rfl⟩ ?_
 ·refine Rt.trans (Rt.gc (keep := [0,1]) (by decide) (by decide) (by simp [fzH, gcH])) ?_
  refine Rt.end (by repeat (first | exact zak _ | refine zah ?_ (by first | rfl | (simp [r_f, zaa, zab, zag, zad, zbd, za8]; done) | simp [r_f, zaa, zab, zag, zad, zbd, za8, *]))) ?_
  simp only [r_g, Nat.reduceAdd, ↓reduceIte, Nat.reduceEqDiff, r_m, zas, zax, zae, zaf, shD, zbt, zby]; rw [← jev]; rfl
 rintro τ' H' mm ⟨i, hi2, rfl, rfl, rfl⟩
 refine zac hp zaj hc rfl fun K5 hK5 => ?_
 simp -dsimp -implicitDefEqProofs (disch := first | assumption | omega | (simp only [r_z, zaa, zab, zag, zad, zbd, za8] <;> omega) | decide) only [r_r, ↓reduceIte, Nat.reduceEqDiff, Nat.reduceAdd, D.fix, Int.reduceToNat, Nat.reduceMul, Nat.reduceBNe, Nat.reduceBEq, r_m, zas, zax, zae, zaf, shD, zbt, zby, zg9]
 refine hK5 _ _ ?_
 refine zam fun K6 hK6 => ?_
 refine zaq rfl (fun ht => ?_) (fun ht => ?_)
 ·have hlt : i < 2 + n.ins.length + n.gates.length := by simp at ht; omega
  refine zay (hK6 _ _ ?_)
  refine zam fun K7 hK7 => ?_
  refine zaz ?_
  refine zac hp zaj hc rfl fun K8 hK8 => ?_
  simp -dsimp -implicitDefEqProofs (disch := first | assumption | omega | (simp only [r_z, zaa, zab, zag, zad, zbd, za8] <;> omega) | decide) only [r_r, ↓reduceIte, Nat.reduceEqDiff, Nat.reduceAdd, D.fix, Int.reduceToNat, Nat.reduceMul, Nat.reduceBNe, Nat.reduceBEq, r_m, zas, zax, zae, zaf, shD, zbt, zby]
  refine hK8 _ _ ?_
  refine zbo hp zaj hc rfl fun K9 hK9 => ?_
  simp -dsimp -implicitDefEqProofs (disch := first | assumption | omega | (simp only [r_z, zaa, zab, zag, zad, zbd, za8] <;> omega) | decide) only [r_r, ↓reduceIte, Nat.reduceEqDiff, Nat.reduceAdd, D.fix, Int.reduceToNat, Nat.reduceMul, Nat.reduceBNe, Nat.reduceBEq, r_m, zas, zax, zae, zaf, shD, zbt, zby, zg9]
  refine hK9 _ _ (hK7 _ _ ?_)
  refine zbo hp zaj hc rfl fun K10 hK10 => ?_
  simp -dsimp -implicitDefEqProofs (disch := first | assumption | omega | (simp only [r_z, zaa, zab, zag, zad, zbd, za8] <;> omega) | decide) only [r_r, ↓reduceIte, Nat.reduceEqDiff, Nat.reduceAdd, D.fix, Int.reduceToNat, Nat.reduceMul, Nat.reduceBNe, Nat.reduceBEq, r_m, zas, zax, zae, zaf, shD, zbt, zby, zg9]
  refine hK10 _ _ ⟨_, _, _, ?_, ⟨i + 1, by omega, rfl, rfl, rfl⟩, ?_⟩
  ·first | omega | (simp only [List.length_cons]; omega) | (dsimp only; omega)
  ·refine Rt.trans (Rt.gc (keep := [0,1]) (by decide) (by decide) (by simp [fzH, gcH])) ?_
   refine Rt.end (by repeat (first | exact zak _ | refine zah ?_ (by first | rfl | (simp [r_f, zaa, zab, zag, zad, zbd, za8]; done) | simp [r_f, zaa, zab, zag, zad, zbd, za8, *]))) ?_
   simp only [r_g, Nat.reduceAdd, ↓reduceIte, Nat.reduceEqDiff, r_m, zas, zax, zae, zaf, shD, zbt, zby]; rw [← zq2 hlt]; rfl
 ·have hie : i = 2 + n.ins.length + n.gates.length := by simp at ht; omega
  have hfa : ziz (fun j => (j : Int)) (2 + n.ins.length + n.gates.length) i = (zx4 n).map iD := by rw [hie, jew]; unfold zx4; rw [List.map_map]; rfl
  rw [hfa]
  refine zbj (hK3 _ _ ?_)
  refine zb2 hp (τ' := frL [(1, .d (shD sh)), (2, .op 0 0), (4, .d (.val (.slice none 0 0))), (5, .d (iD 0)), (6, .d (intsD (zx4 n)))]) (H' := [.cells (avs (zax n))]) ?_ ?_
  ·refine Rt.trans (Rt.fz (id := 1) rfl) ?_
   refine Rt.trans (Rt.slot 6 (jb3 (zec (by simp [r_z, zaa, zab, zag, zad, zbd, za8])))) ?_
   refine Rt.trans (Rt.gc (keep := [0]) (by decide) (by decide) (by simp [fzH, gcH])) ?_
   refine Rt.end (by repeat (first | exact zak _ | refine zah ?_ (by first | rfl | (simp [r_f, zaa, zab, zag, zad, zbd, za8]; done) | simp [r_f, zaa, zab, zag, zad, zbd, za8, *]))) ?_
   first | rfl | (simp only [r_g, Nat.reduceAdd, ↓reduceIte, Nat.reduceEqDiff, r_m, zas, zax, zae, zaf, shD, zbt, zby]; first | done | rfl)
  refine zac hp zaj hc rfl fun K11 hK11 => ?_
  simp -dsimp -implicitDefEqProofs (disch := first | assumption | omega | (simp only [r_z, zaa, zab, zag, zad, zbd, za8] <;> omega) | decide) only [r_r, ↓reduceIte, Nat.reduceEqDiff, Nat.reduceAdd, D.fix, Int.reduceToNat, Nat.reduceMul, Nat.reduceBNe, Nat.reduceBEq, r_m, zas, zax, zae, zaf, shD, zbt, zby, zg9]
  refine zb4 (h) rfl ?_
  simp -dsimp -implicitDefEqProofs (disch := first | assumption | omega | (simp only [r_z, zaa, zab, zag, zad, zbd, za8] <;> omega) | decide) only [r_r, ↓reduceIte, Nat.reduceEqDiff, Nat.reduceAdd, D.fix, Int.reduceToNat, Nat.reduceMul, Nat.reduceBNe, Nat.reduceBEq, r_m, zas, zax, zae, zaf, shD, zbt, zby, zg9]
  refine hK11 _ _ ?_
  refine zam fun K12 hK12 => ?_
  refine zac hp zaj hc rfl fun K13 hK13 => ?_
  simp -dsimp -implicitDefEqProofs (disch := first | assumption | omega | (simp only [r_z, zaa, zab, zag, zad, zbd, za8] <;> omega) | decide) only [r_r, ↓reduceIte, Nat.reduceEqDiff, Nat.reduceAdd, D.fix, Int.reduceToNat, Nat.reduceMul, Nat.reduceBNe, Nat.reduceBEq, r_m, zas, zax, zae, zaf, shD, zbt, zby, zg9]
  refine hK13 _ _ ?_
  refine zaq rfl (fun ht => ?_) (fun ht => ?_)
  ·refine zac hp zaj hc rfl fun K14 hK14 => ?_
   simp -dsimp -implicitDefEqProofs (disch := first | assumption | omega | (simp only [r_z, zaa, zab, zag, zad, zbd, za8] <;> omega) | decide) only [r_r, ↓reduceIte, Nat.reduceEqDiff, Nat.reduceAdd, D.fix, Int.reduceToNat, Nat.reduceMul, Nat.reduceBNe, Nat.reduceBEq, r_m, zas, zax, zae, zaf, shD, zbt, zby]
   refine hK14 _ _ ?_
   refine za4 ?_
   show closeA _ _ = _
   simp (disch := first | assumption | omega | (simp only [r_z, zaa, zab, zag, zad, zbd, za8] <;> omega) | decide) only [r_c, Nat.reduceAdd, D.fix, ↓reduceIte, Nat.reduceEqDiff, r_m, zas, zax, zae, zaf, shD, zbt, zby]
  ·cases ht
def ju5 (n : Net) (sh : Sh) (L : List Int) (E : Int) : Prop :=
 (E = 2 ∧ L = [] ∧ ∃ fs, FsP (zdm n.ins.length sh) n.ins.length sh n.gates n.gates.length fs ∧ 3000 < (zeq fs).length) ∨
 (E = 0 ∧ ∃ fs, FsP (zdm n.ins.length sh) n.ins.length sh n.gates n.gates.length fs ∧ L = (fs.map (num (zeq fs))).map fun r => (zzs (fs.map (num (zeq fs))) r : Int))
theorem jl4 {n : Net} (hn : NetB n) {sh : Sh} (hsh : ShOk sh) (hsv : zdm n.ins.length sh ≤ n.ins.length + 5) : ∃ L E, ju5 n sh L E ∧ za9 Try.prog 32 [zas n, shD sh] (.tup [.d (intsD L), .d (iD E)]) := by
 have hi9 := hn.i1
 have hg1 := hn.g1
 obtain ⟨fs, hF⟩ := jlu (ins := n.ins.length) (sh := sh) (gates := n.gates) _ (Nat.le_refl _)
 have hl := hF.len
 have hB := jj1 (n := n) (sh := sh) (nodes := zx4 n) hi9 (by omega) hsh hsv hn.g2 (jrn n) (by rw [za8]; omega)
 by_cases hbig : 3000 < (zeq fs).length
 ·exact ⟨[], 2, .inl ⟨rfl, rfl, fs, hF, hbig⟩, zue n sh (by omega) (by omega) (zta hF hn.g2 (by omega) hB hbig)⟩
 ·have hbo := zyd hF hn.g2 (by omega) hB hbig
  rw [jef hl] at hbo
  refine ⟨_, 0, .inr ⟨rfl, fs, hF, rfl⟩, zzi n sh (by omega) (by omega) (zlp (zeq fs)) (fs.map (num (zeq fs))) (by rw [List.length_map, hl]) (fun r hr => ?_) hbo⟩
  obtain ⟨t, ht, rfl⟩ := List.mem_map.1 hr
  have := zee (zkx ht)
  omega
def exA : Net := ⟨[⟨1, 0, 0⟩, ⟨1, 0, 1⟩], [⟨4, 2, 3, 0, 0⟩], [⟨6, 0, 0⟩], [4]⟩
def exB : Net := ⟨[⟨1, 0, 0⟩, ⟨1, 0, 1⟩], [⟨3, 2, 3, 0, 0⟩], [⟨6, 0, 0⟩], [4]⟩
def exC : Net := ⟨[⟨1, 0, 0⟩, ⟨1, 0, 1⟩], [⟨2, 2, 3, 0, 0⟩, ⟨1, 4, 0, 0, 0⟩, ⟨1, 5, 0, 0, 0⟩], [], []⟩
def exM : Net := ⟨[⟨1, 0, 0⟩, ⟨1, 0, 1⟩], [⟨4, 2, 3, 0, 0⟩, ⟨3, 2, 3, 0, 0⟩, ⟨4, 4, 5, 0, 0⟩], [⟨6, 0, 0⟩], [6]⟩
theorem gok {m : Nat} {o a b c : Int} (h : 1 ≤ o ∧ o ≤ 7 ∧ 0 ≤ a ∧ a < m ∧ 0 ≤ b ∧ b < m ∧ 0 ≤ c ∧ c < m) : GateOk m ⟨o, a, b, c, 0⟩ := ⟨h.1, h.2.1, h.2.2.1, h.2.2.2.1, h.2.2.2.2.1, h.2.2.2.2.2.1, h.2.2.2.2.2.2.1, h.2.2.2.2.2.2.2, show (0 : Int) ≤ 0 by decide, show (0 : Int) < 1000000 by decide⟩
theorem juk {m : Nat} {g : Gate} (h : GateOk m g) : GatesOk m [g] := fun k hk => by
 have e : k = 0 := by simpa using hk
 subst e
 exact h
theorem jto {m : Nat} {d : Int} (h0 : 0 ≤ d) (h1 : d < m) : DriveOk m [d] := fun k hk => by
 have e : k = 0 := by simpa using hk
 subst e
 exact ⟨h0, h1⟩
theorem jl5 : NetQ 100 exA := ⟨by decide, by decide, by decide, juk (gok (by decide)), rfl, by decide, jto (by decide) (by decide), by decide⟩
theorem jtp : NetQ 100 exB := ⟨by decide, by decide, by decide, juk (gok (by decide)), rfl, by decide, jto (by decide) (by decide), by decide⟩
theorem exAB : Pair exA exB := ⟨jl5, jtp, rfl, rfl, rfl, by decide⟩
theorem exAA : Pair exA exA := ⟨jl5, jl5, rfl, rfl, rfl, by decide⟩
theorem jey : ShOk [] := ⟨by decide, fun k hk => by simp at hk⟩
theorem jez : za9 Try.prog 39 [zas exA, zas exB] (.tup [.d (zas exM), .d (iD 0)]) := zud exA exB rfl rfl exAB.mit (by decide) (by decide) (by decide) (by decide) (by decide) (by decide)
theorem jtq : za9 Try.prog 24 [zas exA, zas exB] (.d (.agg (zax exM ++ [iD 0]))) := jep exA exB exM jez
theorem jtr : za9 Try.prog 11 [zas exA, zas exB, shD []] (.d (zem false [true, true] 0)) := by
 obtain ⟨is, L, E, hS, hc⟩ := exAB.compare jey (by decide)
 have h0 : zq6 exA exB [] (zo4 2 ((0 : Nat) : Int)) = false := by kernel_rfl
 have h1 : zq6 exA exB [] (zo4 2 ((1 : Nat) : Int)) = false := by kernel_rfl
 have h2 : zq6 exA exB [] (zo4 2 ((2 : Nat) : Int)) = false := by kernel_rfl
 have hd : ∀ j : Nat, j < 3 → zq6 exA exB [] (zo4 2 (j : Int)) = false := fun j hj => by
  match j, hj with
  | 0, _ => exact h0
  | 1, _ => exact h1
  | 2, _ => exact h2
 have hd3 : zq6 exA exB [] (zo4 2 ((3 : Nat) : Int)) = true := by kernel_rfl
 rcases hS with ⟨_, _, _, fs, hF, hbig⟩ | ⟨_, _, _, h⟩ | ⟨rfl, rfl, i, hi, h3, h4, rfl⟩
 ·exact absurd hbig (zqx hF (by decide) (by decide))
 ·rw [h] at hd3; cases hd3
 ·have hi4 : i < 4 := hi
  have : i = 3 := by
   rcases Nat.lt_or_ge i 3 with hl | hl
   ·have e := hd i hl
    have h1' : zq6 exA exB [] (zo4 2 (i : Int)) = true := h3
    rw [e] at h1'; cases h1'
   ·omega
  subst this
  exact zo5 exA exB [] false _ 0 hc
theorem jts : za9 Try.prog 11 [zas exA, zas exA, shD []] (.d (zem true [] 0)) := by
 obtain ⟨is, L, E, hS, hc⟩ := exAA.compare jey (by decide)
 rcases hS with ⟨_, _, _, fs, hF, hbig⟩ | ⟨rfl, rfl, rfl, h⟩ | ⟨_, _, i, hi, h1, _⟩
 ·exact absurd hbig (zqx hF (by decide) (by decide))
 ·exact zo5 exA exA [] true [] 0 hc
 ·rw [jex] at h1; cases h1
theorem jtt : za9 Try.prog 11 [zas exA, zas exC, shD []] (.d (zem false [] 1)) := zb6 (n := 60) mixed zaj (by kernel_rfl)
def sh9 : D := .fs (List.replicate 18 (iD 0)) 9
theorem jr3 : za9 Try.prog 47 [zas exM, sh9] (.tup [.d (iD 2), .d (oD false)]) := zb6 (n := 60) mixed zaj (by kernel_rfl)
theorem jl6 : za9 Try.prog 28 [zas exM, zas exM] (.d (oD true)) := zb6 (n := 60) mixed zaj (by kernel_rfl)
theorem jl7 (a b m : Net) (v : Int) (h1 : za9 Try.prog 39 [zas a, zas b] (.tup [.d (zas m), .d (iD 0)])) (h3 : za9 Try.prog 47 [zas m, sh9] (.tup [.d (iD v), .d (oD false)])) : za9 Try.prog 31 [zas a, zas b, sh9] (.tup [.d (oD false), .d (boolsD []), .d (iD 1)]) := by
 refine zbc (fn := Try.f31) (by kernel_rfl) Try.func31 rfl (Nat.le_of_ble_eq_true rfl) fun c hc hp => ?_
 refine zbf (τ' := frL [(0, .d (zas a)), (1, .d (zas b)), (2, .d (sh9))]) (by repeat (first | exact zak _ | refine zah ?_ (by first | rfl | (simp [r_f, zaa]; done) | simp [r_f, zaa, *]))) ?_
 refine zac hp zaj hc rfl fun K1 hK1 => ?_
 simp -dsimp -implicitDefEqProofs (disch := first | assumption | omega | (simp only [r_z, zaa] <;> omega) | decide) only [r_r, ↓reduceIte, Nat.reduceEqDiff, Nat.reduceAdd, D.fix, Int.reduceToNat, Nat.reduceMul, Nat.reduceBNe, Nat.reduceBEq, zas, zax, zae, zaf, zg9]
 refine hK1 _ _ ?_
 refine zac hp zaj hc rfl fun K2 hK2 => ?_
 simp -dsimp -implicitDefEqProofs (disch := first | assumption | omega | (simp only [r_z, zaa] <;> omega) | decide) only [r_r, ↓reduceIte, Nat.reduceEqDiff, Nat.reduceAdd, D.fix, Int.reduceToNat, Nat.reduceMul, Nat.reduceBNe, Nat.reduceBEq, zas, zax, zae, zaf, zg9]
 refine zb4 (h1) rfl ?_
 simp -dsimp -implicitDefEqProofs (disch := first | assumption | omega | (simp only [r_z, zaa] <;> omega) | decide) only [r_r, ↓reduceIte, Nat.reduceEqDiff, Nat.reduceAdd, D.fix, Int.reduceToNat, Nat.reduceMul, Nat.reduceBNe, Nat.reduceBEq, zas, zax, zae, zaf, zg9]
 refine hK2 _ _ ?_
 refine zam fun K3 hK3 => ?_
 refine zac hp zaj hc rfl fun K4 hK4 => ?_
 simp -dsimp -implicitDefEqProofs (disch := first | assumption | omega | (simp only [r_z, zaa] <;> omega) | decide) only [r_r, ↓reduceIte, Nat.reduceEqDiff, Nat.reduceAdd, D.fix, Int.reduceToNat, Nat.reduceMul, Nat.reduceBNe, Nat.reduceBEq, zas, zax, zae, zaf, zg9]
 refine hK4 _ _ ?_
 refine zaq rfl (fun ht => ?_) (fun ht => ?_)
 ·cases ht
 ·refine zay (hK3 _ _ ?_)
  refine zac hp zaj hc rfl fun K5 hK5 => ?_
  simp -dsimp -implicitDefEqProofs (disch := first | assumption | omega | (simp only [r_z, zaa] <;> omega) | decide) only [r_r, ↓reduceIte, Nat.reduceEqDiff, Nat.reduceAdd, D.fix, Int.reduceToNat, Nat.reduceMul, Nat.reduceBNe, Nat.reduceBEq, zas, zax, zae, zaf, zg9]
  refine zb4 (h3) rfl ?_
  simp -dsimp -implicitDefEqProofs (disch := first | assumption | omega | (simp only [r_z, zaa] <;> omega) | decide) only [r_r, ↓reduceIte, Nat.reduceEqDiff, Nat.reduceAdd, D.fix, Int.reduceToNat, Nat.reduceMul, Nat.reduceBNe, Nat.reduceBEq, zas, zax, zae, zaf, zg9]
  refine hK5 _ _ ?_
  refine zam fun K6 hK6 => ?_
  refine zaz ?_
  refine zac hp zaj hc rfl fun K7 hK7 => ?_
  simp -dsimp -implicitDefEqProofs (disch := first | assumption | omega | (simp only [r_z, zaa] <;> omega) | decide) only [r_r, ↓reduceIte, Nat.reduceEqDiff, Nat.reduceAdd, D.fix, Int.reduceToNat, Nat.reduceMul, Nat.reduceBNe, Nat.reduceBEq, zas, zax, zae, zaf, zg9]
  refine hK7 _ _ ?_
  refine zaq rfl (fun ht => ?_) (fun ht => ?_)
  ·refine zac hp zaj hc rfl fun K8 hK8 => ?_
   simp -dsimp -implicitDefEqProofs (disch := first | assumption | omega | (simp only [r_z, zaa] <;> omega) | decide) only [r_r, ↓reduceIte, Nat.reduceEqDiff, Nat.reduceAdd, D.fix, Int.reduceToNat, Nat.reduceMul, Nat.reduceBNe, Nat.reduceBEq, zas, zax, zae, zaf]
   refine hK8 _ _ ?_
   refine za4 ?_
   show closeA _ _ = _
   simp (disch := first | assumption | omega | (simp only [r_z, zaa] <;> omega) | decide) only [r_c, Nat.reduceAdd, D.fix, ↓reduceIte, Nat.reduceEqDiff, zas, zax, zae, zaf]
  ·cases ht
theorem zzj (a b : Net) (is : Bool) (L : List Bool) (E : Int) (h : za9 Try.prog 31 [zas a, zas b, sh9] (.tup [.d (oD is), .d (boolsD L), .d (iD E)])) : za9 Try.prog 11 [zas a, zas b, sh9] (.d (zem is L E)) := by
 refine zbc (fn := Try.f11) (by kernel_rfl) Try.func11 rfl (Nat.le_of_ble_eq_true rfl) fun c hc hp => ?_
 refine zbf (τ' := frL [(0, .d (zas a)), (1, .d (zas b)), (2, .d (sh9))]) (by repeat (first | exact zak _ | refine zah ?_ (by first | rfl | (simp [r_f, zaa, zab]; done) | simp [r_f, zaa, zab, *]))) ?_
 refine zac hp zaj hc rfl fun K1 hK1 => ?_
 simp -dsimp -implicitDefEqProofs (disch := first | assumption | omega | (simp only [r_z, zaa, zab] <;> omega) | decide) only [r_r, ↓reduceIte, Nat.reduceEqDiff, Nat.reduceAdd, D.fix, Int.reduceToNat, Nat.reduceMul, Nat.reduceBNe, Nat.reduceBEq, zas, zax, zae, zaf, zem, zg9]
 refine hK1 _ _ ?_
 refine zac hp zaj hc rfl fun K2 hK2 => ?_
 simp -dsimp -implicitDefEqProofs (disch := first | assumption | omega | (simp only [r_z, zaa, zab] <;> omega) | decide) only [r_r, ↓reduceIte, Nat.reduceEqDiff, Nat.reduceAdd, D.fix, Int.reduceToNat, Nat.reduceMul, Nat.reduceBNe, Nat.reduceBEq, zas, zax, zae, zaf, zem, zg9]
 refine zb4 (h) rfl ?_
 simp -dsimp -implicitDefEqProofs (disch := first | assumption | omega | (simp only [r_z, zaa, zab] <;> omega) | decide) only [r_r, ↓reduceIte, Nat.reduceEqDiff, Nat.reduceAdd, D.fix, Int.reduceToNat, Nat.reduceMul, Nat.reduceBNe, Nat.reduceBEq, zas, zax, zae, zaf, zem, zg9]
 refine hK2 _ _ ?_
 refine zac hp zaj hc rfl fun K3 hK3 => ?_
 simp -dsimp -implicitDefEqProofs (disch := first | assumption | omega | (simp only [r_z, zaa, zab] <;> omega) | decide) only [r_r, ↓reduceIte, Nat.reduceEqDiff, Nat.reduceAdd, D.fix, Int.reduceToNat, Nat.reduceMul, Nat.reduceBNe, Nat.reduceBEq, zas, zax, zae, zaf, zem, zg9]
 refine hK3 _ _ ?_
 refine za4 ?_
 try dsimp only [zjj, zc3]
 refine zdo rfl ?_
 simp -dsimp -implicitDefEqProofs (disch := first | assumption | omega | (simp only [r_z, zaa, zab] <;> omega) | decide) only [r_r, ↓reduceIte, Nat.reduceEqDiff, Nat.reduceAdd, D.fix, Int.reduceToNat, Nat.reduceMul, Nat.reduceBNe, Nat.reduceBEq, zas, zax, zae, zaf, zem, zsk, zsl]
 show closeA _ _ = _
 simp (disch := first | assumption | omega | (simp only [r_z, zaa, zab] <;> omega) | decide) only [r_c, Nat.reduceAdd, D.fix, ↓reduceIte, Nat.reduceEqDiff, zas, zax, zae, zaf, zem]
theorem jtu : za9 Try.prog 11 [zas exA, zas exB, sh9] (.d (zem false [] 1)) := zzj exA exB false [] 1 (jl7 exA exB exM 2 jez jr3)
def tAn : T := .node 0 (.leaf false) (zqn 1)
def tNa : T := .node 0 (.leaf true) (.node 1 (.leaf true) (.leaf false))
def exT : List T := [.leaf false, .leaf true, zqn 0, zqn 1, tAn, tNa, tAn]
theorem jtv : GatesOk (2 + exC.ins.length) exC.gates := fun k hk => by
 match k, hk with
 | 0, _ => exact gok (by decide)
 | 1, _ => exact gok (by decide)
 | 2, _ => exact gok (by decide)
theorem jr4 {fs : List T} (hF : FsP (zdm exC.ins.length []) exC.ins.length [] exC.gates exC.gates.length fs) : fs = exT := by
 have hl : fs.length = 7 := hF.len
 have e2 := hF.fv 0 (by decide)
 have e3 := hF.fv 1 (by decide)
 have t4 : ∀ a, (nth fs 4).eval a = (a 0 && a 1) := fun a => by
  refine (hF.fg 0 (by decide) a).trans ?_
  show ((nth (fs.take 4) 2).eval a && (nth (fs.take 4) 3).eval a) = _
  rw [zei (by omega), zei (by omega), e2, e3]
  simp [zqn, T.eval]
 have t5 : ∀ a, (nth fs 5).eval a = !(a 0 && a 1) := fun a => by
  refine (hF.fg 1 (by decide) a).trans ?_
  show (!(nth (fs.take 5) 4).eval a) = _
  rw [zei (by omega), t4]
 have t6 : ∀ a, (nth fs 6).eval a = (a 0 && a 1) := fun a => by
  refine (hF.fg 2 (by decide) a).trans ?_
  show (!(nth (fs.take 6) 5).eval a) = _
  rw [zei (by omega), t5]; simp
 have hok : ∀ k, k < 7 → (nth fs k).Ok 2 0 := fun k hk => hF.ok _ (zb3 (by omega))
 refine zpr (by rw [hl]; rfl) fun k hk => ?_
 rw [hl] at hk
 match k, hk with
 | 0, _ => exact hF.f0
 | 1, _ => exact hF.f1
 | 2, _ => exact e2
 | 3, _ => exact e3
 | 4, _ => exact T.Ok.eq (hok 4 (by decide)) (show tAn.Ok 2 0 by simp [tAn, zqn, T.Ok]) fun a => by rw [t4]; show _ = tAn.eval a; simp only [tAn, zqn, T.eval]; cases a 0 <;> cases a 1 <;> rfl
 | 5, _ => exact T.Ok.eq (hok 5 (by decide)) (show tNa.Ok 2 0 by simp [tNa, T.Ok]) fun a => by rw [t5]; show _ = tNa.eval a; simp only [tNa, T.eval]; cases a 0 <;> cases a 1 <;> rfl
 | 6, _ => exact T.Ok.eq (hok 6 (by decide)) (show tAn.Ok 2 0 by simp [tAn, zqn, T.Ok]) fun a => by rw [t6]; show _ = tAn.eval a; simp only [tAn, zqn, T.eval]; cases a 0 <;> cases a 1 <;> rfl
theorem jr5 : za9 Try.prog 17 [zas exC, shD []] (.d (clD [0, 1, 2, 3, 4, 5, 4] 0)) := by
 obtain ⟨L, E, hS, hc⟩ := jl4 (n := exC) ⟨by decide, by decide, jtv⟩ jey (by decide)
 rcases hS with ⟨_, _, fs, hF, hbig⟩ | ⟨rfl, fs, hF, rfl⟩
 ·exact absurd hbig (zqx hF (by decide) (by decide))
 ·rw [jr4 hF] at hc
  rw [show ((exT.map (num (zeq exT))).map fun r => (zzs (exT.map (num (zeq exT))) r : Int)) = [0, 1, 2, 3, 4, 5, 4] by kernel_rfl] at hc
  exact jeq exC [] _ 0 hc
end Go.Proofs.Ytignimmnnccblaa

/- The chapter's examples. -/
set_option linter.unusedVariables false
set_option linter.unusedSimpArgs false
set_option maxRecDepth 100000
set_option maxHeartbeats 4000000
namespace Go.Proofs.Ytignimmnnccblaa
open Go Go.RowKit
theorem zh4 : (((((((type_of% @zy8) ∧ (type_of% @zlj)) ∧ ((type_of% @zlk) ∧ ((type_of% @zll) ∧ (type_of% @zn0)))) ∧ (((type_of% @zn1) ∧ (type_of% @zss)) ∧ ((type_of% @zsr) ∧ ((type_of% @ze4) ∧ (type_of% @ze5))))) ∧ ((((type_of% @ze6) ∧ (type_of% @ze7)) ∧ ((type_of% @je4) ∧ ((type_of% @je5) ∧ (type_of% @zhq)))) ∧ (((type_of% @zhr) ∧ ((type_of% @zst) ∧ (type_of% @zim))) ∧ ((type_of% @zin) ∧ ((type_of% @zio) ∧ (type_of% @ziq)))))) ∧ (((((type_of% @zit) ∧ (type_of% @zh1)) ∧ ((type_of% @zh2) ∧ ((type_of% @zkv) ∧ (type_of% @zku)))) ∧ (((type_of% @zfq) ∧ (type_of% @zfr)) ∧ ((type_of% @zfs) ∧ ((type_of% @zft) ∧ (type_of% @zde))))) ∧ ((((type_of% @zdf) ∧ (type_of% @zdg)) ∧ ((type_of% @zdq) ∧ ((type_of% @zsj) ∧ (type_of% @zii)))) ∧ (((type_of% @zij) ∧ ((type_of% @zik) ∧ (type_of% @zil))) ∧ ((type_of% @zds) ∧ ((type_of% @zdt) ∧ (type_of% @zh0))))))) ∧ ((((((type_of% @zhz) ∧ (type_of% @zex)) ∧ ((type_of% @zey) ∧ ((type_of% @zfu) ∧ (type_of% @zfv)))) ∧ (((type_of% @zfw) ∧ (type_of% @zfx)) ∧ ((type_of% @zt1) ∧ ((type_of% @zt2) ∧ (type_of% @zy7))))) ∧ ((((type_of% @zy6) ∧ (type_of% @jdh)) ∧ ((type_of% @jdi) ∧ ((type_of% @jgb) ∧ (type_of% @jga)))) ∧ (((type_of% @zqg) ∧ ((type_of% @zqh) ∧ (type_of% @zko))) ∧ ((type_of% @zkp) ∧ ((type_of% @zkq) ∧ (type_of% @zqe)))))) ∧ (((((type_of% @zqf) ∧ (type_of% @zkk)) ∧ ((type_of% @zkl) ∧ ((type_of% @zkm) ∧ (type_of% @zkn)))) ∧ (((type_of% @zy3) ∧ (type_of% @zlg)) ∧ ((type_of% @zlh) ∧ ((type_of% @zli) ∧ (type_of% @zsk))))) ∧ ((((type_of% @zsl) ∧ (type_of% @zy2)) ∧ ((type_of% @zy1) ∧ ((type_of% @zqc) ∧ (type_of% @zqd)))) ∧ (((type_of% @jdm) ∧ ((type_of% @jdn) ∧ (type_of% @jdj))) ∧ ((type_of% @jdk) ∧ ((type_of% @jsg) ∧ (type_of% @jsh)))))))) := ⟨⟨⟨⟨⟨⟨@zy8, @zlj⟩, ⟨@zlk, ⟨@zll, @zn0⟩⟩⟩, ⟨⟨@zn1, @zss⟩, ⟨@zsr, ⟨@ze4, @ze5⟩⟩⟩⟩, ⟨⟨⟨@ze6, @ze7⟩, ⟨@je4, ⟨@je5, @zhq⟩⟩⟩, ⟨⟨@zhr, ⟨@zst, @zim⟩⟩, ⟨@zin, ⟨@zio, @ziq⟩⟩⟩⟩⟩, ⟨⟨⟨⟨@zit, @zh1⟩, ⟨@zh2, ⟨@zkv, @zku⟩⟩⟩, ⟨⟨@zfq, @zfr⟩, ⟨@zfs, ⟨@zft, @zde⟩⟩⟩⟩, ⟨⟨⟨@zdf, @zdg⟩, ⟨@zdq, ⟨@zsj, @zii⟩⟩⟩, ⟨⟨@zij, ⟨@zik, @zil⟩⟩, ⟨@zds, ⟨@zdt, @zh0⟩⟩⟩⟩⟩⟩, ⟨⟨⟨⟨⟨@zhz, @zex⟩, ⟨@zey, ⟨@zfu, @zfv⟩⟩⟩, ⟨⟨@zfw, @zfx⟩, ⟨@zt1, ⟨@zt2, @zy7⟩⟩⟩⟩, ⟨⟨⟨@zy6, @jdh⟩, ⟨@jdi, ⟨@jgb, @jga⟩⟩⟩, ⟨⟨@zqg, ⟨@zqh, @zko⟩⟩, ⟨@zkp, ⟨@zkq, @zqe⟩⟩⟩⟩⟩, ⟨⟨⟨⟨@zqf, @zkk⟩, ⟨@zkl, ⟨@zkm, @zkn⟩⟩⟩, ⟨⟨@zy3, @zlg⟩, ⟨@zlh, ⟨@zli, @zsk⟩⟩⟩⟩, ⟨⟨⟨@zsl, @zy2⟩, ⟨@zy1, ⟨@zqc, @zqd⟩⟩⟩, ⟨⟨@jdm, ⟨@jdn, @jdj⟩⟩, ⟨@jdk, ⟨@jsg, @jsh⟩⟩⟩⟩⟩⟩⟩
theorem jtw : za9 Try.prog 12 [zem false [true, true] 0, zem false [true, true] 0] (.d (oD true)) := jj6 false false [true, true] [true, true] 0 0 (by decide)
theorem jtx : za9 Try.prog 12 [zem true [] 0, zem true [] 0] (.d (oD true)) := jj6 true true [] [] 0 0 (by decide)
theorem jl8 : za9 Try.prog 29 [intsD [0, 1, 2, 3, 4, 5, 4], intsD [0, 1, 2, 3, 4, 5, 4]] (.d (oD true)) := jqv [0, 1, 2, 3, 4, 5, 4] [0, 1, 2, 3, 4, 5, 4] (by decide)
theorem zzk : za9 Try.prog 7 [] (.d (oD true)) := by
 refine zbc (fn := Try.f7) (by kernel_rfl) Try.func7 rfl (Nat.le_of_ble_eq_true rfl) fun c hc hp => ?_
 refine zbf (τ' := frL []) (zak _) ?_
 refine zac hp zaj hc rfl fun K1 hK1 => ?_
 simp -dsimp -implicitDefEqProofs (disch := first | assumption | omega | (simp only [r_z] <;> omega) | decide) only [r_r, ↓reduceIte, Nat.reduceEqDiff, Nat.reduceAdd, D.fix, Int.reduceToNat, Nat.reduceMul, Nat.reduceBNe, Nat.reduceBEq, r_e, zas, zax, zae, zaf, zem, clD, beq_self_eq_true, Int.reduceBEq, Int.reduceBNe, bne_self_eq_false]
 refine hK1 _ _ ?_
 refine zac hp zaj hc rfl fun K2 hK2 => ?_
 simp -dsimp -implicitDefEqProofs (disch := first | assumption | omega | (simp only [r_z] <;> omega) | decide) only [r_r, ↓reduceIte, Nat.reduceEqDiff, Nat.reduceAdd, D.fix, Int.reduceToNat, Nat.reduceMul, Nat.reduceBNe, Nat.reduceBEq, r_e, zas, zax, zae, zaf, zem, clD, beq_self_eq_true, Int.reduceBEq, Int.reduceBNe, bne_self_eq_false, zh4]
 refine hK2 _ _ ?_
 refine zac hp zaj hc rfl fun K3 hK3 => ?_
 simp -dsimp -implicitDefEqProofs (disch := first | assumption | omega | (simp only [r_z] <;> omega) | decide) only [r_r, ↓reduceIte, Nat.reduceEqDiff, Nat.reduceAdd, D.fix, Int.reduceToNat, Nat.reduceMul, Nat.reduceBNe, Nat.reduceBEq, r_e, zas, zax, zae, zaf, zem, clD, beq_self_eq_true, Int.reduceBEq, Int.reduceBNe, bne_self_eq_false, zh4]
 refine hK3 _ _ ?_
 refine zac hp zaj hc rfl fun K4 hK4 => ?_
 simp -dsimp -implicitDefEqProofs (disch := first | assumption | omega | (simp only [r_z] <;> omega) | decide) only [r_r, ↓reduceIte, Nat.reduceEqDiff, Nat.reduceAdd, D.fix, Int.reduceToNat, Nat.reduceMul, Nat.reduceBNe, Nat.reduceBEq, r_e, zas, zax, zae, zaf, zem, clD, beq_self_eq_true, Int.reduceBEq, Int.reduceBNe, bne_self_eq_false, zh4]
 refine hK4 _ _ ?_
 refine zac hp zaj hc rfl fun K5 hK5 => ?_
 simp -dsimp -implicitDefEqProofs (disch := first | assumption | omega | (simp only [r_z] <;> omega) | decide) only [r_r, ↓reduceIte, Nat.reduceEqDiff, Nat.reduceAdd, D.fix, Int.reduceToNat, Nat.reduceMul, Nat.reduceBNe, Nat.reduceBEq, r_e, zas, zax, zae, zaf, zem, clD, beq_self_eq_true, Int.reduceBEq, Int.reduceBNe, bne_self_eq_false, zh4]
 refine hK5 _ _ ?_
 refine zac hp zaj hc rfl fun K6 hK6 => ?_
 simp -dsimp -implicitDefEqProofs (disch := first | assumption | omega | (simp only [r_z] <;> omega) | decide) only [r_r, ↓reduceIte, Nat.reduceEqDiff, Nat.reduceAdd, D.fix, Int.reduceToNat, Nat.reduceMul, Nat.reduceBNe, Nat.reduceBEq, r_e, zas, zax, zae, zaf, zem, clD, beq_self_eq_true, Int.reduceBEq, Int.reduceBNe, bne_self_eq_false, zh4]
 refine hK6 _ _ ?_
 refine zac hp zaj hc rfl fun K7 hK7 => ?_
 simp -dsimp -implicitDefEqProofs (disch := first | assumption | omega | (simp only [r_z] <;> omega) | decide) only [r_r, ↓reduceIte, Nat.reduceEqDiff, Nat.reduceAdd, D.fix, Int.reduceToNat, Nat.reduceMul, Nat.reduceBNe, Nat.reduceBEq, r_e, zas, zax, zae, zaf, zem, clD, beq_self_eq_true, Int.reduceBEq, Int.reduceBNe, bne_self_eq_false, zh4]
 refine hK7 _ _ ?_
 refine zb2 hp (τ' := frL [(3, .d (.fp (zax exA) 0)), (4, .d (.fp (zax exB) 0)), (5, .d (.fp (zax exC) 0)), (6, .d (.fp (zax exM) 0))]) (H' := []) ?_ ?_
 ·refine Rt.trans (Rt.fz (id := 0) (l := exA.ins.flatMap za5) rfl) ?_
  refine Rt.trans (Rt.fz (id := 1) (l := exA.out.flatMap za5) rfl) ?_
  refine Rt.trans (Rt.fz (id := 2) (l := exA.gates.flatMap zap) rfl) ?_
  refine Rt.trans (Rt.fz (id := 3) (l := [iD 4]) rfl) ?_
  refine Rt.trans (Rt.fz (id := 5) (l := exB.gates.flatMap zap) rfl) ?_
  refine Rt.trans (Rt.fz (id := 6) (l := [iD 4]) rfl) ?_
  refine Rt.trans (Rt.fz (id := 8) (l := exC.gates.flatMap zap) rfl) ?_
  refine Rt.trans (Rt.fz (id := 10) (l := exM.gates.flatMap zap) rfl) ?_
  refine Rt.trans (Rt.fz (id := 11) (l := [iD 6]) rfl) ?_
  refine Rt.trans (Rt.fixc 9 2 rfl rfl) ?_
  refine Rt.trans (Rt.fixc 9 3 rfl rfl) ?_
  refine Rt.trans (Rt.fz (id := 4) (l := zax exA) rfl) ?_
  refine Rt.trans (Rt.fz (id := 7) (l := zax exB) rfl) ?_
  refine Rt.trans (Rt.fz (id := 9) (l := zax exC) rfl) ?_
  refine Rt.trans (Rt.fz (id := 12) (l := zax exM) rfl) ?_
  refine Rt.trans (Rt.gc (keep := []) (by decide) (by decide) (by simp [fzH, gcH])) ?_
  refine Rt.end (by repeat (first | exact zak _ | refine zah ?_ (by first | rfl | (simp [r_f]; done) | simp [r_f, *]))) ?_
  first | rfl | (simp only [r_g, Nat.reduceAdd, ↓reduceIte, Nat.reduceEqDiff, r_e, zas, zax, zae, zaf, zem, clD, beq_self_eq_true, Int.reduceBEq, Int.reduceBNe, bne_self_eq_false]; first | done | rfl)
 refine zbn zaj hc mixed rfl (q := 2) (by kernel_rfl) (by kernel_rfl) fun K8 hK8 => ?_
 simp -dsimp -implicitDefEqProofs (disch := first | assumption | omega | (simp only [r_z] <;> omega) | decide) only [r_r, ↓reduceIte, Nat.reduceEqDiff, Nat.reduceAdd, D.fix, Int.reduceToNat, Nat.reduceMul, Nat.reduceBNe, Nat.reduceBEq, r_e, zas, zax, zae, zaf, zem, clD, beq_self_eq_true, Int.reduceBEq, Int.reduceBNe, bne_self_eq_false, zh4]
 refine zb4 (jtq) rfl ?_
 simp -dsimp -implicitDefEqProofs (disch := first | assumption | omega | (simp only [r_z] <;> omega) | decide) only [r_r, ↓reduceIte, Nat.reduceEqDiff, Nat.reduceAdd, D.fix, Int.reduceToNat, Nat.reduceMul, Nat.reduceBNe, Nat.reduceBEq, r_e, zas, zax, zae, zaf, zem, clD, beq_self_eq_true, Int.reduceBEq, Int.reduceBNe, bne_self_eq_false, zh4]
 refine zb4 (jr5) rfl ?_
 simp -dsimp -implicitDefEqProofs (disch := first | assumption | omega | (simp only [r_z] <;> omega) | decide) only [r_r, ↓reduceIte, Nat.reduceEqDiff, Nat.reduceAdd, D.fix, Int.reduceToNat, Nat.reduceMul, Nat.reduceBNe, Nat.reduceBEq, r_e, zas, zax, zae, zaf, zem, clD, beq_self_eq_true, Int.reduceBEq, Int.reduceBNe, bne_self_eq_false, zh4]
 refine hK8 _ _ ?_
 refine zb2 hp (τ' := frL [(3, .d (.fp (zax exA) 0)), (4, .d (.fp (zax exB) 0)), (5, .d (.fp (zax exC) 0)), (6, .d (.fp (zax exM) 0)), (7, .d (.fp (zax exM ++ [iD 0]) 0)), (8, .d (.fp [intsD [0, 1, 2, 3, 4, 5, 4], iD 0] 0))]) (H' := []) ?_ ?_
 ·refine Rt.trans (Rt.fz (id := 0) (l := zax exM ++ [iD 0]) rfl) ?_
  refine Rt.trans (Rt.fz (id := 1) (l := [intsD [0, 1, 2, 3, 4, 5, 4], iD 0]) rfl) ?_
  refine Rt.trans (Rt.gc (keep := []) (by decide) (by decide) (by simp [fzH, gcH])) ?_
  refine Rt.end (by repeat (first | exact zak _ | refine zah ?_ (by first | rfl | (simp [r_f]; done) | simp [r_f, *]))) ?_
  first | rfl | (simp only [r_g, Nat.reduceAdd, ↓reduceIte, Nat.reduceEqDiff, r_e, zas, zax, zae, zaf, zem, clD, beq_self_eq_true, Int.reduceBEq, Int.reduceBNe, bne_self_eq_false]; first | done | rfl)
 refine zbn zaj hc mixed rfl (q := 3) (by kernel_rfl) (by kernel_rfl) fun K9 hK9 => ?_
 simp -dsimp -implicitDefEqProofs (disch := first | assumption | omega | (simp only [r_z] <;> omega) | decide) only [r_r, ↓reduceIte, Nat.reduceEqDiff, Nat.reduceAdd, D.fix, Int.reduceToNat, Nat.reduceMul, Nat.reduceBNe, Nat.reduceBEq, r_e, zas, zax, zae, zaf, zem, clD, beq_self_eq_true, Int.reduceBEq, Int.reduceBNe, bne_self_eq_false, zh4]
 refine zb4 (jl6) rfl ?_
 simp -dsimp -implicitDefEqProofs (disch := first | assumption | omega | (simp only [r_z] <;> omega) | decide) only [r_r, ↓reduceIte, Nat.reduceEqDiff, Nat.reduceAdd, D.fix, Int.reduceToNat, Nat.reduceMul, Nat.reduceBNe, Nat.reduceBEq, r_e, zas, zax, zae, zaf, zem, clD, beq_self_eq_true, Int.reduceBEq, Int.reduceBNe, bne_self_eq_false, zh4]
 refine zb4 (jtr) rfl ?_
 simp -dsimp -implicitDefEqProofs (disch := first | assumption | omega | (simp only [r_z] <;> omega) | decide) only [r_r, ↓reduceIte, Nat.reduceEqDiff, Nat.reduceAdd, D.fix, Int.reduceToNat, Nat.reduceMul, Nat.reduceBNe, Nat.reduceBEq, r_e, zas, zax, zae, zaf, zem, clD, beq_self_eq_true, Int.reduceBEq, Int.reduceBNe, bne_self_eq_false, zh4]
 refine zb4 (jtw) rfl ?_
 simp -dsimp -implicitDefEqProofs (disch := first | assumption | omega | (simp only [r_z] <;> omega) | decide) only [r_r, ↓reduceIte, Nat.reduceEqDiff, Nat.reduceAdd, D.fix, Int.reduceToNat, Nat.reduceMul, Nat.reduceBNe, Nat.reduceBEq, r_e, zas, zax, zae, zaf, zem, clD, beq_self_eq_true, Int.reduceBEq, Int.reduceBNe, bne_self_eq_false, zh4]
 refine zb4 (jts) rfl ?_
 simp -dsimp -implicitDefEqProofs (disch := first | assumption | omega | (simp only [r_z] <;> omega) | decide) only [r_r, ↓reduceIte, Nat.reduceEqDiff, Nat.reduceAdd, D.fix, Int.reduceToNat, Nat.reduceMul, Nat.reduceBNe, Nat.reduceBEq, r_e, zas, zax, zae, zaf, zem, clD, beq_self_eq_true, Int.reduceBEq, Int.reduceBNe, bne_self_eq_false, zh4]
 refine zb4 (jtx) rfl ?_
 simp -dsimp -implicitDefEqProofs (disch := first | assumption | omega | (simp only [r_z] <;> omega) | decide) only [r_r, ↓reduceIte, Nat.reduceEqDiff, Nat.reduceAdd, D.fix, Int.reduceToNat, Nat.reduceMul, Nat.reduceBNe, Nat.reduceBEq, r_e, zas, zax, zae, zaf, zem, clD, beq_self_eq_true, Int.reduceBEq, Int.reduceBNe, bne_self_eq_false, zh4]
 refine zb4 (jtt) rfl ?_
 simp -dsimp -implicitDefEqProofs (disch := first | assumption | omega | (simp only [r_z] <;> omega) | decide) only [r_r, ↓reduceIte, Nat.reduceEqDiff, Nat.reduceAdd, D.fix, Int.reduceToNat, Nat.reduceMul, Nat.reduceBNe, Nat.reduceBEq, r_e, zas, zax, zae, zaf, zem, clD, beq_self_eq_true, Int.reduceBEq, Int.reduceBNe, bne_self_eq_false, zh4]
 refine zb4 (jl8) rfl ?_
 simp -dsimp -implicitDefEqProofs (disch := first | assumption | omega | (simp only [r_z] <;> omega) | decide) only [r_r, ↓reduceIte, Nat.reduceEqDiff, Nat.reduceAdd, D.fix, Int.reduceToNat, Nat.reduceMul, Nat.reduceBNe, Nat.reduceBEq, r_e, zas, zax, zae, zaf, zem, clD, beq_self_eq_true, Int.reduceBEq, Int.reduceBNe, bne_self_eq_false, zh4]
 refine zb4 (jtu) rfl ?_
 simp -dsimp -implicitDefEqProofs (disch := first | assumption | omega | (simp only [r_z] <;> omega) | decide) only [r_r, ↓reduceIte, Nat.reduceEqDiff, Nat.reduceAdd, D.fix, Int.reduceToNat, Nat.reduceMul, Nat.reduceBNe, Nat.reduceBEq, r_e, zas, zax, zae, zaf, zem, clD, beq_self_eq_true, Int.reduceBEq, Int.reduceBNe, bne_self_eq_false, zh4]
 refine hK9 _ _ ?_
 refine za4 ?_
 show closeA _ _ = _
 simp (disch := first | assumption | omega | (simp only [r_z] <;> omega) | decide) only [r_c, Nat.reduceAdd, D.fix, ↓reduceIte, Nat.reduceEqDiff, r_e, zas, zax, zae, zaf, zem, clD, beq_self_eq_true, Int.reduceBEq, Int.reduceBNe, bne_self_eq_false]
end Go.Proofs.Ytignimmnnccblaa
