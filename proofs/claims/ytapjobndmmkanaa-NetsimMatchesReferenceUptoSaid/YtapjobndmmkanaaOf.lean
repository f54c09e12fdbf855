/- netsim: input values, effects, steps. -/
import Derived.Test.YtapjobndmmkanaaQr
import Derived.Test.YtapjobndmmkanaaDb
import Derived.Test.YtapjobndmmkanaaOn
import Derived.Test.YtapjobndmmkanaaEa
import Derived.Test.YtapjobndmmkanaaAZ
import Derived.Test.YtapjobndmmkanaaTy
set_option linter.unusedVariables false
set_option linter.unusedSimpArgs false
set_option maxRecDepth 100000
set_option maxHeartbeats 4000000
namespace Go.Proofs.Ytapjobndmmkanaa
open Go Go.RowKit
theorem jfk : (((((type_of% @zfb) ∧ (type_of% @zfp)) ∧ ((type_of% @zfq) ∧ ((type_of% @zgz) ∧ (type_of% @zgy)))) ∧ (((type_of% @zhv) ∧ ((type_of% @zev) ∧ (type_of% @zew))) ∧ ((type_of% @zje) ∧ ((type_of% @zjf) ∧ (type_of% @zmt))))) ∧ ((((type_of% @zgp) ∧ ((type_of% @zic) ∧ (type_of% @zfa))) ∧ ((type_of% @zdc) ∧ ((type_of% @zdd) ∧ (type_of% @zdh)))) ∧ (((type_of% @zgq) ∧ ((type_of% @zq0) ∧ (type_of% @zq1))) ∧ ((type_of% @zpo) ∧ ((type_of% @zsn) ∧ (type_of% @zsp)))))) := ⟨⟨⟨⟨@zfb, @zfp⟩, ⟨@zfq, ⟨@zgz, @zgy⟩⟩⟩, ⟨⟨@zhv, ⟨@zev, @zew⟩⟩, ⟨@zje, ⟨@zjf, @zmt⟩⟩⟩⟩, ⟨⟨⟨@zgp, ⟨@zic, @zfa⟩⟩, ⟨@zdc, ⟨@zdd, @zdh⟩⟩⟩, ⟨⟨@zgq, ⟨@zq0, @zq1⟩⟩, ⟨@zpo, ⟨@zsn, @zsp⟩⟩⟩⟩⟩
structure Head where
 has : Bool
 v : Int
instance : Inhabited Head := ⟨⟨false, 0⟩⟩
def zcv (h : Head) : List D := [oD h.has, iD h.v]
def za7 (l : List Head) : D := .fs (l.flatMap zcv) l.length
theorem zrc (h : Head) : (zcv h).length = 2 := rfl
theorem jjd {l : List Head} {k : Nat} (h : k < l.length) : zb7 (l.flatMap zcv) (k * 2) 2 = some (zcv (nth l k)) := zf8 zrc h
theorem jfl {l : List Head} {k : Nat} (h : k < l.length) : (l.flatMap zcv)[k * 2]? = some (oD (nth l k).has) := (zcq (j := 0) zrc h (by omega)).trans rfl
theorem jfm {l : List Head} {k : Nat} (h : k < l.length) : (l.flatMap zcv)[k * 2 + 1]? = some (iD (nth l k).v) := (zcq (j := 1) zrc h (by omega)).trans rfl
theorem zap {l : List Head} : (l.flatMap zcv).length = l.length * 2 := zc1 zrc l
theorem zz3 (l : List Head) : (l.flatMap zcv).map D.fix = l.flatMap zcv := zr0 (fun _ => rfl) l
structure PSt where
 regs : List Int
 mems : List (List Int)
 deriving Inhabited
def zcg (s : PSt) : List D := [intsD s.regs, intssD s.mems]
def inV (s : PSt) (heads : List Head) (rooms : List Bool) (w : Wire) : Bool :=
 if w.kind = 1 then decide (w.i < s.regs.length) && ji6 (nth s.regs w.i.toNat) w.bit
 else if w.kind = 2 then decide (w.i < heads.length) && ((nth heads w.i.toNat).has && ji6 (nth heads w.i.toNat).v w.bit)
 else if w.kind = 3 then decide (w.i < heads.length) && (nth heads w.i.toNat).has
 else decide (w.kind = 4) && (decide (w.i < rooms.length) && nth rooms w.i.toNat)
def zme (s : PSt) (heads : List Head) (rooms : List Bool) (l : List Wire) : List Bool := l.map (inV s heads rooms)
theorem zbb (s : PSt) (heads : List Head) (rooms : List Bool) (l : List Wire) : (zme s heads rooms l).length = l.length := by simp [zme]
theorem jzi {l : List Bool} {n k : Nat} (hl : l.length = n) (hk : k < n) : (l.take k ++ List.replicate (n - k) false).set k (nth l k) = l.take (k + 1) ++ List.replicate (n - (k + 1)) false := by
 subst hl
 rw [zeu hk, List.set_append_right _ _ (by simp; omega), List.length_take, Nat.min_eq_left (by omega), Nat.sub_self, show l.length - k = (l.length - (k + 1)) + 1 by omega, List.replicate_succ, List.set_cons_zero, List.append_assoc]; rfl
theorem jje {l : List Bool} {n k : Nat} (hl : l.length = n) (hk : k < n) : (l.take k ++ List.replicate (n - k) false).set k false = l.take k ++ List.replicate (n - k) false := by
 rw [List.set_append_right _ _ (by simp; omega), List.length_take, Nat.min_eq_left (by omega), Nat.sub_self, show n - k = (n - (k + 1)) + 1 by omega, List.replicate_succ, List.set_cons_zero]
theorem zkv {p q : Prop} (hq : q) (h : p = q := by
 conv => lhs; simp -dsimp -implicitDefEqProofs (disch := first | assumption | omega | (simp only [r_z, zab, zae, zbb, zap] <;> omega) | decide) only [r_r, ↓reduceIte, Nat.reduceEqDiff, Nat.reduceAdd, D.fix, Int.reduceToNat, Nat.reduceMul, Nat.reduceBNe, Nat.reduceBEq, zby, zb1, zao, zaj, zcg, za7, za6, zbn, zbj, iD, oD, jfk]) : p := h.mpr hq
theorem jhr (k : List Nat) {m : List Nat} {τ τ1 : Fr} {H H1 : zad} (h : Rt m (fun t => gcV k (τ t)) (gcH k H) τ1 H1) (a : ∀ i ∈ m, k[i]? = some i := by decide) (b : k.Nodup := by decide) (c : ∀ i ∈ k, i < H.length := by
 simp [fzH, gcH]) : Rt m τ H τ1 H1 := Rt.trans (Rt.gc a b c) h
theorem jhs {m : List Nat} {τ τ' : Fr} {H H' : zad} (h2 : H = H') (h : zgu τ τ' := by
 repeat (first | exact zar _ | refine zam ?_ (by first | rfl | (simp [r_f, zab, zae, zbb, zap]; done) | simp [r_f, zab, zae, zbb, zap, *]))) : Rt m τ H τ' H' := Rt.end h h2
theorem zls {p q r : Prop} (e : r) (hq : q) (h : r → p = q := by
 intro hY
 conv => lhs; simp -dsimp -implicitDefEqProofs (disch := first | assumption | omega | (simp only [r_z, zab, zae, zbb, zap] <;> omega) | decide) only [r_r, ↓reduceIte, Nat.reduceEqDiff, Nat.reduceAdd, D.fix, Int.reduceToNat, Nat.reduceMul, Nat.reduceBNe, Nat.reduceBEq, zby, zb1, zao, zaj, zcg, za7, za6, zbn, zbj, iD, oD, jfk, hY]) : p := (h e).mpr hq
theorem jo2 {p q : Prop} (hq : q) (h : p = q := by
 conv => lhs; simp -dsimp -implicitDefEqProofs (disch := first | assumption | omega | (simp only [r_z, zab, zae, zbb, zap] <;> omega) | decide) only [r_r, ↓reduceIte, Nat.reduceEqDiff, Nat.reduceAdd, D.fix, Int.reduceToNat, Nat.reduceMul, Nat.reduceBNe, Nat.reduceBEq, zby, zb1, zao, zaj, zcg, za7, za6, zbn, zbj, iD, oD, zay, jfk]) : p := h.mpr hq
theorem jo3 {p q r : Prop} (e : r) (hq : q) (h : r → p = q := by
 intro hY
 conv => lhs; simp -dsimp -implicitDefEqProofs (disch := first | assumption | omega | (simp only [r_z, zab, zae, zbb, zap] <;> omega) | decide) only [r_r, ↓reduceIte, Nat.reduceEqDiff, Nat.reduceAdd, D.fix, Int.reduceToNat, Nat.reduceMul, Nat.reduceBNe, Nat.reduceBEq, zby, zb1, zao, zaj, zcg, za7, za6, zbn, zbj, iD, oD, jfl, jfm, jfk, hY]) : p := (h e).mpr hq
theorem jht {p q : Prop} (hq : q) (h : p = q := by
 conv => lhs; simp only [r_g, Nat.reduceAdd, ↓reduceIte, Nat.reduceEqDiff, zby, zb1, zao, zaj, zcg, za7, za6, zbn, zbj, iD, oD]) : p := h.mpr hq
theorem zz4 (n : Net) (s : PSt) (heads : List Head) (rooms : List Bool) (hi : n.ins.length ≤ 1000000) (hw : ∀ w ∈ n.ins, WireIn w) (h1 : s.regs.length ≤ maxLen) (h2 : heads.length ≤ maxLen) (h3 : rooms.length ≤ maxLen) : zaz Try.prog 17 [zby n, .agg (zcg s), za7 heads, boolsD rooms] (.d (boolsD (zme s heads rooms n.ins))) := by
 unfold maxLen at h1 h2 h3
 refine zaw (fn := Try.f17) (by kernel_rfl) Try.func17 rfl (Nat.le_of_ble_eq_true rfl) fun c hc hp => ?_
 refine za0 (τ' := frL [(0, .d (zby n)), (1, .d (.agg (zcg s))), (2, .d (za7 heads)), (3, .d (boolsD rooms))]) (by repeat (first | exact zar _ | refine zam ?_ (by first | rfl | (simp [r_f, zab, zae, zbb, zap]; done) | simp [r_f, zab, zae, zbb, zap, *]))) ?_
 refine szq hp (fun _ hZ => zkv hZ) ?_
 refine szq hp (fun _ hZ => zkv hZ) ?_
 refine zaa fun K3 hK3 => ?_
 refine szq hp (fun _ hZ => zkv hZ) ?_
 refine zac ?_
 refine zan hp (fun τ' H' mm => ∃ k, (k ≤ n.ins.length) ∧ mm = n.ins.length - k ∧ H' = [.cells (avs (zb1 n)), .cells (avs (zcg s)), .cells (avs (((zme s heads rooms n.ins).take k ++ List.replicate (n.ins.length - k) false).map oD))] ∧ τ' = frL [(2, .d (za7 heads)), (3, .d (boolsD rooms)), (4, .op 0 0), (5, .op 1 0), (9, .os 1 2 0 n.ins.length), (17, .d (zao n.ins)), (18, .d (iD n.ins.length)), (19, .d (iD k))]) (n.ins.length) ?_ ⟨0, Nat.zero_le _, rfl, rfl, rfl⟩ ?_
 ·refine jhr [0,1,2] ?_
  refine jhs ?_
  refine jht ?_; simp [oD]
 rintro τ' H' mm ⟨k, hk, rfl, rfl, rfl⟩
 refine szq hp (fun _ hZ => zkv hZ) ?_
 refine zaa fun K6 hK6 => ?_
 refine zah rfl (fun ht => ?_) (fun ht => ?_)
 ·have hlt : k < n.ins.length := by simp at ht; omega
  obtain ⟨k1, k4, i0, b0, b7, i2⟩ := hw _ (zb0 hlt)
  have hst := jzi (zbb s heads rooms n.ins) hlt
  have hnv : nth (zme s heads rooms n.ins) k = inV s heads rooms (nth n.ins k) := zgm hlt
  rw [hnv] at hst
  have z0 : 0 ≤ (nth n.ins k).bit := b0
  refine zaf (hK6 _ _ ?_)
  refine zaa fun K7 hK7 => ?_
  refine zac ?_
  refine szq hp (fun _ hZ => zkv hZ) ?_
  refine zac ?_
  refine zag hp zai hc rfl fun K9 hK9 => ?_
  by_cases e1 : (nth n.ins k).kind = 1
  ·have q1 : ((nth n.ins k).kind == 1) = true := by simp [e1]
   refine zls q1 ?_
   refine hK9 _ _ ?_
   refine zah rfl (fun ht => ?_) (fun ht => ?_)
   ·have hin : (nth n.ins k).i < s.regs.length := by simpa using ht
    have hin2 : (nth n.ins k).i.toNat < s.regs.length := by omega
    refine zfj zai hc za8 rfl (q := 0) (by kernel_rfl) (by kernel_rfl) fun K10 hK10 => ?_
    refine jo2 ?_
    refine za1 (jow (nth s.regs (nth n.ins k).i.toNat) (nth n.ins k).bit b0) rfl ?_
    refine jo2 ?_
    refine hK10 _ _ (hK7 _ _ ?_)
    refine za5 hp zai hc rfl fun K11 hK11 => ?_
    refine zkv ?_
    refine hK11 _ _ ⟨_, _, _, ?_, ⟨k + 1, by omega, rfl, rfl, rfl⟩, ?_⟩
    ·first | omega | (simp only [List.length_cons]; omega) | (dsimp only; omega)
    ·refine jhr [0,1,2] ?_
     refine jhs ?_
     refine jht ?_; rw [← hst]; simp [inV, e1, hin, oD]
   ·have hin : ¬ (nth n.ins k).i < s.regs.length := by simpa using ht
    have q2 : ((nth n.ins k).kind == 2) = false := by simp [e1]
    refine szq hp (fun _ hZ => zls q2 hZ) ?_
    refine szf ?_
    have q3 : ((nth n.ins k).kind == 3) = false := by simp [e1]
    refine szq hp (fun _ hZ => zls q3 hZ) ?_
    refine szf ?_
    have q4 : ((nth n.ins k).kind == 4) = false := by simp [e1]
    refine szq hp (fun _ hZ => zls q4 hZ) ?_
    refine szf ?_
    refine zaf (hK7 _ _ ?_)
    refine za5 hp zai hc rfl fun K15 hK15 => ?_
    refine zkv ?_
    refine hK15 _ _ ⟨_, _, _, ?_, ⟨k + 1, by omega, rfl, rfl, rfl⟩, ?_⟩
    ·first | omega | (simp only [List.length_cons]; omega) | (dsimp only; omega)
    ·refine jhr [0,1,2] ?_
     refine jhs ?_
     refine jht ?_; rw [← hst, show inV s heads rooms (nth n.ins k) = false by simp [inV, e1, hin], jje (zbb s heads rooms n.ins) hlt]
  ·have q1 : ((nth n.ins k).kind == 1) = false := by simp [e1]
   refine zls q1 ?_
   refine hK9 _ _ ?_
   refine szf ?_
   refine zag hp zai hc rfl fun K16 hK16 => ?_
   by_cases e2 : (nth n.ins k).kind = 2
   ·have q2 : ((nth n.ins k).kind == 2) = true := by simp [e2]
    refine zls q2 ?_
    refine hK16 _ _ ?_
    refine zah rfl (fun ht => ?_) (fun ht => ?_)
    ·have hin : (nth n.ins k).i < heads.length := by simpa using ht
     have hin2 : (nth n.ins k).i.toNat < heads.length := by omega
     refine zfj zai hc za8 rfl (q := 0) (by kernel_rfl) (by kernel_rfl) fun K17 hK17 => ?_
     rcases tf (nth heads (nth n.ins k).i.toNat).has with e3 | e3
     ·refine jo3 e3 ?_
      refine za1 (jow (nth heads (nth n.ins k).i.toNat).v (nth n.ins k).bit b0) rfl ?_
      refine jo3 e3 ?_
      refine hK17 _ _ (hK7 _ _ ?_)
      refine za5 hp zai hc rfl fun K18 hK18 => ?_
      refine zkv ?_
      refine hK18 _ _ ⟨_, _, _, ?_, ⟨k + 1, by omega, rfl, rfl, rfl⟩, ?_⟩
      ·first | omega | (simp only [List.length_cons]; omega) | (dsimp only; omega)
      ·refine jhr [0,1,2] ?_
       refine jhs ?_
       refine jht ?_; rw [← hst]; simp [inV, e2, hin, oD, e3]
     ·refine jo3 e3 ?_
      refine hK17 _ _ (hK7 _ _ ?_)
      refine za5 hp zai hc rfl fun K19 hK19 => ?_
      refine zkv ?_
      refine hK19 _ _ ⟨_, _, _, ?_, ⟨k + 1, by omega, rfl, rfl, rfl⟩, ?_⟩
      ·first | omega | (simp only [List.length_cons]; omega) | (dsimp only; omega)
      ·refine jhr [0,1,2] ?_
       refine jhs ?_
       refine jht ?_; rw [← hst]; simp [inV, e2, hin, oD, e3]
    ·have hin : ¬ (nth n.ins k).i < heads.length := by simpa using ht
     have q3 : ((nth n.ins k).kind == 3) = false := by simp [e2]
     refine szq hp (fun _ hZ => zls q3 hZ) ?_
     refine szf ?_
     have q4 : ((nth n.ins k).kind == 4) = false := by simp [e2]
     refine szq hp (fun _ hZ => zls q4 hZ) ?_
     refine szf ?_
     refine zaf (hK7 _ _ ?_)
     refine za5 hp zai hc rfl fun K22 hK22 => ?_
     refine zkv ?_
     refine hK22 _ _ ⟨_, _, _, ?_, ⟨k + 1, by omega, rfl, rfl, rfl⟩, ?_⟩
     ·first | omega | (simp only [List.length_cons]; omega) | (dsimp only; omega)
     ·refine jhr [0,1,2] ?_
      refine jhs ?_
      refine jht ?_; rw [← hst, show inV s heads rooms (nth n.ins k) = false by simp [inV, e2, hin], jje (zbb s heads rooms n.ins) hlt]
   ·have q2 : ((nth n.ins k).kind == 2) = false := by simp [e2]
    refine zls q2 ?_
    refine hK16 _ _ ?_
    refine szf ?_
    refine zag hp zai hc rfl fun K23 hK23 => ?_
    by_cases e3 : (nth n.ins k).kind = 3
    ·have q3 : ((nth n.ins k).kind == 3) = true := by simp [e3]
     refine zls q3 ?_
     refine hK23 _ _ ?_
     refine zah rfl (fun ht => ?_) (fun ht => ?_)
     ·have hin : (nth n.ins k).i < heads.length := by simpa using ht
      have hin2 : (nth n.ins k).i.toNat < heads.length := by omega
      refine za5 hp zai hc rfl fun K24 hK24 => ?_
      simp -dsimp -implicitDefEqProofs (disch := first | assumption | omega | (simp only [r_z, zab, zae, zbb, zap] <;> omega) | decide) only [r_r, ↓reduceIte, Nat.reduceEqDiff, Nat.reduceAdd, D.fix, Int.reduceToNat, Nat.reduceMul, Nat.reduceBNe, Nat.reduceBEq, zby, zb1, zao, zaj, zcg, za7, za6, zbn, zbj, iD, oD, jfl, jfm, jfk]
      refine hK24 _ _ (hK7 _ _ ?_)
      refine za5 hp zai hc rfl fun K25 hK25 => ?_
      refine zkv ?_
      refine hK25 _ _ ⟨_, _, _, ?_, ⟨k + 1, by omega, rfl, rfl, rfl⟩, ?_⟩
      ·first | omega | (simp only [List.length_cons]; omega) | (dsimp only; omega)
      ·refine jhr [0,1,2] ?_
       refine jhs ?_
       refine jht ?_; rw [← hst]; simp [inV, e3, hin, oD]
     ·have hin : ¬ (nth n.ins k).i < heads.length := by simpa using ht
      have q4 : ((nth n.ins k).kind == 4) = false := by simp [e3]
      refine szq hp (fun _ hZ => zls q4 hZ) ?_
      refine szf ?_
      refine zaf (hK7 _ _ ?_)
      refine za5 hp zai hc rfl fun K27 hK27 => ?_
      refine zkv ?_
      refine hK27 _ _ ⟨_, _, _, ?_, ⟨k + 1, by omega, rfl, rfl, rfl⟩, ?_⟩
      ·first | omega | (simp only [List.length_cons]; omega) | (dsimp only; omega)
      ·refine jhr [0,1,2] ?_
       refine jhs ?_
       refine jht ?_; rw [← hst, show inV s heads rooms (nth n.ins k) = false by simp [inV, e3, hin], jje (zbb s heads rooms n.ins) hlt]
    ·have q3 : ((nth n.ins k).kind == 3) = false := by simp [e3]
     refine zls q3 ?_
     refine hK23 _ _ ?_
     refine szf ?_
     have e4 : (nth n.ins k).kind = 4 := by omega
     have q4 : ((nth n.ins k).kind == 4) = true := by simp [e4]
     refine szq hp (fun _ hZ => zls q4 hZ) ?_
     refine zah rfl (fun ht => ?_) (fun ht => ?_)
     ·have hin : (nth n.ins k).i < rooms.length := by simpa using ht
      have hin2 : (nth n.ins k).i.toNat < rooms.length := by omega
      refine szs hp (fun _ hZ => jo2 hZ) (hK7 _ _ ?_)
      refine za5 hp zai hc rfl fun K30 hK30 => ?_
      refine zkv ?_
      refine hK30 _ _ ⟨_, _, _, ?_, ⟨k + 1, by omega, rfl, rfl, rfl⟩, ?_⟩
      ·first | omega | (simp only [List.length_cons]; omega) | (dsimp only; omega)
      ·refine jhr [0,1,2] ?_
       refine jhs ?_
       refine jht ?_; rw [← hst]; simp [inV, e4, hin, oD]
     ·have hin : ¬ (nth n.ins k).i < rooms.length := by simpa using ht
      refine zaf (hK7 _ _ ?_)
      refine za5 hp zai hc rfl fun K31 hK31 => ?_
      refine zkv ?_
      refine hK31 _ _ ⟨_, _, _, ?_, ⟨k + 1, by omega, rfl, rfl, rfl⟩, ?_⟩
      ·first | omega | (simp only [List.length_cons]; omega) | (dsimp only; omega)
      ·refine jhr [0,1,2] ?_
       refine jhs ?_
       refine jht ?_; rw [← hst, show inV s heads rooms (nth n.ins k) = false by simp [inV, e4, hin], jje (zbb s heads rooms n.ins) hlt]
 ·have hge : k = n.ins.length := by simp at ht; omega
  refine zau (hK3 _ _ ?_)
  refine zag hp zai hc rfl fun K32 hK32 => ?_
  simp -dsimp -implicitDefEqProofs (disch := first | assumption | omega | (simp only [r_z, zab, zae, zbb, zap] <;> omega) | decide) only [r_r, ↓reduceIte, Nat.reduceEqDiff, Nat.reduceAdd, D.fix, Int.reduceToNat, Nat.reduceMul, Nat.reduceBNe, Nat.reduceBEq, zby, zb1, zao, zaj, zcg, za7, za6, zbn, zbj, iD, oD]
  refine hK32 _ _ ?_
  refine zal ?_
  show closeA _ _ = _
  simp (disch := first | assumption | omega | (simp only [r_z, zab, zae, zbb, zap] <;> omega) | decide) only [r_c, Nat.reduceAdd, D.fix, ↓reduceIte, Nat.reduceEqDiff, zby, zb1, zao, zaj, zcg, za7, za6, zbn, zbj, iD, oD]
  rw [hge, Nat.sub_self, List.take_of_length_le (by rw [zbb]; exact Nat.le_refl _)]; simp [zbb]
/- Of no program: an entry of a map that is there already is set anew. -/
section
section
variable {P : Program} {KT : TypeId → Bool} {H : zad}
structure OkB (P : Program) (t : TypeId) (μ : Mp) : Prop where
 ok : OkM P t μ
 nd : (μ.1.map (·.2.1)).Nodup
theorem OkB.nil (t : TypeId) (n : Nat) : OkB P t ([], n) := ⟨OkM.nil t n, .nil⟩
theorem zz5 (i : Nat) (v : Value) : ∀ (s : List (Value × Nat × Value)) (i : Nat), (s.modify i fun q => (q.1, q.2.1, v)).map (·.2.1) = s.map (·.2.1)
 | [], i => by simp
 | a :: s, 0 => by simp
 | a :: s, i + 1 => by rw [List.modify_succ_cons, List.map_cons, List.map_cons, zz5 i v s i]
theorem OkB.put {t : TypeId} {μ : Mp} (h : OkB P t μ) {k v : Value} (hk : zr8 P t k) : OkB P t (zvl k v μ) := by
 refine ⟨h.ok.put hk, ?_⟩
 unfold zvl
 split
 ·rw [zz5 0]; exact h.nd
 ·simp only [List.map_append, List.map_cons, List.map_nil]
  rw [List.nodup_append]
  refine ⟨h.nd, by simp, fun a ha b hb e => ?_⟩
  obtain ⟨p, hp, rfl⟩ := List.mem_map.1 ha
  simp only [List.mem_singleton] at hb
  have := h.ok.born p hp
  omega
def jjf (k : Value) (μ : Mp) : Nat := match fiM k μ.1 with
 | some i => (μ.1.getD i (undef, 0, undef)).2.1
 | none => 0
theorem zz6 {k u : Value} {μ : Mp} (h : zpe k μ = some u) : ∃ i, fiM k μ.1 = some i ∧ i < μ.1.length ∧ (μ.1.getD i (undef, 0, undef)).2.2 = u := by
 have hf := zuj k μ
 rw [h, zlg] at hf
 unfold fiM
 cases e : μ.1.findIdx? fun e => vEq e.1 k with
 | none => rw [e] at hf; cases hf
 | some i =>
  rw [e] at hf
  simp only [Option.map_some] at hf
  refine ⟨i, rfl, (List.findIdx?_eq_some_iff_getElem.1 e).1, ?_⟩
  injection hf with hf
  injection hf with hf
  injection hf
theorem jzj {t : TypeId} {id : Nat} {v u z : Value} {μ : Mp} (ht : mtB P KT t = some z) (hv : zr8 P t v) (hμ : OkB P t μ) (hn : zpe v μ = some u) : meO P KT t id v H (some (mO μ)) = some (.tup [.d (.val u), .d (.val (.int .i64 (jjf v μ)))], H.set id (mO μ)) := by
 obtain ⟨kt, et, hm, h1, hz⟩ := zng ht
 obtain ⟨i, hi, hl, hu⟩ := zz6 hn
 unfold meO mO
 simp only [hm, hz, h1, hv.1, hv.2 kt et hm, hμ.ok.kb hm, Bool.and_self, if_true, zlg]
 unfold jjf
 rw [hi]
 unfold fiM at hi
 rw [hi]
 simp only [Option.map_some, Nat.zero_add, hu]
 have : (mE μ.1)[i]? = some ((μ.1.getD i (undef, 0, undef)).1, (μ.1.getD i (undef, 0, undef)).2.1, .d (.val (μ.1.getD i (undef, 0, undef)).2.2)) := by
  unfold mE; rw [List.getElem?_map, List.getD_eq_getElem?_getD, List.getElem?_eq_getElem hl]; rfl
 rw [this]; rfl
theorem jm8 {i : Nat} : ∀ {s : List (Value × Nat × Value)}, (s.map (·.2.1)).Nodup → ∀ {i : Nat}, i < s.length → (mE s).findIdx? (fun q => (q.2.1 : Int) == ((s.getD i (undef, 0, undef)).2.1 : Int)) = some i
 | [], _, i, h => by simp at h
 | a :: s, hn, 0, h => by simp [mE, List.findIdx?_cons]
 | a :: s, hn, i + 1, h => by
  obtain ⟨h1, h2⟩ := List.nodup_cons.1 (show (a.2.1 :: s.map (·.2.1)).Nodup from hn)
  have hl : i < s.length := by simpa using h
  have hm : (s.getD i (undef, 0, undef)).2.1 ∈ s.map (·.2.1) := List.mem_map.2 ⟨_, by rw [List.getD_eq_getElem?_getD, List.getElem?_eq_getElem hl]; exact List.getElem_mem hl, rfl⟩
  have hne : a.2.1 ≠ (s.getD i (undef, 0, undef)).2.1 := fun e => h1 (e ▸ hm)
  have ih := jm8 (i := 0) h2 hl
  show ((a.1, a.2.1, AV.d (.val a.2.2)) :: mE s).findIdx? _ = _
  rw [List.findIdx?_cons, List.getD_cons_succ]
  have : ((a.2.1 : Int) == ((s.getD i (undef, 0, undef)).2.1 : Int)) = false := by simp only [beq_eq_false_iff_ne, ne_eq]; omega
  simp only [this, ih]; rfl
theorem jzk {t : TypeId} {id : Nat} {v u w : Value} {μ : Mp} (hμ : OkB P t μ) (hn : zpe v μ = some u) : esN id (jjf v μ) (.d (.val w)) H (some (mO μ)) = some (.d (.val undef), H.set id (mO (zvl v w μ))) := by
 obtain ⟨i, hi, hl, hu⟩ := zz6 hn
 unfold esN mO zvl jjf
 rw [hi]
 simp only
 rw [jm8 (i := 0) hμ.nd hl, Option.map_some, zow]
theorem jjg {v z : Value} {μ : Mp} (hv : zmk v = true) (hn : zpe v μ = none) : zvl v z μ = (μ.1 ++ [(v, μ.2, z)], μ.2 + 1) := by
 unfold zvl
 rw [(zr9 hv).2 ((zov hv).1 hn)]
theorem jzl {t : TypeId} {v z : Value} {μ : Mp} (ht : mtB P KT t = some z) (hv : zr8 P t v) (hμ : OkM P t μ) (hn : zpe v μ = none) : lkK P KT t (some v) false (some (mE (μ.1 ++ [(v, μ.2, z)]))) = some (.d (.val z)) := by
 classical
 have h := zsb ht hv (hμ.put (v := z) hv)
 rw [zsa hv.1 hv.1, if_pos rfl, jjg hv.1 hn] at h
 exact h
end
/- Copies and comparisons of rows. -/
end
theorem ju3 {P : Program} {c : Cx} {x : Code} {Q : Exit → Fr → zad → Prop} {τ : Fr} {H : zad} (t : Nat) (ht : τ t = .d (.fs [] 0))
  (h : ∀ (a : Option Addr) (cap : Nat), cap ≤ maxLen → (a = none → cap = 0) → AWp P c x Q (τ.put (some t) (.d (.val (.slice a 0 cap)))) H) : AWp P c x Q τ H := fun ac w hR => by
 obtain ⟨pl, hS⟩ := hR
 have h1 := hS.fr t
 rw [ht] at h1
 have key : ∀ a cap, ac.tmps.getD t undef = .slice a 0 cap → R c (τ.put (some t) (.d (.val (.slice a 0 cap)))) H [] ac w := fun a cap e =>
  ⟨pl, hS.h, hS.stp, hS.own0, hS.ext, fun t' => by
   by_cases ht' : t' = t
   ·subst ht'
    rw [e]
    simp only [Fr.put, if_pos]
    exact .d _ _ (.val _)
   ·simp only [Fr.put, if_neg ht']
    exact hS.fr t', hS.size, hS.defs, hS.keep⟩
 cases h1 with
 | d _ _ h1 =>
  generalize hv : ac.tmps.getD t undef = v at h1
  cases h1 with
  | f0 a cap hm hn => exact h a cap hm hn ac w (key a cap hv)
  | fs _ _ cap b off f hb ho hn hm hc h1 hx => exact h _ cap hm (fun e => by cases e) ac w (key _ cap hv)
theorem Imp.f0 {a : Option Addr} {cap : Nat} (hm : cap ≤ maxLen) (hn : a = none → cap = 0) : Imp (.d (.val (.slice a 0 cap))) (.d (.fs [] 0)) := fun _ _ _ v h => by
 cases h with
 | d _ _ h => cases h; exact .d _ _ (.f0 a cap hm hn)
theorem jjh {P : Program} {t : TypeId} (h : zio P t = true) {a : Option Addr} {n c n' c' : Nat} : zf2 P .eql t (.slice a n c) (.slice none n' c') = some (.bool a.isNone) := by simp [zf2, h]
/- netsim: effects. -/
theorem jji : (type_of% @zfo) := @zfo
def zs9 (w : Wire) (kind i : Int) : Bool := decide (w.kind = kind) && decide (w.i = i)
def jjj (b : Int) : Int := IntKind.i64.wrap (1 * 2 ^ min b.toNat 64)
def zj5 (out : List Wire) (v : List Bool) (kind i : Int) : Nat → Bool
 | 0 => false
 | k + 1 => zj5 out v kind i k || (nth v k && zs9 (nth out k) kind i)
def zc9 (out : List Wire) (v : List Bool) (kind i : Int) : Nat → Int
 | 0 => 0
 | k + 1 => if (nth v k && zs9 (nth out k) kind i) = true then zvp .or .i64 (zc9 out v kind i k) (jjj (nth out k).bit) else zc9 out v kind i k
theorem jfn {out : List Wire} {v : List Bool} {kind i : Int} : ∀ {k : Nat}, zj5 out v kind i k = false → zc9 out v kind i k = 0
 | 0, _ => rfl
 | k + 1, h => by
  simp only [zj5, Bool.or_eq_false_iff] at h
  rw [zc9, h.2, if_neg (by simp)]
  exact jfn h.1
theorem jzm {b : Int} (h0 : 0 ≤ b) (h1 : b ≤ 7) : ∃ n : Nat, jjj b = n ∧ n < 256 := by
 rcases (show b = 0 ∨ b = 1 ∨ b = 2 ∨ b = 3 ∨ b = 4 ∨ b = 5 ∨ b = 6 ∨ b = 7 by omega) with rfl | rfl | rfl | rfl | rfl | rfl | rfl | rfl
 ·exact ⟨1, by decide, by decide⟩
 ·exact ⟨2, by decide, by decide⟩
 ·exact ⟨4, by decide, by decide⟩
 ·exact ⟨8, by decide, by decide⟩
 ·exact ⟨16, by decide, by decide⟩
 ·exact ⟨32, by decide, by decide⟩
 ·exact ⟨64, by decide, by decide⟩
 ·exact ⟨128, by decide, by decide⟩
theorem ju4 {a b : Nat} (ha : a < 256) (hb : b < 256) : zvp .or .i64 a b = ((a ||| b : Nat) : Int) := by
 have h : a ||| b < 2 ^ 8 := Nat.or_lt_two_pow ha hb
 show IntKind.i64.wrap ((BitVec.ofInt 64 a ||| BitVec.ofInt 64 b).toNat : Int) = _
 have e : (BitVec.ofInt 64 (a : Int) ||| BitVec.ofInt 64 (b : Int)).toNat = a ||| b := by
  rw [BitVec.toNat_or]
  simp only [BitVec.ofInt_natCast, BitVec.toNat_ofNat]
  rw [Nat.mod_eq_of_lt (by omega), Nat.mod_eq_of_lt (by omega)]
 rw [e, zua (by omega) (by omega)]
theorem jfo {out : List Wire} {v : List Bool} {kind i : Int} (hb : ∀ k, k < out.length → 0 ≤ (nth out k).bit ∧ (nth out k).bit ≤ 7) : ∀ {k : Nat}, k ≤ out.length → ∃ n : Nat, zc9 out v kind i k = n ∧ n < 256
 | 0, _ => ⟨0, rfl, by decide⟩
 | k + 1, h => by
  obtain ⟨a, ha, ha2⟩ := jfo hb (k := k) (kind := kind) (i := i) (v := v) (by omega)
  rw [zc9]
  split
  ·obtain ⟨b, hb1, hb2⟩ := jzm (hb k (by omega)).1 (hb k (by omega)).2
   rw [ha, hb1, ju4 ha2 hb2]
   exact ⟨_, rfl, Nat.or_lt_two_pow (n := 8) ha2 hb2⟩
  ·exact ⟨a, ha, ha2⟩
structure Fir where
 fires : Bool
 st : PSt
 pops : List Bool
 puts : List Head
 deriving Inhabited
def zgv (f : Fir) : List D := [oD f.fires, intsD f.st.regs, intssD f.st.mems, boolsD f.pops, za7 f.puts]
def zta (out : List Wire) (v : List Bool) (i : Nat) (l : List Int) : List Int :=
 if (zj5 out v 8 i out.length && decide (zc9 out v 9 i out.length < l.length)) = true then l.set (zc9 out v 9 i out.length).toNat (zc9 out v 10 i out.length) else l
theorem jjk (out : List Wire) (v : List Bool) (i : Nat) (l : List Int) : (zta out v i l).length = l.length := by unfold zta; split <;> simp
def jfp (out : List Wire) (v : List Bool) (i : Nat) : Head := if zj5 out v 6 i out.length then ⟨true, zc9 out v 7 i out.length⟩ else ⟨false, 0⟩
def zg3 (out : List Wire) (v : List Bool) (n : Nat) : List Int := (List.range n).map fun (i : Nat) => zc9 out v 1 i out.length
def zhe (out : List Wire) (v : List Bool) (ms : List (List Int)) (n : Nat) : List (List Int) := (List.range n).map fun i => zta out v i (nth ms i)
def zmz (out : List Wire) (v : List Bool) (n : Nat) : List Bool := (List.range n).map fun (i : Nat) => zj5 out v 5 i out.length
def zp1 (out : List Wire) (v : List Bool) (n : Nat) : List Head := (List.range n).map fun i => jfp out v i
theorem zbc (out : List Wire) (v : List Bool) (n : Nat) : (zg3 out v n).length = n := by simp [zg3]
theorem zbd (out : List Wire) (v : List Bool) (ms : List (List Int)) (n : Nat) : (zhe out v ms n).length = n := by simp [zhe]
theorem zbe (out : List Wire) (v : List Bool) (n : Nat) : (zmz out v n).length = n := by simp [zmz]
theorem zbf (out : List Wire) (v : List Bool) (n : Nat) : (zp1 out v n).length = n := by simp [zp1]
theorem zrd (out : List Wire) (v : List Bool) (n : Nat) : zg3 out v (n + 1) = zg3 out v n ++ [zc9 out v 1 n out.length] := by simp [zg3, List.range_succ]
theorem zre (out : List Wire) (v : List Bool) (ms : List (List Int)) (n : Nat) : zhe out v ms (n + 1) = zhe out v ms n ++ [zta out v n (nth ms n)] := by simp [zhe, List.range_succ]
theorem zrf (out : List Wire) (v : List Bool) (n : Nat) : zmz out v (n + 1) = zmz out v n ++ [zj5 out v 5 n out.length] := by simp [zmz, List.range_succ]
theorem zlt (out : List Wire) (v : List Bool) (n : Nat) : zp1 out v (n + 1) = zp1 out v n ++ [jfp out v n] := by simp [zp1, List.range_succ]
def efF (out : List Wire) (s : PSt) (v : List Bool) (e0 e1 : Nat) : Fir := ⟨false, ⟨zg3 out v s.regs.length, zhe out v s.mems s.mems.length⟩, zmz out v e0, zp1 out v e1⟩
abbrev tEb : TypeId := 131
abbrev tEi : TypeId := 132
structure EfP (out : List Wire) (v : List Bool) (k : Nat) (μs μw : Mp) : Prop where
 s : OkB Try.prog tEb μs
 w : OkB Try.prog tEi μw
 gs : ∀ kind i, I64 kind → I64 i → zpe (eV kind i) μs = if zj5 out v kind i k then some (.bool true) else none
 gw : ∀ kind i, I64 kind → I64 i → zpe (eV kind i) μw = if zj5 out v kind i k then some (.int .i64 (zc9 out v kind i k)) else none
theorem zz7 {a b : Int} : zmk (eV a b) = true := rfl
theorem EfP.nil (out : List Wire) (v : List Bool) : EfP out v 0 ([], 0) ([], 0) := ⟨OkB.nil _ _, OkB.nil _ _, fun _ _ _ _ => rfl, fun _ _ _ _ => rfl⟩
theorem EfP.same {out : List Wire} {v : List Bool} {k : Nat} {μs μw : Mp} (h : EfP out v k μs μw) (hv : nth v k = false) : EfP out v (k + 1) μs μw :=
 ⟨h.s, h.w, fun kind i h1 h2 => by rw [h.gs kind i h1 h2]; simp [zj5, hv], fun kind i h1 h2 => by rw [h.gw kind i h1 h2]; simp [zj5, zc9, hv]⟩
theorem hit_iff {w : Wire} {kind i : Int} : zs9 w kind i = true ↔ eV kind i = eV w.kind w.i := by
 unfold zs9
 rw [Bool.and_eq_true, decide_eq_true_eq, decide_eq_true_eq]
 exact ⟨fun h => by rw [h.1, h.2], fun h => by obtain ⟨a, b⟩ := jm3 h; exact ⟨a.symm, b.symm⟩⟩
theorem EfP.add {out : List Wire} {v : List Bool} {k : Nat} {μs μw : Mp} (h : EfP out v k μs μw) (hv : nth v k = true) (h1 : I64 (nth out k).kind) (h2 : I64 (nth out k).i) :
  EfP out v (k + 1) (zvl (eV (nth out k).kind (nth out k).i) (.bool true) μs) (zvl (eV (nth out k).kind (nth out k).i) (.int .i64 (zvp .or .i64 (zc9 out v (nth out k).kind (nth out k).i k) (jjj (nth out k).bit))) μw) := by
 classical
 refine ⟨h.s.put (zux h1 h2), h.w.put (zrb h1 h2), fun kind i k1 k2 => ?_, fun kind i k1 k2 => ?_⟩
 ·rw [zsa zz7 zz7, h.gs kind i k1 k2]
  rcases tf (zs9 (nth out k) kind i) with e | e
  ·rw [if_pos (hit_iff.1 e)]; simp [zj5, hv, e]
  ·rw [if_neg fun e2 => by rw [hit_iff.2 e2] at e; cases e]; simp [zj5, hv, e]
 ·rw [zsa zz7 zz7, h.gw kind i k1 k2]
  rcases tf (zs9 (nth out k) kind i) with e | e
  ·have e2 := hit_iff.1 e
   rw [if_pos e2]
   obtain ⟨e3, e4⟩ := jm3 e2
   subst e3 e4
   simp [zj5, zc9, hv, e]
  ·rw [if_neg fun e2 => by rw [hit_iff.2 e2] at e; cases e]; simp [zj5, zc9, hv, e]
theorem jjl {b : Bool} : ((if b = true then some (Value.bool true) else none).getD (.bool false)) = .bool b := by cases b <;> rfl
theorem zkw {out : List Wire} {v : List Bool} {kind i : Int} {k : Nat} : ((if zj5 out v kind i k = true then some (Value.int .i64 (zc9 out v kind i k)) else none).getD (.int .i64 0)) = .int .i64 (zc9 out v kind i k) := by
 rcases tf (zj5 out v kind i k) with e | e
 ·rw [e]; rfl
 ·rw [e, jfn e]; rfl
theorem jyc : mtB Try.prog KT tEb = some (.bool false) := by kernel_rfl
theorem jm9 : mtB Try.prog KT tEi = some (.int .i64 0) := by kernel_rfl
theorem zhf {a b : Int} : Value.agg #[.int .i64 a, .int .i64 b] = eV a b := rfl
def jzn (l : List Int) (x : AV) (S' : zad) : Prop := ∃ n, n = l.length ∧ x = .os 1 0 0 n ∧ S' = [.cells (avs (l.map iD))]
theorem ju5 {p q : Prop} (hq : q) (h : p = q := by
 conv => lhs; simp -dsimp -implicitDefEqProofs (disch := first | assumption | omega | (simp only [r_z] <;> omega) | decide) only [r_r, ↓reduceIte, Nat.reduceEqDiff, Nat.reduceAdd, D.fix, Int.reduceToNat, Nat.reduceMul, Nat.reduceBNe, Nat.reduceBEq, intsD, List.map_nil, List.length_nil]) : p := h.mpr hq
theorem ju6 {p q : Prop} (hq : q) (h : p = q := by
 conv => lhs; simp -dsimp -implicitDefEqProofs (disch := first | assumption | omega | (simp only [r_z] <;> omega) | decide) only [r_r, ↓reduceIte, Nat.reduceEqDiff, Nat.reduceAdd, D.fix, Int.reduceToNat, Nat.reduceMul, Nat.reduceBNe, Nat.reduceBEq, intsD, List.map_nil, List.length_nil, jjh hst, Option.isNone_none, Option.isNone_some, jji]) : p := h.mpr hq
theorem jyd {m : List Nat} {τ τ' : Fr} {H H' : zad} (h2 : H = H') (h : zgu τ τ' := by
 repeat (first | exact zar _ | refine zam ?_ (by first | rfl | (simp [r_f]; done) | simp [r_f, *]))) : Rt m τ H τ' H' := Rt.end h h2
theorem jzo {p : Prop} (h : p := by
 first | rfl | (simp only [r_g, Nat.reduceAdd, ↓reduceIte, Nat.reduceEqDiff, intsD, List.map_nil, List.length_nil]; first | done | rfl)) : p := h
theorem jjm : ScS Try.prog [] 50 [.d (intsD [])] ([.free]) (jzn []) := by
 refine zeo (fn := Try.f50) (by kernel_rfl) Try.func50 rfl (Nat.le_of_ble_eq_true rfl) fun c hc hp => ?_
 refine zr5 ?_
 refine szq hp (fun _ hZ => ju5 hZ) ?_
 refine zaa fun K2 hK2 => ?_
 refine ju3 0 rfl fun a cap hm hn => ?_
 have hst : zio Try.prog 29 = true := by kernel_rfl
 refine zag hp zai hc rfl fun K3 hK3 => ?_
 rcases a with _ | a
 ·refine ju6 ?_
  refine hK3 _ _ ?_
  refine szt ?_
  refine szq hp (fun _ hZ => ju5 hZ) ?_
  refine zbg hp (τ' := frL [(2, .os 1 0 0 0)]) (H' := [.cells []]) ?_ ?_
  ·refine Rt.trans (Rt.nil 2 1 rfl) ?_
   refine Rt.trans (Rt.gc (keep := [1]) (by decide) (by decide) (by simp [fzH, gcH])) ?_
   refine jyd ?_
   exact jzo
  refine zal ?_
  refine zfs (t := 2) rfl ?_
  show ∃ _, _
  exact ⟨_, rfl, rfl, rfl⟩
 ·refine ju6 ?_
  refine hK3 _ _ ?_
  refine szf ?_
  refine zaf (hK2 _ _ ?_)
  refine zbg hp (τ' := frL [(0, .d (.fs [] 0))]) (H' := [.free]) ?_ ?_
  ·refine Rt.trans (Rt.put 0 (Imp.f0 hm hn)) ?_
   refine jyd ?_
   exact jzo
  refine zag hp zai hc rfl fun K5 hK5 => ?_
  simp -dsimp -implicitDefEqProofs (disch := first | assumption | omega | (simp only [r_z] <;> omega) | decide) only [r_r, ↓reduceIte, Nat.reduceEqDiff, Nat.reduceAdd, D.fix, Int.reduceToNat, Nat.reduceMul, Nat.reduceBNe, Nat.reduceBEq, intsD, List.map_nil, List.length_nil, jji]
  refine hK5 _ _ ?_
  refine zbg hp (τ' := frL [(2, .os 1 0 0 0)]) (H' := [.cells []]) ?_ ?_
  ·refine Rt.trans (Rt.gc (keep := [2]) (by decide) (by decide) (by simp [fzH, gcH])) ?_
   refine jyd ?_
   exact jzo
  refine zal ?_
  refine zfs (t := 2) rfl ?_
  show ∃ _, _
  exact ⟨_, rfl, rfl, rfl⟩
theorem jjn (l : List Int) (hl : l.length ≤ 1000000) (h0 : 0 < l.length) : ScS Try.prog [] 50 [.d (intsD l)] ([.free]) (jzn l) := by
 refine zeo (fn := Try.f50) (by kernel_rfl) Try.func50 rfl (Nat.le_of_ble_eq_true rfl) fun c hc hp => ?_
 refine zr5 ?_
 refine zag hp zai hc rfl fun K1 hK1 => ?_
 simp -dsimp -implicitDefEqProofs (disch := first | assumption | omega | (simp only [r_z] <;> omega) | decide) only [r_r, ↓reduceIte, Nat.reduceEqDiff, Nat.reduceAdd, D.fix, Int.reduceToNat, Nat.reduceMul, Nat.reduceBNe, Nat.reduceBEq, intsD]
 refine hK1 _ _ ?_
 refine zaa fun K2 hK2 => ?_
 have hnil : zs8 Try.prog .eql 29 (.d (.fs (l.map iD) l.length)) (.d (.val (.slice none 0 0))) = some (.d (.val (.bool false))) := zyd Try.underlying29 h0
 refine zag hp zai hc rfl fun K3 hK3 => ?_
 simp -dsimp -implicitDefEqProofs (disch := first | assumption | omega | (simp only [r_z] <;> omega) | decide) only [r_r, ↓reduceIte, Nat.reduceEqDiff, Nat.reduceAdd, D.fix, Int.reduceToNat, Nat.reduceMul, Nat.reduceBNe, Nat.reduceBEq, intsD, hnil, jji]
 refine hK3 _ _ ?_
 refine szf ?_
 refine zaf (hK2 _ _ ?_)
 refine zag hp zai hc rfl fun K4 hK4 => ?_
 simp -dsimp -implicitDefEqProofs (disch := first | assumption | omega | (simp only [r_z] <;> omega) | decide) only [r_r, ↓reduceIte, Nat.reduceEqDiff, Nat.reduceAdd, D.fix, Int.reduceToNat, Nat.reduceMul, Nat.reduceBNe, Nat.reduceBEq, intsD, jji]
 refine hK4 _ _ ?_
 refine zbg hp (τ' := frL [(2, .os 1 0 0 l.length)]) (H' := [.cells (avs (l.map iD))]) ?_ ?_
 ·refine Rt.trans (Rt.gc (keep := [2]) (by decide) (by decide) (by simp [fzH, gcH])) ?_
  refine jyd ?_
  first | rfl | (simp only [r_g, Nat.reduceAdd, ↓reduceIte, Nat.reduceEqDiff, intsD]; first | done | rfl)
 refine zal ?_
 refine zfs (t := 2) rfl ?_
 show ∃ _, _
 exact ⟨_, rfl, rfl, rfl⟩
theorem jo4 (l : List Int) (hl : l.length ≤ 1000000) : ScS Try.prog [] 50 [.d (intsD l)] [.free] (jzn l) := by
 rcases l with _ | ⟨g, l⟩
 ·exact jjm
 ·exact jjn _ hl (by simp)
end Go.Proofs.Ytapjobndmmkanaa
