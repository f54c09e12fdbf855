/- Valid nets are found valid; wires compared. -/
import Derived.Test.YtapjobndmmkanaaQr
import Derived.Test.YtapjobndmmkanaaVd
import Derived.Test.YtapjobndmmkanaaOe
set_option linter.unusedVariables false
set_option linter.unusedSimpArgs false
set_option maxRecDepth 100000
set_option maxHeartbeats 4000000
namespace Go.Proofs.Ytapjobndmmkanaa
open Go Go.RowKit
theorem zgm : ((((((type_of% @ztr) ∧ (type_of% @jbp)) ∧ ((type_of% @jfq) ∧ (type_of% @zew))) ∧ (((type_of% @zex) ∧ (type_of% @jfr)) ∧ ((type_of% @zd1) ∧ (type_of% @zey)))) ∧ ((((type_of% @zc2) ∧ (type_of% @zfr)) ∧ ((type_of% @zkh) ∧ (type_of% @zcq))) ∧ (((type_of% @zf0) ∧ (type_of% @zf1)) ∧ ((type_of% @zg7) ∧ (type_of% @jsq))))) ∧ (((((type_of% @zc7) ∧ (type_of% @zh0)) ∧ ((type_of% @zh1) ∧ (type_of% @zh2))) ∧ (((type_of% @zgr) ∧ (type_of% @ze9)) ∧ ((type_of% @jbq) ∧ (type_of% @jfp)))) ∧ ((((type_of% @zmx) ∧ (type_of% @zmy)) ∧ ((type_of% @jbu) ∧ (type_of% @jfy))) ∧ (((type_of% @zlx) ∧ (type_of% @zin)) ∧ ((type_of% @zly) ∧ (type_of% @zlz)))))) := ⟨⟨⟨⟨⟨@ztr, @jbp⟩, ⟨@jfq, @zew⟩⟩, ⟨⟨@zex, @jfr⟩, ⟨@zd1, @zey⟩⟩⟩, ⟨⟨⟨@zc2, @zfr⟩, ⟨@zkh, @zcq⟩⟩, ⟨⟨@zf0, @zf1⟩, ⟨@zg7, @jsq⟩⟩⟩⟩, ⟨⟨⟨⟨@zc7, @zh0⟩, ⟨@zh1, @zh2⟩⟩, ⟨⟨@zgr, @ze9⟩, ⟨@jbq, @jfp⟩⟩⟩, ⟨⟨⟨@zmx, @zmy⟩, ⟨@jbu, @jfy⟩⟩, ⟨⟨@zlx, @zin⟩, ⟨@zly, @zlz⟩⟩⟩⟩⟩
def jo1 (c n : Int) : Bool := decide (n < 0) || decide (c ≤ n)
theorem jao {α : Type} [Inhabited α] {f : α → Bool} {l : List α} {k : Nat} (h : k < l.length) (hf : f (nth l k) = true) : l.any f = true := List.any_eq_true.2 ⟨_, zb3 h, hf⟩
theorem jap {α : Type} [Inhabited α] {f : α → Bool} {l : List α} {k : Nat} (h : k < l.length) : (l.take (k + 1)).any f = ((l.take k).any f || f (nth l k)) := by rw [zem h]; simp
structure NetV (n : Net) : Prop where
 len : 2 + n.ins.length + n.gates.length ≤ 600
 d0 : n.out.length = n.drive.length
 wi : ∀ w ∈ n.ins, WireIn w
 wo : ∀ w ∈ n.out, WireOut w
 g2 : zvw (2 + n.ins.length) n.gates
 gv : ∀ g ∈ n.gates, GateV g
 d2 : zv3 (2 + n.ins.length + n.gates.length) n.drive
 dl : n.drive.length ≤ 1000
def arN (o : Int) : Nat := if o = 1 then 1 else if o ≤ 4 then 2 else 3
def zdp (g : Gate) : List Int := [g.a, g.b, g.c].take (arN g.op)
def jci (g : Gate) : List Int := [g.a, g.b, g.c].drop (arN g.op)
theorem op7 {o : Int} (h1 : 1 ≤ o) (h2 : o ≤ 7) : o = 1 ∨ o = 2 ∨ o = 3 ∨ o = 4 ∨ o = 5 ∨ o = 6 ∨ o = 7 := by omega
theorem jhn {o : Int} (h1 : 1 ≤ o) (h2 : o ≤ 7) : (o = 1 ∧ arN o = 1) ∨ (2 ≤ o ∧ o ≤ 4 ∧ arN o = 2) ∨ (5 ≤ o ∧ arN o = 3) := by
 unfold arN
 split
 ·exact .inl ⟨by omega, rfl⟩
 ·split
  ·exact .inr (.inl ⟨by omega, by omega, rfl⟩)
  ·exact .inr (.inr ⟨by omega, rfl⟩)
theorem jrt {m : Nat} {g : Gate} (h : GateOk m g) : (zdp g).any (jo1 m) = false := by
 rw [List.any_eq_false]
 intro x hx
 have hx := List.mem_of_mem_take hx
 simp only [List.mem_cons, List.not_mem_nil, or_false] at hx
 have a0 := h.a0; have a1 := h.a1; have b0 := h.b0; have b1 := h.b1; have c0 := h.c0; have c1 := h.c1
 simp only [jo1, Bool.or_eq_true, decide_eq_true_eq, not_or]
 rcases hx with rfl | rfl | rfl <;> constructor <;> omega
theorem jy7 {g : Gate} (h1 : 1 ≤ g.op) (h2 : g.op ≤ 7) (h : GateV g) : (jci g).any (fun x => x != 0) = false := by
 unfold jci
 rcases jhn h1 h2 with ⟨k1, k2⟩ | ⟨k1, k3, k2⟩ | ⟨k1, k2⟩ <;> rw [k2]
 ·simp [h.b k1, h.c (by omega)]
 ·simp [h.c k3]
 ·simp
theorem jle {g : Gate} (h1 : 1 ≤ g.op) (h2 : g.op ≤ 7) : ((((zdp g).length : Nat) : Int) == 0) = false := by
 unfold zdp
 rcases jhn h1 h2 with ⟨k1, k2⟩ | ⟨k1, k3, k2⟩ | ⟨k1, k2⟩ <;> rw [k2] <;> rfl
theorem zqn (g : Gate) (h1 : 1 ≤ g.op) (h2 : g.op ≤ 7) : zbg Try.prog 64 [.agg (zav g)] (.tup [.d (intsD (zdp g)), .d (intsD (jci g))]) := by
 obtain ⟨o, a, b, c, n⟩ := g
 rcases op7 h1 h2 with h | h | h | h | h | h | h <;> (simp only at h; subst h; exact zcc (n := 80) mixed zak (by kernel_rfl))
theorem jho (w : Wire) (h0 : 0 ≤ w.i) (h1 : 0 ≤ w.bit) (h2 : w.bit ≤ 7) : zbg Try.prog 63 [.agg (za2 w)] (.d (oD true)) := by
 have q0 : decide (0 ≤ w.i) = true := decide_eq_true h0
 have q1 : decide (0 ≤ w.bit) = true := decide_eq_true h1
 have q2 : decide (w.bit < 8) = true := decide_eq_true (by omega)
 refine za4 (fn := Try.f63) (by kernel_rfl) Try.func63 rfl (Nat.le_of_ble_eq_true rfl) fun c hc hp => ?_
 refine za9 (τ' := frL [(0, .d (.agg (za2 w)))]) (by repeat (first | exact zas _ | refine zao ?_ (by first | rfl | (simp [r_f]; done) | simp [r_f, *]))) ?_
 refine zag hp zak hc rfl fun K1 hK1 => ?_
 simp -dsimp -implicitDefEqProofs (disch := first | assumption | omega | (simp only [r_z] <;> omega) | decide) only [r_r, ↓reduceIte, Nat.reduceEqDiff, Nat.reduceAdd, D.fix, Int.reduceToNat, Nat.reduceMul, Nat.reduceBNe, Nat.reduceBEq, za2, zgm]
 refine hK1 _ _ ?_
 refine zag hp zak hc rfl fun K2 hK2 => ?_
 simp -dsimp -implicitDefEqProofs (disch := first | assumption | omega | (simp only [r_z] <;> omega) | decide) only [r_r, ↓reduceIte, Nat.reduceEqDiff, Nat.reduceAdd, D.fix, Int.reduceToNat, Nat.reduceMul, Nat.reduceBNe, Nat.reduceBEq, za2, q0, q1, q2, zgm]
 refine hK2 _ _ ?_
 refine zam ?_
 show closeA _ _ = _
 simp (disch := first | assumption | omega | (simp only [r_z] <;> omega) | decide) only [r_c, Nat.reduceAdd, D.fix, ↓reduceIte, Nat.reduceEqDiff, za2]
theorem zff {p q : Prop} (hq : q) (h : p = q := by
 conv => lhs; simp -dsimp -implicitDefEqProofs (disch := first | assumption | omega | (simp only [r_z] <;> omega) | decide) only [r_r, ↓reduceIte, Nat.reduceEqDiff, Nat.reduceAdd, D.fix, Int.reduceToNat, Nat.reduceMul, Nat.reduceBNe, Nat.reduceBEq]) : p := h.mpr hq
theorem jhp {p q r : Prop} (e : r) (hq : q) (h : r → p = q := by
 intro hY
 conv => lhs; simp -dsimp -implicitDefEqProofs (disch := first | assumption | omega | (simp only [r_z] <;> omega) | decide) only [r_r, ↓reduceIte, Nat.reduceEqDiff, Nat.reduceAdd, D.fix, Int.reduceToNat, Nat.reduceMul, Nat.reduceBNe, Nat.reduceBEq, zgm, hY]) : p := (h e).mpr hq
theorem zun {p q : Prop} (hq : q) (h : p = q := by
 conv => lhs; simp (disch := first | assumption | omega | (simp only [r_z] <;> omega) | decide) only [r_c, Nat.reduceAdd, D.fix, ↓reduceIte, Nat.reduceEqDiff]) : p := h.mpr hq
theorem jy8 (n f i : Int) (hf : 0 ≤ f ∧ f ≤ 1000000) (hi : 0 ≤ i ∧ i ≤ 1000000) : zbg Try.prog 65 [iD n, .fp [iD f] 0, .fp [iD i] 0] (.d (oD (jo1 (f + i) n))) := by
 refine za4 (fn := Try.f65) (by kernel_rfl) Try.func65 rfl (Nat.le_of_ble_eq_true rfl) fun c hc hp => ?_
 refine za9 (τ' := frL [(0, .d (iD n)), (1, .d (.fp [iD f] 0)), (2, .d (.fp [iD i] 0))]) (by repeat (first | exact zas _ | refine zao ?_ (by first | rfl | (simp [r_f]; done) | simp [r_f, *]))) ?_
 refine szq hp (fun _ hZ => zff hZ) ?_
 refine zag hp zak hc rfl fun K2 hK2 => ?_
 rcases tf (decide (n < 0)) with q | q
 ·refine jhp q ?_
  refine hK2 _ _ ?_
  refine zam ?_
  show closeA _ _ = _
  refine zun ?_
  simp [jo1, q]
 ·refine jhp q ?_
  refine hK2 _ _ ?_
  refine zam ?_
  show closeA _ _ = _
  refine zun ?_
  simp [jo1, q]
theorem zfx {p q : Prop} (hq : q) (h : p = q := by
 conv => lhs; simp -dsimp -implicitDefEqProofs (disch := first | assumption | omega | (simp only [r_z] <;> omega) | decide) only [r_r, ↓reduceIte, Nat.reduceEqDiff, Nat.reduceAdd, D.fix, Int.reduceToNat, Nat.reduceMul, Nat.reduceBNe, Nat.reduceBEq, zgm]) : p := h.mpr hq
theorem jru {p : Prop} (h : p := by
 simp (disch := first | assumption | omega | (simp only [r_z] <;> omega) | decide) only [r_c, Nat.reduceAdd, D.fix, ↓reduceIte, Nat.reduceEqDiff]) : p := h
theorem jy9 (n : Int) : zbg Try.prog 67 [iD n] (.d (oD (n != 0))) := by
 refine za4 (fn := Try.f67) (by kernel_rfl) Try.func67 rfl (Nat.le_of_ble_eq_true rfl) fun c hc hp => ?_
 refine za9 (τ' := frL [(0, .d (iD n))]) (by repeat (first | exact zas _ | refine zao ?_ (by first | rfl | (simp [r_f]; done) | simp [r_f, *]))) ?_
 refine szq hp (fun _ hZ => zff hZ) ?_
 refine szq hp (fun _ hZ => zfx hZ) ?_
 refine zam ?_
 show closeA _ _ = _
 exact jru
theorem jlf {m : List Nat} {τ τ' : Fr} {H H' : zae} (h2 : H = H') (h : zfq τ τ' := by
 repeat (first | exact zas _ | refine zao ?_ (by first | rfl | (simp [r_f]; done) | simp [r_f, *]))) : Rt m τ H τ' H' := Rt.end h h2
theorem jlg {p : Prop} (h : p := by
 first | rfl | (simp only [r_g, Nat.reduceAdd, ↓reduceIte, Nat.reduceEqDiff]; first | done | rfl)) : p := h
theorem jrv (l : List Int) (f i : Int) (hf : 0 ≤ f ∧ f ≤ 1000000) (hi : 0 ≤ i ∧ i ≤ 1000000) (hl : l.length ≤ maxLen) : zf4 Try.prog 104 [intsD l, .clo (.func 65) [] [.fp [iD f] 0, .fp [iD i] 0]] (fun r => ∃ z : Int, r = .d (iD z) ∧ (0 ≤ z ↔ l.any (jo1 (f + i)) = true)) := by
 unfold maxLen at hl
 refine zi4 (fn := Try.f104) (by kernel_rfl) Try.func104 rfl (Nat.le_of_ble_eq_true rfl) fun c hc hp => ?_
 refine za9 (τ' := frL [(0, .d (intsD l)), (1, .d (.clo (.func 65) [] [.fp [iD f] 0, .fp [iD i] 0]))]) (by repeat (first | exact zas _ | refine zao ?_ (by first | rfl | (simp [r_f]; done) | simp [r_f, *]))) ?_
 refine szq hp (fun _ hZ => zff hZ) ?_
 refine zaa fun K2 hK2 => ?_
 refine szq hp (fun _ hZ => zfx hZ) ?_
 refine zaf ?_
 refine zan hp (fun τ' H' mm => ∃ k, (k ≤ l.length ∧ (l.take k).any (jo1 (f + i)) = false) ∧ mm = l.length - k ∧ H' = [] ∧ τ' = frL [(0, .d (intsD l)), (1, .d (.clo (.func 65) [] [.fp [iD f] 0, .fp [iD i] 0])), (7, .d (iD l.length)), (8, .d (iD k))]) (l.length) ?_ ⟨0, ⟨Nat.zero_le _, rfl⟩, rfl, rfl, rfl⟩ ?_
 ·refine jlf ?_
  exact jlg
 rintro τ' H' mm ⟨k, ⟨hk, hno⟩, rfl, rfl, rfl⟩
 refine szq hp (fun _ hZ => zfx hZ) ?_
 refine zaa fun K5 hK5 => ?_
 refine zal rfl (fun ht => ?_) (fun ht => ?_)
 ·have hlt : k < l.length := by simp at ht; omega
  refine zaj (hK5 _ _ ?_)
  refine zaa fun K6 hK6 => ?_
  refine zaf ?_
  refine szq hp (fun _ hZ => zff hZ) ?_
  refine zag hp zak hc rfl fun K8 hK8 => ?_
  refine zfx ?_
  refine jet (fi := []) (ca := [.fp [iD f] 0, .fp [iD i] 0]) (ds := [iD (nth l k)]) (jy8 (nth l k) f i hf hi) rfl ?_
  refine zfx ?_
  refine hK8 _ _ ?_
  refine zal rfl (fun ht => ?_) (fun ht => ?_)
  ·have hy := ht
   refine szq hp (fun _ hZ => zff hZ) ?_
   refine zam ?_
   show ∃ r, closeA _ _ = some r ∧ _
   refine zun ?_
   exact ⟨_, rfl, _, rfl, fun _ => jao hlt hy, fun _ => by omega⟩
  ·refine zaj (hK6 _ _ ?_)
   refine za1 hp zak hc rfl fun K10 hK10 => ?_
   refine zfx ?_
   refine hK10 _ _ ⟨_, _, _, ?_, ⟨k + 1, ⟨by omega, by rw [jap hlt, hno, ht]; rfl⟩, rfl, rfl, rfl⟩, ?_⟩
   ·first | omega | (simp only [List.length_cons]; omega) | (dsimp only; omega)
   ·refine jlf ?_
    exact jlg
 ·have hge : k = l.length := by simp at ht; omega
  rw [hge, List.take_length] at hno
  refine zau (hK2 _ _ ?_)
  refine szq hp (fun _ hZ => zff hZ) ?_
  refine zam ?_
  show ∃ r, closeA _ _ = some r ∧ _
  refine zun ?_
  exact ⟨_, rfl, _, rfl, fun h => by omega, fun h => by rw [hno] at h; cases h⟩
theorem jcj (l : List Int) (f i : Int) (hf : 0 ≤ f ∧ f ≤ 1000000) (hi : 0 ≤ i ∧ i ≤ 1000000) (hl : l.length ≤ maxLen) : zbg Try.prog 66 [intsD l, .clo (.func 65) [] [.fp [iD f] 0, .fp [iD i] 0]] (.d (oD (l.any (jo1 (f + i))))) := by
 refine za4 (fn := Try.f66) (by kernel_rfl) Try.func66 rfl (Nat.le_of_ble_eq_true rfl) fun c hc hp => ?_
 refine za9 (τ' := frL [(0, .d (intsD l)), (1, .d (.clo (.func 65) [] [.fp [iD f] 0, .fp [iD i] 0]))]) (by repeat (first | exact zas _ | refine zao ?_ (by first | rfl | (simp [r_f]; done) | simp [r_f, *]))) ?_
 refine szq hp (fun _ hZ => zff hZ) ?_
 refine zag hp zak hc rfl fun K2 hK2 => ?_
 refine zfx ?_
 refine zx3 (jrv l f i hf hi hl) rfl fun r hr => ?_
 obtain ⟨z, rfl, hz⟩ := hr
 refine zfx ?_
 refine hK2 _ _ ?_
 refine zam ?_
 show closeA _ _ = _
 refine zun ?_
 congr 4
 rw [Bool.eq_iff_iff, decide_eq_true_iff]
 exact hz
theorem jrw (l : List Int) (hl : l.length ≤ maxLen) : zf4 Try.prog 104 [intsD l, .val (.func (.func 67) #[] #[])] (fun r => ∃ z : Int, r = .d (iD z) ∧ (0 ≤ z ↔ l.any (fun x => x != 0) = true)) := by
 unfold maxLen at hl
 refine zi4 (fn := Try.f104) (by kernel_rfl) Try.func104 rfl (Nat.le_of_ble_eq_true rfl) fun c hc hp => ?_
 refine za9 (τ' := frL [(0, .d (intsD l)), (1, .d (.val (.func (.func 67) #[] #[])))]) (by repeat (first | exact zas _ | refine zao ?_ (by first | rfl | (simp [r_f]; done) | simp [r_f, *]))) ?_
 refine szq hp (fun _ hZ => zff hZ) ?_
 refine zaa fun K2 hK2 => ?_
 refine szq hp (fun _ hZ => zfx hZ) ?_
 refine zaf ?_
 refine zan hp (fun τ' H' mm => ∃ k, (k ≤ l.length ∧ (l.take k).any (fun x => x != 0) = false) ∧ mm = l.length - k ∧ H' = [] ∧ τ' = frL [(0, .d (intsD l)), (1, .d (.val (.func (.func 67) #[] #[]))), (7, .d (iD l.length)), (8, .d (iD k))]) (l.length) ?_ ⟨0, ⟨Nat.zero_le _, rfl⟩, rfl, rfl, rfl⟩ ?_
 ·refine jlf ?_
  exact jlg
 rintro τ' H' mm ⟨k, ⟨hk, hno⟩, rfl, rfl, rfl⟩
 refine szq hp (fun _ hZ => zfx hZ) ?_
 refine zaa fun K5 hK5 => ?_
 refine zal rfl (fun ht => ?_) (fun ht => ?_)
 ·have hlt : k < l.length := by simp at ht; omega
  refine zaj (hK5 _ _ ?_)
  refine zaa fun K6 hK6 => ?_
  refine zaf ?_
  refine szq hp (fun _ hZ => zff hZ) ?_
  refine zag hp zak hc rfl fun K8 hK8 => ?_
  refine zfx ?_
  refine zbp (jy9 (nth l k)) rfl ?_
  refine zfx ?_
  refine hK8 _ _ ?_
  refine zal rfl (fun ht => ?_) (fun ht => ?_)
  ·have hy : (fun x : Int => x != 0) (nth l k) = true := ht
   refine szq hp (fun _ hZ => zff hZ) ?_
   refine zam ?_
   show ∃ r, closeA _ _ = some r ∧ _
   refine zun ?_
   exact ⟨_, rfl, _, rfl, fun _ => jao hlt hy, fun _ => by omega⟩
  ·refine zaj (hK6 _ _ ?_)
   refine za1 hp zak hc rfl fun K10 hK10 => ?_
   refine zfx ?_
   refine hK10 _ _ ⟨_, _, _, ?_, ⟨k + 1, ⟨by omega, by rw [jap hlt, hno]; simpa using ht⟩, rfl, rfl, rfl⟩, ?_⟩
   ·first | omega | (simp only [List.length_cons]; omega) | (dsimp only; omega)
   ·refine jlf ?_
    exact jlg
 ·have hge : k = l.length := by simp at ht; omega
  rw [hge, List.take_length] at hno
  refine zau (hK2 _ _ ?_)
  refine szq hp (fun _ hZ => zff hZ) ?_
  refine zam ?_
  show ∃ r, closeA _ _ = some r ∧ _
  refine zun ?_
  exact ⟨_, rfl, _, rfl, fun h => by omega, fun h => by rw [hno] at h; cases h⟩
theorem jck (l : List Int) (hl : l.length ≤ maxLen) : zbg Try.prog 66 [intsD l, .val (.func (.func 67) #[] #[])] (.d (oD (l.any fun x => x != 0))) := by
 refine za4 (fn := Try.f66) (by kernel_rfl) Try.func66 rfl (Nat.le_of_ble_eq_true rfl) fun c hc hp => ?_
 refine za9 (τ' := frL [(0, .d (intsD l)), (1, .d (.val (.func (.func 67) #[] #[])))]) (by repeat (first | exact zas _ | refine zao ?_ (by first | rfl | (simp [r_f]; done) | simp [r_f, *]))) ?_
 refine szq hp (fun _ hZ => zff hZ) ?_
 refine zag hp zak hc rfl fun K2 hK2 => ?_
 refine zfx ?_
 refine zx3 (jrw l hl) rfl fun r hr => ?_
 obtain ⟨z, rfl, hz⟩ := hr
 refine zfx ?_
 refine hK2 _ _ ?_
 refine zam ?_
 show closeA _ _ = _
 refine zun ?_
 congr 4
 rw [Bool.eq_iff_iff, decide_eq_true_iff]
 exact hz
theorem jaq {m k : Nat} {l : List Gate} (h : zvw m l) (hk : k < l.length) : GateOk (m + k) (nth l k) := h k hk
theorem zc6 {p q : Prop} (hq : q) (h : p = q := by
 conv => lhs; simp -dsimp -implicitDefEqProofs (disch := first | assumption | omega | (simp only [r_z, zab, zac] <;> omega) | decide) only [r_r, ↓reduceIte, Nat.reduceEqDiff, Nat.reduceAdd, D.fix, Int.reduceToNat, Nat.reduceMul, Nat.reduceBNe, Nat.reduceBEq, zcb, zb7, zay, za3, za2, zav, zgm]) : p := h.mpr hq
theorem ze1 {p q r : Prop} (e : r) (hq : q) (h : r → p = q := by
 intro hY
 conv => lhs; simp -dsimp -implicitDefEqProofs (disch := first | assumption | omega | (simp only [r_z, zab, zac] <;> omega) | decide) only [r_r, ↓reduceIte, Nat.reduceEqDiff, Nat.reduceAdd, D.fix, Int.reduceToNat, Nat.reduceMul, Nat.reduceBNe, Nat.reduceBEq, zcb, zb7, zay, za3, za2, zav, zgm, hY]) : p := (h e).mpr hq
theorem zo0 {p q : Prop} (hq : q) (h : p = q := by
 conv => lhs; simp -dsimp -implicitDefEqProofs (disch := first | assumption | omega | (simp only [r_z, zab, zac] <;> omega) | decide) only [r_r, ↓reduceIte, Nat.reduceEqDiff, Nat.reduceAdd, D.fix, Int.reduceToNat, Nat.reduceMul, Nat.reduceBNe, Nat.reduceBEq, zcb, zb7, zay, za3, za2, zav]) : p := h.mpr hq
theorem zjt (k : List Nat) {m : List Nat} {τ τ1 : Fr} {H H1 : zae} (h : Rt m (fun t => gcV k (τ t)) (gcH k H) τ1 H1) (a : ∀ i ∈ m, k[i]? = some i := by decide) (b : k.Nodup := by decide) (c : ∀ i ∈ k, i < H.length := by
 simp [fzH, gcH]) : Rt m τ H τ1 H1 := Rt.trans (Rt.gc a b c) h
theorem zi0 {m : List Nat} {τ τ' : Fr} {H H' : zae} (h2 : H = H') (h : zfq τ τ' := by
 repeat (first | exact zas _ | refine zao ?_ (by first | rfl | (simp [r_f, zab, zac]; done) | simp [r_f, zab, zac, *]))) : Rt m τ H τ' H' := Rt.end h h2
theorem jar {p q : Prop} (hq : q) (h : p = q := by
 conv => lhs; simp -dsimp -implicitDefEqProofs (disch := first | assumption | omega | (simp only [r_z, zab, zac] <;> omega) | decide) only [r_r, ↓reduceIte, Nat.reduceEqDiff, Nat.reduceAdd, D.fix, Int.reduceToNat, Nat.reduceMul, Nat.reduceBNe, Nat.reduceBEq, zcb, zb7, zay, za3, za2, zav, zhi, zk8, zgm]) : p := h.mpr hq
theorem jo2 {p q : Prop} (hq : q) (h : p = q := by
 conv => lhs; simp -dsimp -implicitDefEqProofs (disch := first | assumption | omega | (simp only [r_z, zab, zac] <;> omega) | decide) only [r_r, ↓reduceIte, Nat.reduceEqDiff, Nat.reduceAdd, D.fix, Int.reduceToNat, Nat.reduceMul, Nat.reduceBNe, Nat.reduceBEq, zcb, zb7, zay, za3, za2, zav, zjj, zjz, zgm]) : p := h.mpr hq
theorem jo3 {p q : Prop} (hq : q) (h : p = q := by
 conv => lhs; simp -dsimp -implicitDefEqProofs (disch := first | assumption | omega | (simp only [r_z, zab, zac] <;> omega) | decide) only [r_r, ↓reduceIte, Nat.reduceEqDiff, Nat.reduceAdd, D.fix, Int.reduceToNat, Nat.reduceMul, Nat.reduceBNe, Nat.reduceBEq, zcb, zb7, zay, za3, za2, zav, zbj, zgm]) : p := h.mpr hq
theorem jhq {p q r : Prop} (e : r) (hq : q) (h : r → p = q := by
 intro hY
 conv => lhs; simp -dsimp -implicitDefEqProofs (disch := first | assumption | omega | (simp only [r_z, zab, zac] <;> omega) | decide) only [r_r, ↓reduceIte, Nat.reduceEqDiff, Nat.reduceAdd, D.fix, Int.reduceToNat, Nat.reduceMul, Nat.reduceBNe, Nat.reduceBEq, zcb, zb7, zay, za3, za2, zav, zbj, zbj, zgm, hY]) : p := (h e).mpr hq
theorem zi1 {p : Prop} (h : p := by
 first | rfl | (simp only [r_g, Nat.reduceAdd, ↓reduceIte, Nat.reduceEqDiff, zcb, zb7, zay, za3, za2, zav]; first | done | rfl)) : p := h
theorem jrx {p : Prop} (h : p := by
 simp (disch := first | assumption | omega | (simp only [r_z, zab, zac] <;> omega) | decide) only [r_c, Nat.reduceAdd, D.fix, ↓reduceIte, Nat.reduceEqDiff, zcb, zb7, zay, za3, za2, zav]) : p := h
theorem jry (n : Net) (h : NetV n) : zbg Try.prog 34 [zcb n] (.d (oD true)) := by
 have hlen := h.len
 have hd0 := h.d0
 have hdl := h.dl
 have q0 : decide ((600 : Int) < 2 + n.ins.length + n.gates.length) = false := decide_eq_false (by omega)
 have q1 : ((n.out.length : Int) != n.drive.length) = false := by simp; omega
 refine za4 (fn := Try.f34) (by kernel_rfl) Try.func34 rfl (Nat.le_of_ble_eq_true rfl) fun c hc hp => ?_
 refine za9 (τ' := frL [(0, .d (zcb n))]) (by repeat (first | exact zas _ | refine zao ?_ (by first | rfl | (simp [r_f, zab, zac]; done) | simp [r_f, zab, zac, *]))) ?_
 refine szq hp (fun _ hZ => zc6 hZ) ?_
 refine szq hp (fun _ hZ => zc6 hZ) ?_
 refine szq hp (fun _ hZ => zc6 hZ) ?_
 refine zaa fun K4 hK4 => ?_
 refine szq hp (fun _ hZ => ze1 (sza q0 q1) hZ) ?_
 refine szf ?_
 refine zaj (hK4 _ _ ?_)
 refine szq hp (fun _ hZ => zo0 hZ) ?_
 refine zaa fun K7 hK7 => ?_
 refine szq hp (fun _ hZ => zc6 hZ) ?_
 refine zaf ?_
 refine zan hp (fun τ' H' mm => ∃ (k : Nat), (k ≤ n.ins.length) ∧ mm = n.ins.length - k ∧ H' = [.cells (avs (zb7 n)), .cells [.d (iD (2 + n.ins.length))]] ∧ τ' = frL [(1, .op 0 0), (3, .op 1 0), (4, .d (iD (2 + n.ins.length + n.gates.length))), (5, .d (.val (.func (.func 63) #[] #[]))), (36, .d (zay n.ins)), (37, .d (iD n.ins.length)), (38, .d (iD k))]) (n.ins.length) ?_ ⟨0, Nat.zero_le _, rfl, rfl, rfl⟩ ?_
 ·refine zjt [0,1] ?_
  refine zi0 ?_
  exact zi1
 rintro τ' H' mm ⟨k, hk, rfl, rfl, rfl⟩
 refine szq hp (fun _ hZ => zc6 hZ) ?_
 refine zaa fun K10 hK10 => ?_
 refine zal rfl (fun ht => ?_) (fun ht => ?_)
 ·have hlt : k < n.ins.length := by simp at ht; omega
  have hw := h.wi _ (zb3 hlt)
  have q2 : decide ((nth n.ins k).kind < 1) = false := decide_eq_false (by have := hw.k1; omega)
  have q3 : decide (4 < (nth n.ins k).kind) = false := decide_eq_false (by have := hw.k4; omega)
  refine zaj (hK10 _ _ ?_)
  refine zaa fun K11 hK11 => ?_
  refine zaf ?_
  refine szq hp (fun _ hZ => jar hZ) ?_
  refine zag hp zak hc rfl fun K13 hK13 => ?_
  refine ze1 (sza q2 q3) ?_
  refine zbp (jho (nth n.ins k) hw.i0 hw.b0 hw.b7) rfl ?_
  refine ze1 (sza q2 q3) ?_
  refine hK13 _ _ ?_
  refine szf ?_
  refine zaj (hK11 _ _ ?_)
  refine za1 hp zak hc rfl fun K14 hK14 => ?_
  refine zc6 ?_
  refine hK14 _ _ ⟨_, _, _, ?_, ⟨k + 1, by omega, rfl, rfl, rfl⟩, ?_⟩
  ·first | omega | (simp only [List.length_cons]; omega) | (dsimp only; omega)
  ·refine zjt [0,1] ?_
   refine zi0 ?_
   exact zi1
 ·refine zau (hK7 _ _ ?_)
  refine zaa fun K15 hK15 => ?_
  refine szq hp (fun _ hZ => zc6 hZ) ?_
  refine zaf ?_
  refine zan hp (fun τ' H' mm => ∃ (k : Nat), (k ≤ n.gates.length) ∧ mm = n.gates.length - k ∧ H' = [.cells (avs (zb7 n)), .cells [.d (iD (2 + n.ins.length))]] ∧ τ' = frL [(1, .op 0 0), (3, .op 1 0), (4, .d (iD (2 + n.ins.length + n.gates.length))), (5, .d (.val (.func (.func 63) #[] #[]))), (58, .d (za3 n.gates)), (59, .d (iD n.gates.length)), (60, .d (iD k))]) (n.gates.length) ?_ ⟨0, Nat.zero_le _, rfl, rfl, rfl⟩ ?_
  ·refine zjt [0,1] ?_
   refine zi0 ?_
   exact zi1
  rintro τ' H' mm ⟨k, hk, rfl, rfl, rfl⟩
  refine szq hp (fun _ hZ => zc6 hZ) ?_
  refine zaa fun K18 hK18 => ?_
  refine zal rfl (fun ht => ?_) (fun ht => ?_)
  ·have hlt : k < n.gates.length := by simp at ht; omega
   have hg := jaq h.g2 hlt
   have hv := h.gv _ (zb3 hlt)
   have hu := jrt hg
   have hr := jy7 hg.o1 hg.o2 hv
   have hul := jle hg.o1 hg.o2
   have hu3 : (zdp (nth n.gates k)).length ≤ maxLen := by unfold zdp; rw [List.length_take]; simp; unfold maxLen; omega
   have hr3 : (jci (nth n.gates k)).length ≤ maxLen := by unfold jci; rw [List.length_drop]; simp; unfold maxLen; omega
   have hco := jcj (zdp (nth n.gates k)) (2 + n.ins.length) k (by omega) (by omega) hu3
   rw [show ((2 : Int) + n.ins.length + k) = ((2 + n.ins.length + k : Nat) : Int) by omega, hu] at hco
   have hcz := jck (jci (nth n.gates k)) hr3
   rw [hr] at hcz
   have q4 : decide ((nth n.gates k).n < 0) = false := decide_eq_false (by have := hg.n0; omega)
   have q5 : decide (63 < (nth n.gates k).n) = false := decide_eq_false (by have := hv.m; omega)
   refine zaj (hK18 _ _ ?_)
   refine zaa fun K19 hK19 => ?_
   refine zaf ?_
   refine szq hp (fun _ hZ => jo2 hZ) ?_
   refine zag hp zak hc rfl fun K21 hK21 => ?_
   refine zc6 ?_
   refine zbp (zqn (nth n.gates k) hg.o1 hg.o2) rfl ?_
   refine zc6 ?_
   refine hK21 _ _ ?_
   refine szq hp (fun _ hZ => zo0 hZ) ?_
   refine zaa fun K23 hK23 => ?_
   refine zag hp zak hc rfl fun K24 hK24 => ?_
   refine ze1 hul ?_
   refine jes (hco) ?_ ?_
   ·exact jrx
   refine ze1 hul ?_
   refine zbp (hcz) rfl ?_
   refine ze1 hul ?_
   refine hK24 _ _ ?_
   refine szf ?_
   refine zaj (hK23 _ _ ?_)
   refine zag hp zak hc rfl fun K25 hK25 => ?_
   have hJ25 : ∀ τ' H', (∃ τ1 H1, H1 = [.cells (avs (zb7 n)), .cells [.d (iD (2 + n.ins.length))]] ∧ τ1 = frL [(1, .op 0 0), (3, .op 1 0), (4, .d (iD (2 + n.ins.length + n.gates.length))), (5, .d (.val (.func (.func 63) #[] #[]))), (58, .d (za3 n.gates)), (59, .d (iD n.gates.length)), (60, .d (iD k)), (100, .d (oD false))] ∧ Rt [] τ' H' τ1 H1) → K25 τ' H' := by
    rintro τ' H' ⟨_, _, rfl, rfl, hrt⟩
    refine hK25 _ _ (zat hp hrt ?_)
    clear hrt
    refine szf ?_
    refine zaj (hK19 _ _ ?_)
    refine za1 hp zak hc rfl fun K26 hK26 => ?_
    refine zc6 ?_
    refine hK26 _ _ ⟨_, _, _, ?_, ⟨k + 1, by omega, rfl, rfl, rfl⟩, ?_⟩
    ·first | omega | (simp only [List.length_cons]; omega) | (dsimp only; omega)
    ·refine zjt [0,1] ?_
     refine zi0 ?_
     exact zi1
   rcases (show (nth n.gates k).op ≠ 7 ∨ ((nth n.gates k).op = 7 ∧ ¬ 0 < (nth n.gates k).n) ∨ ((nth n.gates k).op = 7 ∧ 0 < (nth n.gates k).n) by omega) with q7 | ⟨q7, q8⟩ | ⟨q7, q8⟩
   ·have q6 : decide (0 < (nth n.gates k).n) = false := decide_eq_false (by have := hv.n q7; omega)
    have q9 := q6
    refine ze1 (sza q4 (sza q5 (sza q6 q9))) ?_
    refine (hJ25 _ _ ⟨_, _, rfl, rfl, ?_⟩)
    refine zjt [0,1] ?_
    refine zi0 ?_
    exact zi1
   ·have q6 : decide (0 < (nth n.gates k).n) = false := decide_eq_false q8
    have q9 := q6
    refine ze1 (sza q4 (sza q5 (sza q6 q9))) ?_
    refine (hJ25 _ _ ⟨_, _, rfl, rfl, ?_⟩)
    refine zjt [0,1] ?_
    refine zi0 ?_
    exact zi1
   ·have q6 : decide (0 < (nth n.gates k).n) = true := decide_eq_true q8
    have q9 : ((nth n.gates k).op != 7) = false := by rw [q7]; rfl
    refine ze1 (sza q4 (sza q5 (sza q6 q9))) ?_
    refine (hJ25 _ _ ⟨_, _, rfl, rfl, ?_⟩)
    refine zjt [0,1] ?_
    refine zi0 ?_
    exact zi1
  ·refine zau (hK15 _ _ ?_)
   refine zaa fun K27 hK27 => ?_
   refine szq hp (fun _ hZ => zc6 hZ) ?_
   refine zaf ?_
   refine zan hp (fun τ' H' mm => ∃ (k : Nat), (k ≤ n.out.length) ∧ mm = n.out.length - k ∧ H' = [.cells (avs (zb7 n))] ∧ τ' = frL [(1, .op 0 0), (4, .d (iD (2 + n.ins.length + n.gates.length))), (5, .d (.val (.func (.func 63) #[] #[]))), (103, .d (zay n.out)), (104, .d (iD n.out.length)), (105, .d (iD k))]) (n.out.length) ?_ ⟨0, Nat.zero_le _, rfl, rfl, rfl⟩ ?_
   ·refine zjt [0] ?_
    refine zi0 ?_
    exact zi1
   rintro τ' H' mm ⟨k, hk, rfl, rfl, rfl⟩
   refine szq hp (fun _ hZ => zc6 hZ) ?_
   refine zaa fun K30 hK30 => ?_
   refine zal rfl (fun ht => ?_) (fun ht => ?_)
   ·have hlt : k < n.out.length := by simp at ht; omega
    have hw := h.wo _ (zb3 hlt)
    have hdk := h.d2 k (by omega)
    have q2 : decide (nth n.drive k < 0) = false := decide_eq_false (by omega)
    have q3 : decide (2 + (n.ins.length : Int) + n.gates.length ≤ nth n.drive k) = false := decide_eq_false (by omega)
    refine zaj (hK30 _ _ ?_)
    refine zaa fun K31 hK31 => ?_
    refine zaf ?_
    refine szq hp (fun _ hZ => jar hZ) ?_
    refine zag hp zak hc rfl fun K33 hK33 => ?_
    rcases hw.k with q | ⟨q, q'⟩
    ·have q4 : ((nth n.out k).kind != 1) = false := by rw [q]; rfl
     have q5 := q4
     have q6 := q4
     refine jo3 ?_
     refine zbp (jho (nth n.out k) hw.i0 hw.b0 hw.b7) rfl ?_
     refine jhq (sza q2 (sza q3 (sza q4 (sza q5 q6)))) ?_
     refine hK33 _ _ ?_
     refine szf ?_
     refine zaj (hK31 _ _ ?_)
     refine za1 hp zak hc rfl fun K34 hK34 => ?_
     refine zc6 ?_
     refine hK34 _ _ ⟨_, _, _, ?_, ⟨k + 1, by omega, rfl, rfl, rfl⟩, ?_⟩
     ·first | omega | (simp only [List.length_cons]; omega) | (dsimp only; omega)
     ·refine zjt [0] ?_
      refine zi0 ?_
      exact zi1
    ·have q4 : decide ((nth n.out k).kind < 5) = false := decide_eq_false (by omega)
     have q5 : decide (10 < (nth n.out k).kind) = false := decide_eq_false (by omega)
     have q6 : ((nth n.out k).kind != 1) = true := by simp; omega
     refine jo3 ?_
     refine zbp (jho (nth n.out k) hw.i0 hw.b0 hw.b7) rfl ?_
     refine jhq (sza q2 (sza q3 (sza q4 (sza q5 q6)))) ?_
     refine hK33 _ _ ?_
     refine szf ?_
     refine zaj (hK31 _ _ ?_)
     refine za1 hp zak hc rfl fun K35 hK35 => ?_
     refine zc6 ?_
     refine hK35 _ _ ⟨_, _, _, ?_, ⟨k + 1, by omega, rfl, rfl, rfl⟩, ?_⟩
     ·first | omega | (simp only [List.length_cons]; omega) | (dsimp only; omega)
     ·refine zjt [0] ?_
      refine zi0 ?_
      exact zi1
   ·refine zau (hK27 _ _ ?_)
    refine szq hp (fun _ hZ => zo0 hZ) ?_
    refine zam ?_
    show closeA _ _ = _
    exact jrx
theorem jrz {o : Int} (h1 : 1 ≤ o) (h2 : o ≤ 7) : zbg Try.prog 69 [iD o] (.d (iD (arN o : Nat))) := by
 rcases op7 h1 h2 with h | h | h | h | h | h | h <;> (subst h; exact zcc (n := 80) mixed zak (by kernel_rfl))
theorem zo1 (n m : Int) (h0 : 0 ≤ n) (h1 : n < m) : zbg Try.prog 70 [oD true, iD n, iD m] (.d (oD true)) := by
 have q0 : decide (0 ≤ n) = true := decide_eq_true h0
 have q1 : decide (n < m) = true := decide_eq_true h1
 refine za4 (fn := Try.f70) (by kernel_rfl) Try.func70 rfl (Nat.le_of_ble_eq_true rfl) fun c hc hp => ?_
 refine za9 (τ' := frL [(0, .d (oD true)), (1, .d (iD n)), (2, .d (iD m))]) (by repeat (first | exact zas _ | refine zao ?_ (by first | rfl | (simp [r_f]; done) | simp [r_f, *]))) ?_
 refine szq hp (fun _ hZ => zff hZ) ?_
 refine zaa fun K2 hK2 => ?_
 refine szq hp (fun _ hZ => zff hZ) ?_
 refine szt ?_
 refine szq hp (fun _ hZ => jhp (sza q0 q1) hZ) ?_
 refine zam ?_
 show closeA _ _ = _
 exact jru
theorem jhr (m : Int) : zbg Try.prog 70 [oD false, iD 0, iD m] (.d (oD true)) := by
 refine za4 (fn := Try.f70) (by kernel_rfl) Try.func70 rfl (Nat.le_of_ble_eq_true rfl) fun c hc hp => ?_
 refine za9 (τ' := frL [(0, .d (oD false)), (1, .d (iD 0)), (2, .d (iD m))]) (by repeat (first | exact zas _ | refine zao ?_ (by first | rfl | (simp [r_f]; done) | simp [r_f, *]))) ?_
 refine szq hp (fun _ hZ => zff hZ) ?_
 refine zaa fun K2 hK2 => ?_
 refine szq hp (fun _ hZ => zff hZ) ?_
 refine szf ?_
 refine zaj (hK2 _ _ ?_)
 refine zag hp zak hc rfl fun K4 hK4 => ?_
 simp -dsimp -implicitDefEqProofs (disch := first | assumption | omega | (simp only [r_z] <;> omega) | decide) only [r_r, ↓reduceIte, Nat.reduceEqDiff, Nat.reduceAdd, D.fix, Int.reduceToNat, Nat.reduceMul, Nat.reduceBNe, Nat.reduceBEq, beq_self_eq_true, zgm]
 refine hK4 _ _ ?_
 refine zam ?_
 show closeA _ _ = _
 exact jru
theorem zo2 {u : Bool} {n m : Int} (h1 : u = true → 0 ≤ n ∧ n < m) (h2 : u = false → n = 0) : zbg Try.prog 70 [oD u, iD n, iD m] (.d (oD true)) := by
 cases u with
 | true => exact zo1 n m (h1 rfl).1 (h1 rfl).2
 | false => rw [h2 rfl]; exact jhr m
theorem zl4 {p q r : Prop} (e : r) (hq : q) (h : r → p = q := by
 intro hY
 conv => lhs; simp -dsimp -implicitDefEqProofs (disch := first | assumption | omega | (simp only [r_z, zab, zac] <;> omega) | decide) only [r_r, ↓reduceIte, Nat.reduceEqDiff, Nat.reduceAdd, D.fix, Int.reduceToNat, Nat.reduceMul, Nat.reduceBNe, Nat.reduceBEq, zcb, zb7, zay, za3, za2, zav, zbj, zgm, hY]) : p := (h e).mpr hq
theorem jhs (n : Net) (h : NetV n) : zbg Try.prog 35 [zcb n] (.d (oD true)) := by
 have hlen := h.len
 have hd0 := h.d0
 have hdl := h.dl
 have q0 : decide ((600 : Int) < 2 + n.ins.length + n.gates.length) = false := decide_eq_false (by omega)
 have q1 : ((n.out.length : Int) != n.drive.length) = false := by simp; omega
 have hno := jp9 n (by omega) (by omega)
 refine za4 (fn := Try.f35) (by kernel_rfl) Try.func35 rfl (Nat.le_of_ble_eq_true rfl) fun c hc hp => ?_
 refine za9 (τ' := frL [(0, .d (zcb n))]) (by repeat (first | exact zas _ | refine zao ?_ (by first | rfl | (simp [r_f, zab, zac]; done) | simp [r_f, zab, zac, *]))) ?_
 refine szq hp (fun _ hZ => zc6 hZ) ?_
 refine zaa fun K2 hK2 => ?_
 refine zag hp zak hc rfl fun K3 hK3 => ?_
 refine ze1 (sza q0 q1) ?_
 refine zbp (hno) rfl ?_
 refine ze1 (sza q0 q1) ?_
 refine hK3 _ _ ?_
 refine szf ?_
 refine zaj (hK2 _ _ ?_)
 refine zaa fun K4 hK4 => ?_
 refine szq hp (fun _ hZ => zo0 hZ) ?_
 refine zaf ?_
 refine zan hp (fun τ' H' mm => ∃ (k : Nat), (k ≤ n.ins.length) ∧ mm = n.ins.length - k ∧ H' = [.cells (avs (zb7 n))] ∧ τ' = frL [(1, .op 0 0), (3, .d (iD k))]) (n.ins.length) ?_ ⟨0, Nat.zero_le _, rfl, rfl, rfl⟩ ?_
 ·refine zi0 ?_
  exact zi1
 rintro τ' H' mm ⟨k, hk, rfl, rfl, rfl⟩
 refine zaa fun K6 hK6 => ?_
 refine szq hp (fun _ hZ => zc6 hZ) ?_
 refine zal rfl (fun ht => ?_) (fun ht => ?_)
 ·have hlt : k < n.ins.length := by simp at ht; omega
  have hw := h.wi _ (zb3 hlt)
  have q2 : decide ((nth n.ins k).kind < 1) = false := decide_eq_false (by have := hw.k1; omega)
  have q3 : decide (4 < (nth n.ins k).kind) = false := decide_eq_false (by have := hw.k4; omega)
  have q4 : decide ((nth n.ins k).i < 0) = false := decide_eq_false (by have := hw.i0; omega)
  have q5 : decide ((nth n.ins k).bit < 0) = false := decide_eq_false (by have := hw.b0; omega)
  have q6 : decide (7 < (nth n.ins k).bit) = false := decide_eq_false (by have := hw.b7; omega)
  refine zaj (hK6 _ _ ?_)
  refine zaa fun K8 hK8 => ?_
  refine zaf ?_
  refine szq hp (fun _ hZ => jar hZ) ?_
  refine szq hp (fun _ hZ => ze1 (sza q2 (sza q3 (sza q4 (sza q5 q6)))) hZ) ?_
  refine szf ?_
  refine zaj (hK8 _ _ ?_)
  refine za1 hp zak hc rfl fun K11 hK11 => ?_
  refine zc6 ?_
  refine hK11 _ _ ⟨_, _, _, ?_, ⟨k + 1, by omega, rfl, rfl, rfl⟩, ?_⟩
  ·first | omega | (simp only [List.length_cons]; omega) | (dsimp only; omega)
  ·refine zjt [0] ?_
   refine zi0 ?_
   exact zi1
 ·refine zau (hK4 _ _ ?_)
  refine zaa fun K12 hK12 => ?_
  refine szq hp (fun _ hZ => zo0 hZ) ?_
  refine zaf ?_
  refine zan hp (fun τ' H' mm => ∃ (k : Nat), (k ≤ n.gates.length) ∧ mm = n.gates.length - k ∧ H' = [.cells (avs (zb7 n))] ∧ τ' = frL [(1, .op 0 0), (5, .d (iD k))]) (n.gates.length) ?_ ⟨0, Nat.zero_le _, rfl, rfl, rfl⟩ ?_
  ·refine zjt [0] ?_
   refine zi0 ?_
   exact zi1
  rintro τ' H' mm ⟨k, hk, rfl, rfl, rfl⟩
  refine zaa fun K14 hK14 => ?_
  refine szq hp (fun _ hZ => zc6 hZ) ?_
  refine zal rfl (fun ht => ?_) (fun ht => ?_)
  ·have hlt : k < n.gates.length := by simp at ht; omega
   have hg := jaq h.g2 hlt
   have hv := h.gv _ (zb3 hlt)
   have a3 := jhn hg.o1 hg.o2
   have a0 := hg.a0; have a1 := hg.a1; have b0 := hg.b0; have b1 := hg.b1; have c0 := hg.c0; have c1 := hg.c1; have n0 := hg.n0
   have v1 := hv.c; have v2 := hv.b; have v3 := hv.n; have v4 := hv.m
   obtain ⟨ar, har⟩ : ∃ ar, ar = arN (nth n.gates k).op := ⟨_, rfl⟩
   have hac := jrz hg.o1 hg.o2
   rw [← har] at a3 hac
   have k0 : decide ((ar : Int) < 0) = false := decide_eq_false (by omega)
   have k1 := zo1 (nth n.gates k).a (2 + n.ins.length + k) a0 (by omega)
   have k2 := zo2 (u := decide ((1 : Int) < ar)) (n := (nth n.gates k).b) (m := 2 + n.ins.length + k) (fun _ => ⟨b0, by omega⟩) (fun hu => by simp at hu; rcases a3 with ⟨e, _⟩ | ⟨_, _, e⟩ | ⟨_, e⟩; exact v2 e; omega; omega)
   have k3 := zo2 (u := decide ((2 : Int) < ar)) (n := (nth n.gates k).c) (m := 2 + n.ins.length + k) (fun _ => ⟨c0, by omega⟩) (fun hu => by simp at hu; rcases a3 with ⟨e, _⟩ | ⟨_, e, _⟩ | ⟨_, e⟩; exact v1 (by omega); exact v1 e; omega)
   have k4 := zo2 (u := (nth n.gates k).op == 7) (n := (nth n.gates k).n) (m := 64) (fun _ => ⟨n0, by omega⟩) (fun hu => v3 (by simpa using hu))
   refine zaj (hK14 _ _ ?_)
   refine zaa fun K16 hK16 => ?_
   refine zaf ?_
   refine szq hp (fun _ hZ => jo2 hZ) ?_
   refine za5 zak hc mixed rfl (q := 0) (by kernel_rfl) (by kernel_rfl) fun K18 hK18 => ?_
   refine zc6 ?_
   refine zbp (hac) rfl ?_
   refine zc6 ?_
   refine hK18 _ _ ?_
   refine zag hp zak hc rfl fun K19 hK19 => ?_
   refine ze1 k0 ?_
   refine zbp (k1) rfl ?_
   refine ze1 k0 ?_
   refine zbp (k2) rfl ?_
   refine ze1 k0 ?_
   refine zbp (k3) rfl ?_
   refine ze1 k0 ?_
   refine zbp (k4) rfl ?_
   refine ze1 k0 ?_
   refine hK19 _ _ ?_
   refine szf ?_
   refine zaj (hK16 _ _ ?_)
   refine za1 hp zak hc rfl fun K20 hK20 => ?_
   refine zc6 ?_
   refine hK20 _ _ ⟨_, _, _, ?_, ⟨k + 1, by omega, rfl, rfl, rfl⟩, ?_⟩
   ·first | omega | (simp only [List.length_cons]; omega) | (dsimp only; omega)
   ·refine zjt [0] ?_
    refine zi0 ?_
    exact zi1
  ·refine zau (hK12 _ _ ?_)
   refine zaa fun K21 hK21 => ?_
   refine szq hp (fun _ hZ => zo0 hZ) ?_
   refine zaf ?_
   refine zan hp (fun τ' H' mm => ∃ (k : Nat), (k ≤ n.out.length) ∧ mm = n.out.length - k ∧ H' = [.cells (avs (zb7 n))] ∧ τ' = frL [(1, .op 0 0), (9, .d (iD k))]) (n.out.length) ?_ ⟨0, Nat.zero_le _, rfl, rfl, rfl⟩ ?_
   ·refine zjt [0] ?_
    refine zi0 ?_
    exact zi1
   rintro τ' H' mm ⟨k, hk, rfl, rfl, rfl⟩
   refine zaa fun K23 hK23 => ?_
   refine szq hp (fun _ hZ => zc6 hZ) ?_
   refine zal rfl (fun ht => ?_) (fun ht => ?_)
   ·have hlt : k < n.out.length := by simp at ht; omega
    have hw := h.wo _ (zb3 hlt)
    have hdk := h.d2 k (by omega)
    have q4 : decide ((nth n.out k).i < 0) = false := decide_eq_false (by have := hw.i0; omega)
    have q5 : decide ((nth n.out k).bit < 0) = false := decide_eq_false (by have := hw.b0; omega)
    have q6 : decide (7 < (nth n.out k).bit) = false := decide_eq_false (by have := hw.b7; omega)
    have k1 := zo1 (nth n.drive k) (2 + n.ins.length + n.gates.length) hdk.1 (by omega)
    refine zaj (hK23 _ _ ?_)
    refine zaa fun K25 hK25 => ?_
    refine zaf ?_
    refine szq hp (fun _ hZ => jar hZ) ?_
    refine za5 zak hc mixed rfl (q := 0) (by kernel_rfl) (by kernel_rfl) fun K27 hK27 => ?_
    rcases hw.k with q | ⟨q, q'⟩
    ·have q2 : ((nth n.out k).kind != 1) = false := by rw [q]; rfl
     have q3 := q2
     have q7 := q2
     refine zl4 (sza q2 (sza q3 (sza q4 (sza q5 (sza q6 q7))))) ?_
     refine zbp (hno) rfl ?_
     refine zl4 (sza q2 (sza q3 (sza q4 (sza q5 (sza q6 q7))))) ?_
     refine zbp (k1) rfl ?_
     refine zl4 (sza q2 (sza q3 (sza q4 (sza q5 (sza q6 q7))))) ?_
     refine hK27 _ _ ?_
     refine szf ?_
     refine zaj (hK25 _ _ ?_)
     refine za1 hp zak hc rfl fun K28 hK28 => ?_
     refine zc6 ?_
     refine hK28 _ _ ⟨_, _, _, ?_, ⟨k + 1, by omega, rfl, rfl, rfl⟩, ?_⟩
     ·first | omega | (simp only [List.length_cons]; omega) | (dsimp only; omega)
     ·refine zjt [0] ?_
      refine zi0 ?_
      exact zi1
    ·have q2 : decide ((nth n.out k).kind < 5) = false := decide_eq_false (by omega)
     have q3 : decide (10 < (nth n.out k).kind) = false := decide_eq_false (by omega)
     have q7 : ((nth n.out k).kind != 1) = true := by simp; omega
     refine zl4 (sza q2 (sza q3 (sza q4 (sza q5 (sza q6 q7))))) ?_
     refine zbp (hno) rfl ?_
     refine zl4 (sza q2 (sza q3 (sza q4 (sza q5 (sza q6 q7))))) ?_
     refine zbp (k1) rfl ?_
     refine zl4 (sza q2 (sza q3 (sza q4 (sza q5 (sza q6 q7))))) ?_
     refine hK27 _ _ ?_
     refine szf ?_
     refine zaj (hK25 _ _ ?_)
     refine za1 hp zak hc rfl fun K29 hK29 => ?_
     refine zc6 ?_
     refine hK29 _ _ ⟨_, _, _, ?_, ⟨k + 1, by omega, rfl, rfl, rfl⟩, ?_⟩
     ·first | omega | (simp only [List.length_cons]; omega) | (dsimp only; omega)
     ·refine zjt [0] ?_
      refine zi0 ?_
      exact zi1
   ·refine zau (hK21 _ _ ?_)
    refine szq hp (fun _ hZ => zo0 hZ) ?_
    refine zam ?_
    show closeA _ _ = _
    exact jrx
theorem zwr {p q : Prop} (hq : q) (h : p = q := by
 conv => lhs; simp -dsimp -implicitDefEqProofs (disch := first | assumption | omega | (simp only [r_z, zab] <;> omega) | decide) only [r_r, ↓reduceIte, Nat.reduceEqDiff, Nat.reduceAdd, D.fix, Int.reduceToNat, Nat.reduceMul, Nat.reduceBNe, Nat.reduceBEq, zay, zhi, zk8, za2, r_e]) : p := h.mpr hq
theorem zws {p q : Prop} (hq : q) (h : p = q := by
 conv => lhs; simp -dsimp -implicitDefEqProofs (disch := first | assumption | omega | (simp only [r_z, zab] <;> omega) | decide) only [r_r, ↓reduceIte, Nat.reduceEqDiff, Nat.reduceAdd, D.fix, Int.reduceToNat, Nat.reduceMul, Nat.reduceBNe, Nat.reduceBEq, zay, zhi, zk8, za2, r_e, zgm]) : p := h.mpr hq
theorem jza {m : List Nat} {τ τ' : Fr} {H H' : zae} (h2 : H = H') (h : zfq τ τ' := by
 repeat (first | exact zas _ | refine zao ?_ (by first | rfl | (simp [r_f, zab]; done) | simp [r_f, zab, *]))) : Rt m τ H τ' H' := Rt.end h h2
theorem jzb {p : Prop} (h : p := by
 first | rfl | (simp only [r_g, Nat.reduceAdd, ↓reduceIte, Nat.reduceEqDiff, zay, zhi, zk8, za2, r_e]; first | done | rfl)) : p := h
theorem zl5 (l : List Wire) (hl : l.length ≤ 1000000) : zbg Try.prog 31 [zay l, zay l] (.d (oD true)) := by
 refine za4 (fn := Try.f31) (by kernel_rfl) Try.func31 rfl (Nat.le_of_ble_eq_true rfl) fun c hc hp => ?_
 refine za9 (τ' := frL [(0, .d (zay l)), (1, .d (zay l))]) (by repeat (first | exact zas _ | refine zao ?_ (by first | rfl | (simp [r_f, zab]; done) | simp [r_f, zab, *]))) ?_
 refine szq hp (fun _ hZ => zwr hZ) ?_
 refine zaa fun K2 hK2 => ?_
 refine szq hp (fun _ hZ => zws hZ) ?_
 refine zal rfl (fun ht => ?_) (fun ht => ?_)
 ·simp at ht
 ·refine zaj (hK2 _ _ ?_)
  refine zaa fun K4 hK4 => ?_
  refine szq hp (fun _ hZ => zwr hZ) ?_
  refine zaf ?_
  refine zan hp (fun τ' H' mm => ∃ (k : Nat), (k ≤ l.length) ∧ mm = l.length - k ∧ H' = [] ∧ τ' = frL [(0, .d (zay l)), (1, .d (zay l)), (5, .d (iD k))]) (l.length) ?_ ⟨0, Nat.zero_le _, rfl, rfl, rfl⟩ ?_
  ·refine jza ?_
   exact jzb
  rintro τ' H' mm ⟨k, hk, rfl, rfl, rfl⟩
  refine zaa fun K6 hK6 => ?_
  refine szq hp (fun _ hZ => zws hZ) ?_
  refine zal rfl (fun ht => ?_) (fun ht => ?_)
  ·have hlt : k < l.length := by simp at ht; omega
   refine zaj (hK6 _ _ ?_)
   refine zaa fun K8 hK8 => ?_
   refine zaf ?_
   refine za5 zak hc mixed rfl (q := 0) (by kernel_rfl) (by kernel_rfl) fun K9 hK9 => ?_
   simp -dsimp -implicitDefEqProofs (disch := first | assumption | omega | (simp only [r_z, zab] <;> omega) | decide) only [r_r, ↓reduceIte, Nat.reduceEqDiff, Nat.reduceAdd, D.fix, Int.reduceToNat, Nat.reduceMul, Nat.reduceBNe, Nat.reduceBEq, zay, zhi, zk8, za2, r_e, zgm, zqb jvo, zqb jvo]
   refine hK9 _ _ ?_
   refine zal rfl (fun ht => ?_) (fun ht => ?_)
   ·simp at ht
   ·refine zaj (hK8 _ _ ?_)
    refine za1 hp zak hc rfl fun K10 hK10 => ?_
    refine zws ?_
    refine hK10 _ _ ⟨_, _, _, ?_, ⟨k + 1, by omega, rfl, rfl, rfl⟩, ?_⟩
    ·first | omega | (simp only [List.length_cons]; omega) | (dsimp only; omega)
    ·refine jza ?_
     exact jzb
  ·refine zau (hK4 _ _ ?_)
   refine szq hp (fun _ hZ => zwr hZ) ?_
   refine zam ?_
   show closeA _ _ = _
   simp (disch := first | assumption | omega | (simp only [r_z, zab] <;> omega) | decide) only [r_c, Nat.reduceAdd, D.fix, ↓reduceIte, Nat.reduceEqDiff, zay, zhi, zk8, za2, r_e]
end Go.Proofs.Ytapjobndmmkanaa
