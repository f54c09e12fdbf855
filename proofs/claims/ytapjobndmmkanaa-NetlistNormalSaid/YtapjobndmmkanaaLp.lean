/- The law NetlistNormal. -/
import Derived.Test.YtapjobndmmkanaaQr
import Derived.Test.YtapjobndmmkanaaLn
set_option linter.unusedVariables false
set_option linter.unusedSimpArgs false
set_option maxRecDepth 100000
set_option maxHeartbeats 4000000
namespace Go.Proofs.Ytapjobndmmkanaa
open Go Go.RowKit
theorem zps : (((((type_of% @zfr) ∧ ((type_of% @zkh) ∧ (type_of% @zew))) ∧ (((type_of% @zex) ∧ (type_of% @zcq)) ∧ ((type_of% @zf0) ∧ (type_of% @zf1)))) ∧ ((((type_of% @zg7) ∧ (type_of% @zc7)) ∧ ((type_of% @zh0) ∧ (type_of% @zh1))) ∧ (((type_of% @zh2) ∧ (type_of% @zlx)) ∧ ((type_of% @zmx) ∧ (type_of% @zmy))))) ∧ ((((type_of% @zin) ∧ ((type_of% @zly) ∧ (type_of% @zlz))) ∧ (((type_of% @zph) ∧ (type_of% @zto)) ∧ ((type_of% @jjr) ∧ (type_of% @jnb)))) ∧ ((((type_of% @jnc) ∧ (type_of% @jvr)) ∧ ((type_of% @jvs) ∧ (type_of% @zgu))) ∧ (((type_of% @zpi) ∧ (type_of% @zgv)) ∧ ((type_of% @zpj) ∧ (type_of% @zpk)))))) := ⟨⟨⟨⟨@zfr, ⟨@zkh, @zew⟩⟩, ⟨⟨@zex, @zcq⟩, ⟨@zf0, @zf1⟩⟩⟩, ⟨⟨⟨@zg7, @zc7⟩, ⟨@zh0, @zh1⟩⟩, ⟨⟨@zh2, @zlx⟩, ⟨@zmx, @zmy⟩⟩⟩⟩, ⟨⟨⟨@zin, ⟨@zly, @zlz⟩⟩, ⟨⟨@zph, @zto⟩, ⟨@jjr, @jnb⟩⟩⟩, ⟨⟨⟨@jnc, @jvr⟩, ⟨@jvs, @zgu⟩⟩, ⟨⟨@zpi, @zgv⟩, ⟨@zpj, @zpk⟩⟩⟩⟩⟩
theorem jlt {p q r : Prop} (e : r) (hq : q) (h : r → p = q := by
 intro hY
 conv => lhs; simp -dsimp -implicitDefEqProofs (disch := first | assumption | omega | (simp only [r_z, zab, zac] <;> omega) | decide) only [r_r, ↓reduceIte, Nat.reduceEqDiff, Nat.reduceAdd, D.fix, Int.reduceToNat, Nat.reduceMul, Nat.reduceBNe, Nat.reduceBEq, zcb, zb7, zay, za3, zps, hY]) : p := (h e).mpr hq
theorem jsa {p q r : Prop} (e : r) (hq : q) (h : r → p = q := by
 intro hY
 conv => lhs; simp -dsimp -implicitDefEqProofs (disch := first | assumption | omega | (simp only [r_z, zab, zac] <;> omega) | decide) only [r_r, ↓reduceIte, Nat.reduceEqDiff, Nat.reduceAdd, D.fix, Int.reduceToNat, Nat.reduceMul, Nat.reduceBNe, Nat.reduceBEq, zcb, zb7, zay, za3, jny, zps, hY]) : p := (h e).mpr hq
theorem jz0 {p q : Prop} (hq : q) (h : p = q := by
 conv => lhs; simp -dsimp -implicitDefEqProofs (disch := first | assumption | omega | (simp only [r_z, zab, zac] <;> omega) | decide) only [r_r, ↓reduceIte, Nat.reduceEqDiff, Nat.reduceAdd, D.fix, Int.reduceToNat, Nat.reduceMul, Nat.reduceBNe, Nat.reduceBEq, zcb, zb7, zay, za3]) : p := h.mpr hq
theorem yei {p q : Prop} (hq : q) (h : p = q := by
 conv => lhs; simp (disch := first | assumption | omega | (simp only [r_z, zab, zac] <;> omega) | decide) only [r_c, Nat.reduceAdd, D.fix, ↓reduceIte, Nat.reduceEqDiff, zcb, zb7, zay, za3]) : p := h.mpr hq
theorem jo7 (n : Net) (x : Int) (hi : n.ins.length ≤ 1000000) (hg : n.gates.length ≤ 1000000) (h0 : 0 ≤ x) (h1 : x < 2 + (n.ins.length : Int) + n.gates.length) : zbg Try.prog 71 [zcb n, iD x] (.d (iD (zfy (2 + n.ins.length) n.gates x))) := by
 refine za4 (fn := Try.f71) (by kernel_rfl) Try.func71 rfl (Nat.le_of_ble_eq_true rfl) fun c hc hp => ?_
 refine za9 (τ' := frL [(0, .d (zcb n)), (1, .d (iD x))]) (by repeat (first | exact zas _ | refine zao ?_ (by first | rfl | (simp [r_f, zab, zac]; done) | simp [r_f, zab, zac, *]))) ?_
 refine zag hp zak hc rfl fun K1 hK1 => ?_
 simp -dsimp -implicitDefEqProofs (disch := first | assumption | omega | (simp only [r_z, zab, zac] <;> omega) | decide) only [r_r, ↓reduceIte, Nat.reduceEqDiff, Nat.reduceAdd, D.fix, Int.reduceToNat, Nat.reduceMul, Nat.reduceBNe, Nat.reduceBEq, zcb, zb7, zay, za3, zps]
 refine hK1 _ _ ?_
 refine zag hp zak hc rfl fun K2 hK2 => ?_
 rcases (show x < 2 + (n.ins.length : Int) ∨ (∃ j : Nat, x = ((2 + n.ins.length + j : Nat) : Int) ∧ j < n.gates.length ∧ (nth n.gates j).op = 1) ∨ (∃ j : Nat, x = ((2 + n.ins.length + j : Nat) : Int) ∧ j < n.gates.length ∧ (nth n.gates j).op ≠ 1) by (by_cases hcx : x < 2 + (n.ins.length : Int); exact .inl hcx; by_cases ho : (nth n.gates (x - (2 + n.ins.length)).toNat).op = 1; exact .inr (.inl ⟨_, by omega, by omega, ho⟩); exact .inr (.inr ⟨_, by omega, by omega, ho⟩))) with hcx | ⟨j, hj, hjl, ho⟩ | ⟨j, hj, hjl, ho⟩
 ·have q0 : decide (x - 2 - (n.ins.length : Int) < 0) = true := decide_eq_true (by omega)
  have q1 : (0 : Int) = 0 := rfl
  have q2 := q1; have q3 := q1; have q4 := q1
  have hin : zfy (2 + n.ins.length) n.gates x = -1 := by unfold zfy; rw [if_neg (fun e => by have := e.1; omega)]
  refine jlt q1 ?_
  refine hK2 _ _ ?_
  refine zaa fun K3 hK3 => ?_
  refine szq hp (fun _ hZ => jsa (sza q0 (sza q2 q3)) hZ) ?_
  refine szt ?_
  refine szq hp (fun _ hZ => jz0 hZ) ?_
  refine zam ?_
  show closeA _ _ = _
  refine yei ?_
  rw [hin]
 ·have q1 : x - 2 - (n.ins.length : Int) = (j : Int) := by omega
  have q0 : decide ((j : Int) < 0) = false := decide_eq_false (by omega)
  have q2 : decide ((n.gates.length : Int) ≤ (j : Int)) = false := decide_eq_false (by omega)
  have q3 : ((nth n.gates j).op != 1) = false := by rw [ho]; rfl
  have q4 := jnz hjl
  have hin : zfy (2 + n.ins.length) n.gates x = (nth n.gates j).a := by unfold zfy; rw [show (x - ((2 + n.ins.length : Nat) : Int)).toNat = j by omega, if_pos ⟨by omega, ho⟩]
  refine jlt q1 ?_
  refine hK2 _ _ ?_
  refine zaa fun K6 hK6 => ?_
  refine szq hp (fun _ hZ => jsa (sza q0 (sza q2 q3)) hZ) ?_
  refine szf ?_
  refine zaj (hK6 _ _ ?_)
  refine szq hp (fun _ hZ => jlt q4 hZ) ?_
  refine zam ?_
  show closeA _ _ = _
  refine yei ?_
  rw [hin]
 ·have q1 : x - 2 - (n.ins.length : Int) = (j : Int) := by omega
  have q0 : decide ((j : Int) < 0) = false := decide_eq_false (by omega)
  have q2 : decide ((n.gates.length : Int) ≤ (j : Int)) = false := decide_eq_false (by omega)
  have q3 : ((nth n.gates j).op != 1) = true := by simpa using ho
  have q4 := q2
  have hin : zfy (2 + n.ins.length) n.gates x = -1 := by unfold zfy; rw [show (x - ((2 + n.ins.length : Nat) : Int)).toNat = j by omega, if_neg (fun e => ho e.2)]
  refine jlt q1 ?_
  refine hK2 _ _ ?_
  refine zaa fun K9 hK9 => ?_
  refine szq hp (fun _ hZ => jsa (sza q0 (sza q2 q3)) hZ) ?_
  refine szt ?_
  refine szq hp (fun _ hZ => jz0 hZ) ?_
  refine zam ?_
  show closeA _ _ = _
  refine yei ?_
  rw [hin]
theorem jz1 {m : Nat} {gs : Gs} (h : GI m gs) {k : Nat} (hk : k < gs.length) : NoG m gs (nth gs k) := h.no k hk
theorem zur {p q : Prop} (hq : q) (h : p = q := by
 conv => lhs; simp -dsimp -implicitDefEqProofs (disch := first | assumption | omega | (simp only [r_z, zab, zac] <;> omega) | decide) only [r_r, ↓reduceIte, Nat.reduceEqDiff, Nat.reduceAdd, D.fix, Int.reduceToNat, Nat.reduceMul, Nat.reduceBNe, Nat.reduceBEq, zcb, zb7, zay, za3, zav, zps]) : p := h.mpr hq
theorem zus {p q r : Prop} (e : r) (hq : q) (h : r → p = q := by
 intro hY
 conv => lhs; simp -dsimp -implicitDefEqProofs (disch := first | assumption | omega | (simp only [r_z, zab, zac] <;> omega) | decide) only [r_r, ↓reduceIte, Nat.reduceEqDiff, Nat.reduceAdd, D.fix, Int.reduceToNat, Nat.reduceMul, Nat.reduceBNe, Nat.reduceBEq, zcb, zb7, zay, za3, zav, zps, hY]) : p := (h e).mpr hq
theorem yej {m : List Nat} {τ τ' : Fr} {H H' : zae} (h2 : H = H') (h : zfq τ τ' := by
 repeat (first | exact zas _ | refine zao ?_ (by first | rfl | (simp [r_f, zab, zac]; done) | simp [r_f, zab, zac, *]))) : Rt m τ H τ' H' := Rt.end h h2
theorem jz2 {p : Prop} (h : p := by
 simp (disch := first | assumption | omega | (simp only [r_z, zab, zac] <;> omega) | decide) only [r_c, Nat.reduceAdd, D.fix, ↓reduceIte, Nat.reduceEqDiff, zcb, zb7, zay, za3, zav]) : p := h
theorem yek {p : Prop} (h : p := by
 first | rfl | (simp only [r_g, Nat.reduceAdd, ↓reduceIte, Nat.reduceEqDiff, zcb, zb7, zay, za3, zav]; first | done | rfl)) : p := h
theorem jh8 (n : Net) (k : Nat) (hG : GI (2 + n.ins.length) n.gates) (hi : n.ins.length ≤ 1000000) (hg : n.gates.length ≤ 1000000) (hk : k < n.gates.length) : zbg Try.prog 36 [zcb n, .agg (zav (nth n.gates k))] (.d (oD false)) := by
 have hr := hG.rg k hk
 have hno := jz1 hG hk
 have ha1 := hr.a1; have hb1 := hr.b1; have hc1 := hr.c1
 have cA := jo7 n (nth n.gates k).a hi hg hr.a0 (by omega)
 have cB := jo7 n (nth n.gates k).b hi hg hr.b0 (by omega)
 have fz : decide ((0 : Int) ≤ -1) = false := rfl
 refine za4 (fn := Try.f36) (by kernel_rfl) Try.func36 rfl (Nat.le_of_ble_eq_true rfl) fun c hc hp => ?_
 refine za9 (τ' := frL [(0, .d (zcb n)), (1, .d (.agg (zav (nth n.gates k))))]) (by repeat (first | exact zas _ | refine zao ?_ (by first | rfl | (simp [r_f, zab, zac]; done) | simp [r_f, zab, zac, *]))) ?_
 refine szq hp (fun _ hZ => zur hZ) ?_
 refine zaa fun K2 hK2 => ?_
 refine szq hp (fun _ hZ => zur hZ) ?_
 refine zaf ?_
 refine szq hp (fun _ hZ => zur hZ) ?_
 refine zal rfl (fun ht => ?_) (fun ht => ?_)
 ·have ho : (nth n.gates k).op = 1 := by simpa using ht
  obtain ⟨z1, z2⟩ := hno.nt ho
  have f1 : decide ((nth n.gates k).a < 2) = false := decide_eq_false (by omega)
  rw [z2] at cA
  refine zag hp zak hc rfl fun K5 hK5 => ?_
  refine zus (sza f1 fz) ?_
  refine zbp (cA) rfl ?_
  refine zus (sza f1 fz) ?_
  refine hK5 _ _ ?_
  refine zam ?_
  show closeA _ _ = _
  exact jz2
 ·have n1 : (nth n.gates k).op ≠ 1 := by simpa using ht
  refine zaa fun K6 hK6 => ?_
  have hJ6 : ∀ τ' H', (∃ τ1 H1, ∃ (b : Bool), (b = true ↔ (2 ≤ (nth n.gates k).op ∧ (nth n.gates k).op ≤ 4)) ∧ H1 = [.cells (avs (zb7 n)), .cells (avs (zav (nth n.gates k)))] ∧ τ1 = frL [(2, .op 0 0), (3, .op 1 0), (6, .d (iD (nth n.gates k).op)), (19, .d (oD b))] ∧ Rt [] τ' H' τ1 H1) → K6 τ' H' := by
   rintro τ' H' ⟨_, _, b, hb, rfl, rfl, hrt⟩
   refine hK6 _ _ (zat hp hrt ?_)
   clear hrt
   refine zal rfl (fun ht => ?_) (fun ht => ?_)
   ·have h24 := hb.1 ht
    obtain ⟨z1, z2, z3, z4⟩ := hno.tw h24.1 h24.2
    have f1 : decide ((nth n.gates k).a < 2) = false := decide_eq_false (by omega)
    have f2 : decide ((nth n.gates k).b ≤ (nth n.gates k).a) = false := decide_eq_false (by omega)
    have f3 : (zfy (2 + n.ins.length) n.gates (nth n.gates k).a == (nth n.gates k).b) = false := by simpa using z3
    have f4 : (zfy (2 + n.ins.length) n.gates (nth n.gates k).b == (nth n.gates k).a) = false := by simpa using z4
    refine za5 zak hc mixed rfl (q := 0) (by kernel_rfl) (by kernel_rfl) fun K7 hK7 => ?_
    refine zus (sza f1 (sza f2 (sza f3 f4))) ?_
    refine zbp (cA) rfl ?_
    refine zus (sza f1 (sza f2 (sza f3 f4))) ?_
    refine zbp (cB) rfl ?_
    refine zus (sza f1 (sza f2 (sza f3 f4))) ?_
    refine hK7 _ _ ?_
    refine zam ?_
    show closeA _ _ = _
    exact jz2
   ·have h24 : ¬ (2 ≤ (nth n.gates k).op ∧ (nth n.gates k).op ≤ 4) := fun e => by rw [hb.2 e] at ht; cases ht
    refine szq hp (fun _ hZ => zur hZ) ?_
    refine zal rfl (fun ht => ?_) (fun ht => ?_)
    ·have ho : (nth n.gates k).op = 5 := by simpa using ht
     obtain ⟨z1, z2, z3, z4⟩ := hno.mx ho
     have f1 : decide ((nth n.gates k).a < 2) = false := decide_eq_false (by omega)
     have f2 : decide ((nth n.gates k).b < 2) = false := decide_eq_false (by omega)
     have f3 : decide ((nth n.gates k).c < 2) = false := decide_eq_false (by omega)
     have f4 : ((nth n.gates k).b == (nth n.gates k).c) = false := by simpa using z4
     refine szq hp (fun _ hZ => zus (sza f1 (sza f2 (sza f3 f4))) hZ) ?_
     refine zam ?_
     show closeA _ _ = _
     exact jz2
    ·have n5 : (nth n.gates k).op ≠ 5 := by simpa using ht
     refine szq hp (fun _ hZ => zur hZ) ?_
     refine zal rfl (fun ht => ?_) (fun ht => ?_)
     ·have ho : (nth n.gates k).op = 6 := by simpa using ht
      obtain ⟨z1, z2, z3⟩ := hno.mj ho
      have f1 : decide ((nth n.gates k).a < 2) = false := decide_eq_false (by omega)
      have f2 : decide ((nth n.gates k).b ≤ (nth n.gates k).a) = false := decide_eq_false (by omega)
      have f3 : decide ((nth n.gates k).c ≤ (nth n.gates k).b) = false := decide_eq_false (by omega)
      refine szq hp (fun _ hZ => zus (sza f1 (sza f2 f3)) hZ) ?_
      refine zam ?_
      show closeA _ _ = _
      exact jz2
     ·have n6 : (nth n.gates k).op ≠ 6 := by simpa using ht
      have o1 := hr.o1; have o2 := hr.o2
      have f7 : ((nth n.gates k).op != 7) = false := by rw [show (nth n.gates k).op = 7 by omega]; rfl
      refine zaj (hK2 _ _ ?_)
      refine szq hp (fun _ hZ => zus f7 hZ) ?_
      refine zam ?_
      show closeA _ _ = _
      exact jz2
  refine szq hp (fun _ hZ => zur hZ) ?_
  refine zal rfl (fun ht => ?_) (fun ht => ?_)
  ·have e2 : (nth n.gates k).op = 2 := by simpa using ht
   refine zaj (hJ6 _ _ ⟨_, _, true, ⟨fun _ => by omega, fun _ => rfl⟩, rfl, rfl, ?_⟩)
   refine yej ?_
   exact yek
  ·have n2 : (nth n.gates k).op ≠ 2 := by simpa using ht
   refine szq hp (fun _ hZ => zur hZ) ?_
   refine zal rfl (fun ht => ?_) (fun ht => ?_)
   ·have e3 : (nth n.gates k).op = 3 := by simpa using ht
    refine zaj (hJ6 _ _ ⟨_, _, true, ⟨fun _ => by omega, fun _ => rfl⟩, rfl, rfl, ?_⟩)
    refine yej ?_
    exact yek
   ·have n3 : (nth n.gates k).op ≠ 3 := by simpa using ht
    refine za1 hp zak hc rfl fun K15 hK15 => ?_
    refine zur ?_
    refine hK15 _ _ (hJ6 _ _ ⟨_, _, ((nth n.gates k).op == 4), ⟨fun h => by have h4 : (nth n.gates k).op = 4 := (by simpa using h); omega, fun h => by have h4 : (nth n.gates k).op = 4 := (by omega); rw [h4]; rfl⟩, rfl, rfl, ?_⟩)
    refine yej ?_
    exact yek
instance : Inhabited Net := ⟨⟨[], [], [], []⟩⟩
def jlu (n : Net) : List D := zeq n 0
def zut (l : List Net) : D := .fs (l.flatMap jlu) l.length
theorem jsb (n : Net) : (jlu n).length = 5 := rfl
theorem zed {l : List Net} : (l.flatMap jlu).length = l.length * 5 := zca jsb l
theorem yel {l : List Net} {k : Nat} (h : k < l.length) : zbv (l.flatMap jlu) (k * 5) 4 = some (zb7 (nth l k)) := by
 have := jld (off := 0) (n := 4) jsb h (by omega)
 rwa [Nat.add_zero] at this
theorem yem {l : List Net} {k : Nat} (h : k < l.length) : (l.flatMap jlu)[k * 5 + 4]? = some (iD 0) := (zci (j := 4) jsb h (by omega)).trans rfl
structure NmOk (n : Net) : Prop where
 v : NetV n
 g : GI (2 + n.ins.length) n.gates
theorem jsc {p : Pr} (h : Proc p) : NmOk (ze4 p) := ⟨jht h, (zdy h.ok _ (Nat.le_refl _)).gi⟩
theorem yen {n w : Nat} (hn : 1 ≤ n) (hn' : n ≤ 9) (hw : 1 ≤ w) (hw' : w ≤ 8) : NmOk (ze4 (lgP n w)) := ⟨ygm hn hn' hw hw', (zdy (zum hn (by omega) hw hw') _ (Nat.le_refl _)).gi⟩
theorem yeo {n : Net} (h : NmOk n) {i m : Nat} (hi : i < n.gates.length) (hm : m < i) : nth n.gates m ≠ nth n.gates i := fun e => by
 rw [zdd hi, zdd (show m < n.gates.length by omega)] at e
 have := (List.getElem_inj h.g.nd).1 e
 omega
theorem jlv {a b : Gate} (h1 : a.op = b.op) (h2 : a.a = b.a) (h3 : a.b = b.b) (h4 : a.c = b.c) (h5 : a.n = b.n) : a = b := by
 cases a; cases b; simp only at h1 h2 h3 h4 h5; subst h1 h2 h3 h4 h5; rfl
theorem zuu {p q : Prop} (hq : q) (h : p = q := by
 conv => lhs; simp -dsimp -implicitDefEqProofs (disch := first | assumption | omega | (simp only [r_z, zab, zac, zed] <;> omega) | decide) only [r_r, ↓reduceIte, Nat.reduceEqDiff, Nat.reduceAdd, D.fix, Int.reduceToNat, Nat.reduceMul, Nat.reduceBNe, Nat.reduceBEq, bne_self_eq_false, zcb, zb7, zay, za3, zav, za2, zeq, List.cons_append, List.nil_append, r_e, zps]) : p := h.mpr hq
theorem jcm {p q : Prop} (hq : q) (h : p = q := by
 conv => lhs; simp -dsimp -implicitDefEqProofs (disch := first | assumption | omega | (simp only [r_z, zab, zac, zed] <;> omega) | decide) only [r_r, ↓reduceIte, Nat.reduceEqDiff, Nat.reduceAdd, D.fix, Int.reduceToNat, Nat.reduceMul, Nat.reduceBNe, Nat.reduceBEq, bne_self_eq_false, zcb, zb7, zay, za3, zav, za2, zeq, List.cons_append, List.nil_append, r_e]) : p := h.mpr hq
theorem jh9 {p q r : Prop} (e : r) (hq : q) (h : r → p = q := by
 intro hY
 conv => lhs; simp -dsimp -implicitDefEqProofs (disch := first | assumption | omega | (simp only [r_z, zab, zac, zed] <;> omega) | decide) only [r_r, ↓reduceIte, Nat.reduceEqDiff, Nat.reduceAdd, D.fix, Int.reduceToNat, Nat.reduceMul, Nat.reduceBNe, Nat.reduceBEq, r_w, bne_self_eq_false, zcb, zb7, zay, za3, zav, za2, zeq, List.cons_append, List.nil_append, r_e, zps, hY]) : p := (h e).mpr hq
theorem jte (k : List Nat) {m : List Nat} {τ τ1 : Fr} {H H1 : zae} (h : Rt m (fun t => gcV k (τ t)) (gcH k H) τ1 H1) (a : ∀ i ∈ m, k[i]? = some i := by decide) (b : k.Nodup := by decide) (c : ∀ i ∈ k, i < H.length := by
 simp [fzH, gcH]) : Rt m τ H τ1 H1 := Rt.trans (Rt.gc a b c) h
theorem jtf {m : List Nat} {τ τ' : Fr} {H H' : zae} (h2 : H = H') (h : zfq τ τ' := by
 repeat (first | exact zas _ | refine zao ?_ (by first | rfl | (simp [r_f, zab, zac, zed, zut, jlu, zeq, zb7, zay, za3, intsD]; done) | simp [r_f, zab, zac, zed, zut, jlu, zeq, zb7, zay, za3, intsD, *]))) : Rt m τ H τ' H' := Rt.end h h2
theorem jlw {p q r : Prop} (e : r) (hq : q) (h : r → p = q := by
 intro hY
 conv => lhs; simp -dsimp -implicitDefEqProofs (disch := first | assumption | omega | (simp only [r_z, zab, zac, zed] <;> omega) | decide) only [r_r, ↓reduceIte, Nat.reduceEqDiff, Nat.reduceAdd, D.fix, Int.reduceToNat, Nat.reduceMul, Nat.reduceBNe, Nat.reduceBEq, bne_self_eq_false, zcb, zb7, zay, za3, zav, za2, zeq, List.cons_append, List.nil_append, r_e, zps, hY]) : p := (h e).mpr hq
theorem jo8 {p q : Prop} (hq : q) (h : p = q := by
 conv => lhs; simp -dsimp -implicitDefEqProofs (disch := first | assumption | omega | (simp only [r_z, zab, zac, zed] <;> omega) | decide) only [r_r, ↓reduceIte, Nat.reduceEqDiff, Nat.reduceAdd, D.fix, Int.reduceToNat, Nat.reduceMul, Nat.reduceBNe, Nat.reduceBEq, bne_self_eq_false, zcb, zb7, zay, za3, zav, za2, zeq, List.cons_append, List.nil_append, r_e, zjj, zjz, zps]) : p := h.mpr hq
theorem jtg {p : Prop} (h : p := by
 first | rfl | (simp only [r_g, Nat.reduceAdd, ↓reduceIte, Nat.reduceEqDiff, bne_self_eq_false, zcb, zb7, zay, za3, zav, za2, zeq, List.cons_append, List.nil_append, r_e]; first | done | rfl)) : p := h
theorem jcn (b : List Int) (hb0 : zg6 b) (hl0 : b.length ≤ maxLen) (k0 k1 : Nat) (h0 : k0 < 256) (h1 : k1 < 256) : zbg Try.prog 6 [.agg [bytesD b], .agg [.val (.int .u8 k0), .val (.int .u8 k1)]] (.d (oD true)) := by
 have hk8 : (k0 : Int) % 8 = ((k0 % 8 : Nat) : Int) := by omega
 have hlg := zru (k0 % 8) k1 (by omega) h1
 obtain ⟨n1, hn1⟩ : ∃ n, n = 1 + k0 % 8 % 16 := ⟨_, rfl⟩
 obtain ⟨w1, hw1⟩ : ∃ w, w = 1 + k1 % 8 := ⟨_, rfl⟩
 have r1 : 1 ≤ n1 ∧ n1 ≤ 8 := by omega
 have r2 : 1 ≤ w1 ∧ w1 ≤ 8 := by omega
 rw [← hn1, ← hw1] at hlg
 clear hn1 hw1
 refine za4 (fn := Try.f6) (by kernel_rfl) Try.func6 rfl (Nat.le_of_ble_eq_true rfl) fun c hc hp => ?_
 refine za9 (τ' := frL [(0, .d (.agg [bytesD b])), (1, .d (.agg [.val (.int .u8 k0), .val (.int .u8 k1)]))]) (by repeat (first | exact zas _ | refine zao ?_ (by first | rfl | (simp [r_f, zab, zac, zed, zut, jlu, zeq, zb7, zay, za3, intsD]; done) | simp [r_f, zab, zac, zed, zut, jlu, zeq, zb7, zay, za3, intsD, *]))) ?_
 refine szq hp (fun _ hZ => zuu hZ) ?_
 refine zag hp zak hc rfl fun K2 hK2 => ?_
 refine jcm ?_
 refine zbp (zgn) rfl ?_
 refine jcm ?_
 refine hK2 _ _ ?_
 refine zaa fun K3 hK3 => ?_
 refine szq hp (fun _ hZ => zuu hZ) ?_
 refine szf ?_
 refine zaj (hK3 _ _ ?_)
 refine za6 zak hp hc mixed rfl [(0, []), (3, []), (4, []), (5, []), (6, []), (7, []), (1, [4, 7]), (2, [4, 7]), (8, []), (9, []), (10, []), (11, [])] [[], [0], [0, 1], [], [3], [3, 4], [], [6], [0, 1, 2, 3, 4, 5, 6, 7], [0, 1, 2, 3, 4, 5, 6, 7, 8], [0, 1, 2, 3, 4, 5, 6, 7, 8, 9], [0, 1, 2, 3, 4, 5, 6, 7, 8, 9, 10]] 1 (by kernel_rfl) fun K5 hK5 => ?_
 refine jh9 hk8 ?_
 refine zyn (zrm b hb0 hl0) rfl fun r hr => ?_
 obtain ⟨p, hp', rfl⟩ := hr
 refine jh9 hk8 ?_
 refine zkg (zjn hp') rfl ?_
 refine jh9 hk8 ?_
 refine zkg (hlg) rfl ?_
 refine jh9 hk8 ?_
 refine zkg (jay r1.1 (by omega) r2.1 r2.2) rfl ?_
 refine jh9 hk8 ?_
 refine hK5 _ _ ?_
 refine zaa fun K6 hK6 => ?_
 refine szq hp (fun _ hZ => jcm hZ) ?_
 refine zaf ?_
 refine zan hp (fun τ' H' mm => ∃ (j : Nat), (j ≤ 2) ∧ mm = 2 - j ∧ H' = [] ∧ τ' = frL [(5, .d (oD true)), (6, .d (zut [ze4 p, ze4 (lgP n1 w1)])), (7, .d (iD j))]) (2) ?_ ⟨0, by omega, rfl, rfl, rfl⟩ ?_
 ·refine jte [] ?_
  refine jtf ?_
  exact jtg
 rintro τ' H' mm ⟨j, hj, rfl, rfl, rfl⟩
 obtain ⟨l, hl⟩ : ∃ l, l = [ze4 p, ze4 (lgP n1 w1)] := ⟨_, rfl⟩
 have hll : l.length = 2 := by rw [hl]; rfl
 have hlo : ∀ k, k < 2 → NmOk (nth l k) := fun k hk => by
  rw [hl]
  rcases (show k = 0 ∨ k = 1 by omega) with rfl | rfl
  ·exact jsc hp'
  ·exact yen r1.1 (by omega) r2.1 r2.2
 rw [← hl]
 have hl' : ∃ _ : l = [ze4 p, ze4 (lgP n1 w1)], True := ⟨hl, trivial⟩
 clear hl
 unfold zut
 refine zaa fun K8 hK8 => ?_
 refine szq hp (fun _ hZ => zuu hZ) ?_
 refine zal rfl (fun ht => ?_) (fun ht => ?_)
 ·have hlt : j < 2 := by simp at ht; omega
  have hlt2 : j < l.length := by omega
  have hok := hlo j hlt
  have hrow := yel hlt2
  have hE := yem hlt2
  obtain ⟨n, hn⟩ : ∃ n, n = nth l j := ⟨_, rfl⟩
  rw [← hn] at hok hrow
  clear hn
  have hv := hok.v
  have hlen := hv.len
  refine zaj (hK8 _ _ ?_)
  refine zaa fun K10 hK10 => ?_
  refine zaf ?_
  refine szq hp (fun _ hZ => jlw hrow hZ) ?_
  refine zaa fun K12 hK12 => ?_
  refine zag hp zak hc rfl fun K13 hK13 => ?_
  refine jlw hE ?_
  refine zbp (jry n hv) rfl ?_
  refine jlw hE ?_
  refine zbp (jhs n hv) rfl ?_
  refine jlw hE ?_
  refine hK13 _ _ ?_
  refine szf ?_
  refine zaj (hK12 _ _ ?_)
  refine szq hp (fun _ hZ => jcm hZ) ?_
  refine zaf ?_
  refine zan hp (fun τ' H' mm => ∃ (i : Nat), (i ≤ n.gates.length) ∧ mm = n.gates.length - i ∧ H' = [.cells (avs (zb7 n))] ∧ τ' = frL [(5, .d (oD true)), (6, .d (zut l)), (7, .d (iD j)), (8, .op 0 0), (9, .d (iD i))]) (n.gates.length) ?_ ⟨0, Nat.zero_le _, rfl, rfl, rfl⟩ ?_
  ·refine jte [0] ?_
   refine jtf ?_
   exact jtg
  rintro τ' H' mm ⟨i, hi, rfl, rfl, rfl⟩
  refine zaa fun K15 hK15 => ?_
  refine szq hp (fun _ hZ => zuu hZ) ?_
  refine zal rfl (fun ht => ?_) (fun ht => ?_)
  ·have hli : i < n.gates.length := by simp at ht; omega
   refine zaj (hK15 _ _ ?_)
   refine zaa fun K17 hK17 => ?_
   refine zaf ?_
   refine zaa fun K18 hK18 => ?_
   refine za5 zak hc mixed rfl (q := 0) (by kernel_rfl) (by kernel_rfl) fun K19 hK19 => ?_
   refine jo8 ?_
   refine zbp (jh8 n i hok.g (by omega) (by omega) hli) rfl ?_
   refine jo8 ?_
   refine hK19 _ _ ?_
   refine szf ?_
   refine zaj (hK18 _ _ ?_)
   refine szq hp (fun _ hZ => jcm hZ) ?_
   refine zaf ?_
   refine zan hp (fun τ' H' mm => ∃ (m : Nat), (m ≤ i) ∧ mm = i - m ∧ H' = [.cells (avs (zb7 n))] ∧ τ' = frL [(5, .d (oD true)), (6, .d (zut l)), (7, .d (iD j)), (8, .op 0 0), (9, .d (iD i)), (10, .d (iD m))]) (i) ?_ ⟨0, Nat.zero_le _, rfl, rfl, rfl⟩ ?_
   ·refine jte [0] ?_
    refine jtf ?_
    exact jtg
   rintro τ' H' mm ⟨m, hm, rfl, rfl, rfl⟩
   refine zaa fun K21 hK21 => ?_
   refine szq hp (fun _ hZ => zuu hZ) ?_
   refine zal rfl (fun ht => ?_) (fun ht => ?_)
   ·have hlm : m < i := by simp at ht; omega
    have hne := yeo hok hli hlm
    refine zaj (hK21 _ _ ?_)
    refine zaa fun K23 hK23 => ?_
    refine zaf ?_
    refine za5 zak hc mixed rfl (q := 0) (by kernel_rfl) (by kernel_rfl) fun K24 hK24 => ?_
    simp -dsimp -implicitDefEqProofs (disch := first | assumption | omega | (simp only [r_z, zab, zac, zed] <;> omega) | decide) only [r_r, ↓reduceIte, Nat.reduceEqDiff, Nat.reduceAdd, D.fix, Int.reduceToNat, Nat.reduceMul, Nat.reduceBNe, Nat.reduceBEq, bne_self_eq_false, zcb, zb7, zay, za3, zav, za2, zeq, List.cons_append, List.nil_append, r_e, zjj, zjz, zps, zqb jju, zqb jju]
    refine hK24 _ _ ?_
    refine zal rfl (fun ht => ?_) (fun ht => ?_)
    ·exfalso
     simp at ht
     exact hne (jlv (by omega) (by omega) (by omega) (by omega) (by omega))
    ·refine zaj (hK23 _ _ ?_)
     refine za1 hp zak hc rfl fun K25 hK25 => ?_
     refine zuu ?_
     refine hK25 _ _ ⟨_, _, _, ?_, ⟨m + 1, by omega, rfl, rfl, rfl⟩, ?_⟩
     ·first | omega | (simp only [List.length_cons]; omega) | (dsimp only; omega)
     ·refine jte [0] ?_
      refine jtf ?_
      exact jtg
   ·refine zau (hK17 _ _ ?_)
    refine za1 hp zak hc rfl fun K26 hK26 => ?_
    refine zuu ?_
    refine hK26 _ _ ⟨_, _, _, ?_, ⟨i + 1, by omega, rfl, rfl, rfl⟩, ?_⟩
    ·first | omega | (simp only [List.length_cons]; omega) | (dsimp only; omega)
    ·refine jte [0] ?_
     refine jtf ?_
     exact jtg
  ·refine zau (hK10 _ _ ?_)
   refine za1 hp zak hc rfl fun K27 hK27 => ?_
   refine zuu ?_
   obtain ⟨rfl, _⟩ := hl'
   refine hK27 _ _ ⟨_, _, _, ?_, ⟨j + 1, by omega, rfl, rfl, rfl⟩, ?_⟩
   ·first | omega | (simp only [List.length_cons]; omega) | (dsimp only; omega)
   ·refine jte [] ?_
    refine jtf ?_
    exact jtg
 ·refine zau (hK6 _ _ ?_)
  refine szq hp (fun _ hZ => jcm hZ) ?_
  refine zam ?_
  show closeA _ _ = _
  simp (disch := first | assumption | omega | (simp only [r_z, zab, zac, zed] <;> omega) | decide) only [r_c, Nat.reduceAdd, D.fix, ↓reduceIte, Nat.reduceEqDiff, bne_self_eq_false, zcb, zb7, zay, za3, zav, za2, zeq, List.cons_append, List.nil_append, r_e]
end Go.Proofs.Ytapjobndmmkanaa
