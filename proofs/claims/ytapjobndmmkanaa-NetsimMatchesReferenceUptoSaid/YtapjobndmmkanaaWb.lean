/- Values of the nodes that a builder makes. -/
import Derived.Test.YtapjobndmmkanaaOb
import Derived.Test.YtapjobndmmkanaaQr
set_option linter.unusedVariables false
set_option linter.unusedSimpArgs false
namespace Go.Proofs.Ytapjobndmmkanaa
open Go Go.RowKit
section
section
variable {mems : List (List Int)} {v0 : List Bool} {m : Nat} {gs gs' : Gs} {x y z : Int}
def mj (a b c : Bool) : Bool := a && b || a && c || b && c
end
section
variable {mems : List (List Int)} {v0 : List Bool} {m : Nat} {gs : Gs}
end
/- The reference's builder of netlists: wires, gates, complements. -/
set_option maxRecDepth 100000
set_option maxHeartbeats 4000000
end
theorem zp7 : (((((type_of% @zje) ∧ ((type_of% @zjf) ∧ (type_of% @zgz))) ∧ ((type_of% @zev) ∧ ((type_of% @zew) ∧ (type_of% @zem)))) ∧ (((type_of% @zen) ∧ ((type_of% @zus) ∧ (type_of% @zut))) ∧ (((type_of% @zef) ∧ (type_of% @zgg)) ∧ ((type_of% @zjp) ∧ (type_of% @znt))))) ∧ ((((type_of% @zmp) ∧ ((type_of% @zmq) ∧ (type_of% @zpp))) ∧ (((type_of% @jit) ∧ (type_of% @zzo)) ∧ ((type_of% @zjq) ∧ (type_of% @zey)))) ∧ (((type_of% @zez) ∧ ((type_of% @zie) ∧ (type_of% @zll))) ∧ (((type_of% @zmw) ∧ (type_of% @zff)) ∧ ((type_of% @zfg) ∧ (type_of% @zmv)))))) := ⟨⟨⟨⟨@zje, ⟨@zjf, @zgz⟩⟩, ⟨@zev, ⟨@zew, @zem⟩⟩⟩, ⟨⟨@zen, ⟨@zus, @zut⟩⟩, ⟨⟨@zef, @zgg⟩, ⟨@zjp, @znt⟩⟩⟩⟩, ⟨⟨⟨@zmp, ⟨@zmq, @zpp⟩⟩, ⟨⟨@jit, @zzo⟩, ⟨@zjq, @zey⟩⟩⟩, ⟨⟨@zez, ⟨@zie, @zll⟩⟩, ⟨⟨@zmw, @zff⟩, ⟨@zfg, @zmv⟩⟩⟩⟩⟩
def zcn (n : Nat) (gs : Gs) : List D := [iD n, zaj gs]
def zc7 (n : Nat) (r : Re) : List D := [iD n, zaj r.1, iD r.2]
def zc0 (n : Nat) (r : Re) : D := .agg (zc7 n r)
theorem jgm {α : Type} [Inhabited α] {l : List α} {g : α} (h : ∀ j, j < l.length → nth l j ≠ g) : ¬ g ∈ l := fun hm => by
 obtain ⟨j, hj, e⟩ := List.mem_iff_getElem.1 hm
 exact h j hj (by rw [zek hj]; exact e)
theorem jaj (a b : Wire) : (a.kind == b.kind && (a.i == b.i && a.bit == b.bit)) = decide (a = b) := by
 rw [Bool.eq_iff_iff]; cases a; cases b; simp
theorem jak (a b : Gate) : (a.op == b.op && (a.a == b.a && (a.b == b.b && (a.c == b.c && a.n == b.n)))) = decide (a = b) := by
 rw [Bool.eq_iff_iff]; cases a; cases b; simp
theorem jpu {p q : Prop} (hq : q) (h : p = q := by
 conv => lhs; simp -dsimp -implicitDefEqProofs (disch := first | assumption | omega | (simp only [r_z, zab] <;> omega) | decide) only [r_r, ↓reduceIte, Nat.reduceEqDiff, Nat.reduceAdd, D.fix, Int.reduceToNat, Nat.reduceMul, Nat.reduceBNe, Nat.reduceBEq, zao, zbn, zbj, za6, r_e, zp7]) : p := h.mpr hq
theorem jv4 {p q : Prop} (hq : q) (h : p = q := by
 conv => lhs; simp -dsimp -implicitDefEqProofs (disch := first | assumption | omega | (simp only [r_z, zab] <;> omega) | decide) only [r_r, ↓reduceIte, Nat.reduceEqDiff, Nat.reduceAdd, D.fix, Int.reduceToNat, Nat.reduceMul, Nat.reduceBNe, Nat.reduceBEq, zao, zbn, zbj, za6, r_e]) : p := h.mpr hq
theorem ybe {m : List Nat} {τ τ' : Fr} {H H' : zad} (h2 : H = H') (h : zgu τ τ' := by
 repeat (first | exact zar _ | refine zam ?_ (by first | rfl | (simp [r_f, zab]; done) | simp [r_f, zab, *]))) : Rt m τ H τ' H' := Rt.end h h2
theorem ybf {p : Prop} (h : p := by
 first | rfl | (simp only [r_g, Nat.reduceAdd, ↓reduceIte, Nat.reduceEqDiff, zao, zbn, zbj, za6, r_e]; first | done | rfl)) : p := h
theorem zpa (l : List Wire) (w : Wire) (hl : l.length ≤ 1000000) (hw : w ∈ l) : zaz Try.prog 106 [zao l, .agg (za6 w)] (.d (iD (jce w l))) := by
 refine zaw (fn := Try.f106) (by kernel_rfl) Try.func106 rfl (Nat.le_of_ble_eq_true rfl) fun c hc hp => ?_
 refine za0 (τ' := frL [(0, .d (zao l)), (1, .d (.agg (za6 w)))]) (by repeat (first | exact zar _ | refine zam ?_ (by first | rfl | (simp [r_f, zab]; done) | simp [r_f, zab, *]))) ?_
 refine szq hp (fun _ hZ => jpu hZ) ?_
 refine zaa fun K2 hK2 => ?_
 refine szq hp (fun _ hZ => jv4 hZ) ?_
 refine zac ?_
 refine zan hp (fun τ' H' mm => ∃ (k : Nat), (k ≤ l.length ∧ ∀ j, j < k → nth l j ≠ w) ∧ mm = l.length - k ∧ H' = [.cells (avs (za6 w))] ∧ τ' = frL [(0, .d (zao l)), (3, .op 0 0), (5, .d (iD k))]) (l.length) ?_ ⟨0, ⟨Nat.zero_le _, fun j hj => by omega⟩, rfl, rfl, rfl⟩ ?_
 ·refine ybe ?_
  exact ybf
 rintro τ' H' mm ⟨k, ⟨hk, hno⟩, rfl, rfl, rfl⟩
 refine zaa fun K4 hK4 => ?_
 refine szq hp (fun _ hZ => jpu hZ) ?_
 refine zah rfl (fun ht => ?_) (fun ht => ?_)
 ·have hlt : k < l.length := by simp at ht; omega
  refine zaf (hK4 _ _ ?_)
  refine zaa fun K6 hK6 => ?_
  refine zac ?_
  refine zas zai hc za8 rfl (q := 0) (by kernel_rfl) (by kernel_rfl) fun K7 hK7 => ?_
  simp -dsimp -implicitDefEqProofs (disch := first | assumption | omega | (simp only [r_z, zab] <;> omega) | decide) only [r_r, ↓reduceIte, Nat.reduceEqDiff, Nat.reduceAdd, D.fix, Int.reduceToNat, Nat.reduceMul, Nat.reduceBNe, Nat.reduceBEq, zao, zbn, zbj, za6, r_e, zp7, zqv jt7, zqv jt7]
  refine hK7 _ _ ?_
  refine zah rfl (fun ht => ?_) (fun ht => ?_)
  ·rw [jaj] at ht
   have e := of_decide_eq_true ht
   refine szq hp (fun _ hZ => jv4 hZ) ?_
   refine zal ?_
   show closeA _ _ = _
   simp (disch := first | assumption | omega | (simp only [r_z, zab] <;> omega) | decide) only [r_c, Nat.reduceAdd, D.fix, ↓reduceIte, Nat.reduceEqDiff, zao, zbn, zbj, za6, r_e]
   rw [jgg hlt hno e]
  ·rw [jaj] at ht
   have e := of_decide_eq_false ht
   refine zaf (hK6 _ _ ?_)
   refine za5 hp zai hc rfl fun K9 hK9 => ?_
   refine jpu ?_
   refine hK9 _ _ ⟨_, _, _, ?_, ⟨k + 1, ⟨by omega, fun j hj => by rcases (show j < k ∨ j = k by omega) with h | h; exact hno j h; subst h; exact e⟩, rfl, rfl, rfl⟩, ?_⟩
   ·first | omega | (simp only [List.length_cons]; omega) | (dsimp only; omega)
   ·refine Rt.trans (Rt.gc (keep := [0]) (by decide) (by decide) (by simp [fzH, gcH])) ?_
    refine ybe ?_
    exact ybf
 ·exact absurd hw (jgm fun j hj => hno j (by simp at ht; omega))
theorem zpb {N : Nat} {al : List Nat} {k id off n : Nat} (h : al.contains (id - N) = true) : zfi N al (.os k id off n) = true := by
 unfold zfi; simp only [h, Bool.or_true]
theorem jpv {g : Gate} {gs : Gs} {k : Nat} (hk : k < gs.length) (h : ∀ j, j < k → nth gs j ≠ g) (e : nth gs k = g) {n : Nat} : zjg (2 + n) gs g = (gs, ((2 + n + k : Nat) : Int)) := by
 unfold zjg
 have hm : g ∈ gs := by rw [← e]; exact zb0 hk
 rw [if_pos hm, jga (x := g) hk h e]
theorem jpw {g : Gate} {gs : Gs} (h : ∀ j, j < gs.length → nth gs j ≠ g) {n : Nat} : zjg (2 + n) gs g = (gs ++ [g], ((2 + n + gs.length : Nat) : Int)) := by
 unfold zjg
 rw [if_neg (jgm h)]
theorem jgn {p q : Prop} (hq : q) (h : p = q := by
 conv => lhs; simp -dsimp -implicitDefEqProofs (disch := first | assumption | omega | (simp only [r_z, zae] <;> omega) | decide) only [r_r, ↓reduceIte, Nat.reduceEqDiff, Nat.reduceAdd, D.fix, Int.reduceToNat, Nat.reduceMul, Nat.reduceBNe, Nat.reduceBEq, zcn, zaj, zcc, zcd, zb8, r_e, zp7]) : p := h.mpr hq
theorem ybg {m : List Nat} {τ τ' : Fr} {H H' : zad} (h2 : H = H') (h : zgu τ τ' := by
 repeat (first | exact zar _ | refine zam ?_ (by first | rfl | (simp [r_f, zae]; done) | simp [r_f, zae, *]))) : Rt m τ H τ' H' := Rt.end h h2
theorem jv5 {p q : Prop} (hq : q) (h : p = q := by
 conv => lhs; simp -dsimp -implicitDefEqProofs (disch := first | assumption | omega | (simp only [r_z, zae] <;> omega) | decide) only [r_r, ↓reduceIte, Nat.reduceEqDiff, Nat.reduceAdd, D.fix, Int.reduceToNat, Nat.reduceMul, Nat.reduceBNe, Nat.reduceBEq, zcn, zaj, zcc, zcd, zb8, r_e, zef, zoz]) : p := h.mpr hq
theorem ybh {p : Prop} (h : p := by
 first | rfl | (simp only [r_g, Nat.reduceAdd, ↓reduceIte, Nat.reduceEqDiff, zcn, zaj, zcc, zcd, zb8, r_e]; first | done | rfl)) : p := h
theorem ybi {p q : Prop} (hq : q) (h : p = q := by
 conv => lhs; simp (disch := first | assumption | omega | (simp only [r_z, zae] <;> omega) | decide) only [r_c, Nat.reduceAdd, D.fix, ↓reduceIte, Nat.reduceEqDiff, zcn, zaj, zcc, zcd, zb8, r_e]) : p := h.mpr hq
theorem zka (n : Nat) (gs : Gs) (g : Gate) (hn : n ≤ 1000000) (hl : gs.length ≤ 1000000) : zaz Try.prog 111 [.agg (zcn n gs), .agg (zb8 g)] (.d (zc0 n (zjg (2 + n) gs g))) := by
 refine zaw (fn := Try.f111) (by kernel_rfl) Try.func111 rfl (Nat.le_of_ble_eq_true rfl) fun c hc hp => ?_
 refine za0 (τ' := frL [(0, .d (.agg (zcn n gs))), (1, .d (.agg (zb8 g)))]) (by repeat (first | exact zar _ | refine zam ?_ (by first | rfl | (simp [r_f, zae]; done) | simp [r_f, zae, *]))) ?_
 refine szq hp (fun _ hZ => jgn hZ) ?_
 refine zaa fun K2 hK2 => ?_
 refine zag hp zai hc rfl fun K3 hK3 => ?_
 simp -dsimp -implicitDefEqProofs (disch := first | assumption | omega | (simp only [r_z, zae] <;> omega) | decide) only [r_r, ↓reduceIte, Nat.reduceEqDiff, Nat.reduceAdd, D.fix, Int.reduceToNat, Nat.reduceMul, Nat.reduceBNe, Nat.reduceBEq, zcn, zaj, zcc, zcd, zb8, r_e]
 refine hK3 _ _ ?_
 refine zac ?_
 refine zan hp (fun τ' H' mm => ∃ (k : Nat), (k ≤ gs.length ∧ ∀ j, j < k → nth gs j ≠ g) ∧ mm = gs.length - k ∧ H' = [.cells (avs (zcn n gs)), .cells (avs (zb8 g)), .cells [.d (iD 0), .d (.val (.slice none 0 0)), .d (iD 0)]] ∧ τ' = frL [(2, .op 0 0), (3, .op 1 0), (4, .op 2 0), (5, .d (iD k))]) (gs.length) ?_ ⟨0, ⟨Nat.zero_le _, fun j hj => by omega⟩, rfl, rfl, rfl⟩ ?_
 ·refine ybg ?_
  exact ybh
 rintro τ' H' mm ⟨k, ⟨hk, hno⟩, rfl, rfl, rfl⟩
 refine zaa fun K4 hK4 => ?_
 refine szq hp (fun _ hZ => jgn hZ) ?_
 refine zah rfl (fun ht => ?_) (fun ht => ?_)
 ·have hlt : k < gs.length := by simp at ht; omega
  refine zaf (hK4 _ _ ?_)
  refine zaa fun K6 hK6 => ?_
  refine zac ?_
  refine zas zai hc za8 rfl (q := 0) (by kernel_rfl) (by kernel_rfl) fun K7 hK7 => ?_
  simp -dsimp -implicitDefEqProofs (disch := first | assumption | omega | (simp only [r_z, zae] <;> omega) | decide) only [r_r, ↓reduceIte, Nat.reduceEqDiff, Nat.reduceAdd, D.fix, Int.reduceToNat, Nat.reduceMul, Nat.reduceBNe, Nat.reduceBEq, zcn, zaj, zcc, zcd, zb8, r_e, zp7, zqv jui, zqv jui]
  refine hK7 _ _ ?_
  refine zah rfl (fun ht => ?_) (fun ht => ?_)
  ·rw [jak] at ht
   have e := of_decide_eq_true ht
   refine szq hp (fun _ hZ => jgn hZ) ?_
   refine zal ?_
   try dsimp only [zbm, zaq]
   refine zak rfl ?_
   refine jv5 ?_
   show closeA _ _ = _
   refine ybi ?_
   have e2 : (2 : Int) + n + k = ((2 + n + k : Nat) : Int) := by omega
   rw [jpv hlt hno e, e2]; rfl
  ·rw [jak] at ht
   have e := of_decide_eq_false ht
   refine zaf (hK6 _ _ ?_)
   refine za5 hp zai hc rfl fun K9 hK9 => ?_
   refine jgn ?_
   refine hK9 _ _ ⟨_, _, _, ?_, ⟨k + 1, ⟨by omega, fun j hj => by rcases (show j < k ∨ j = k by omega) with h | h; exact hno j h; subst h; exact e⟩, rfl, rfl, rfl⟩, ?_⟩
   ·first | omega | (simp only [List.length_cons]; omega) | (dsimp only; omega)
   ·refine Rt.trans (Rt.gc (keep := [0,1,2]) (by decide) (by decide) (by simp [fzH, gcH])) ?_
    refine ybg ?_
    exact ybh
 ·have hkk : k = gs.length := by simp at ht; omega
  subst hkk
  refine zau (hK2 _ _ ?_)
  refine zas zai hc za8 rfl (q := 4) (by kernel_rfl) (by kernel_rfl) fun K10 hK10 => ?_
  simp -dsimp -implicitDefEqProofs (disch := first | assumption | omega | (simp only [r_z, zae] <;> omega) | decide) only [r_r, ↓reduceIte, Nat.reduceEqDiff, Nat.reduceAdd, D.fix, Int.reduceToNat, Nat.reduceMul, Nat.reduceBNe, Nat.reduceBEq, zcn, zaj, zcc, zcd, zb8, r_e, zpb, List.filterMap_cons, zp7]
  refine hK10 _ _ ?_
  refine szq hp (fun _ hZ => jgn hZ) ?_
  refine zal ?_
  try dsimp only [zbm, zaq]
  refine zak rfl ?_
  refine jv5 ?_
  show closeA _ _ = _
  refine ybi ?_
  have e1 : (gs.flatMap zb8 ++ [iD g.op] ++ [iD g.a] ++ [iD g.b] ++ [iD g.c] ++ [iD g.n]).map D.fix = (gs ++ [g]).flatMap zb8 := by
   rw [← zz1 (gs ++ [g])]; simp [zb8]
  have e2 : (1 : Int) + n + ((gs.length + 1 : Nat) : Int) = ((2 + n + gs.length : Nat) : Int) := by omega
  rw [jpw hno, e2]
  unfold zc0 zc7 zaj
  rw [← e1, List.length_append]; rfl
theorem jv6 {p q : Prop} (hq : q) (h : p = q := by
 conv => lhs; simp -dsimp -implicitDefEqProofs (disch := first | assumption | omega | (simp only [r_z, zae] <;> omega) | decide) only [r_r, ↓reduceIte, Nat.reduceEqDiff, Nat.reduceAdd, D.fix, Int.reduceToNat, Nat.reduceMul, Nat.reduceBNe, Nat.reduceBEq, zcn, zaj, zzz, zz0, zb8, zp7]) : p := h.mpr hq
theorem jj2 {p q r : Prop} (e : r) (hq : q) (h : r → p = q := by
 intro hY
 conv => lhs; simp -dsimp -implicitDefEqProofs (disch := first | assumption | omega | (simp only [r_z, zae] <;> omega) | decide) only [r_r, ↓reduceIte, Nat.reduceEqDiff, Nat.reduceAdd, D.fix, Int.reduceToNat, Nat.reduceMul, Nat.reduceBNe, Nat.reduceBEq, zcn, zaj, zzz, zz0, zb8, zp7, hY]) : p := (h e).mpr hq
theorem jv7 {p q : Prop} (hq : q) (h : p = q := by
 conv => lhs; simp -dsimp -implicitDefEqProofs (disch := first | assumption | omega | (simp only [r_z, zae] <;> omega) | decide) only [r_r, ↓reduceIte, Nat.reduceEqDiff, Nat.reduceAdd, D.fix, Int.reduceToNat, Nat.reduceMul, Nat.reduceBNe, Nat.reduceBEq, zcn, zaj, zzz, zz0, zb8]) : p := h.mpr hq
theorem jzx {p q : Prop} (hq : q) (h : p = q := by
 conv => lhs; simp (disch := first | assumption | omega | (simp only [r_z, zae] <;> omega) | decide) only [r_c, Nat.reduceAdd, D.fix, ↓reduceIte, Nat.reduceEqDiff, zcn, zaj, zzz, zz0, zb8]) : p := h.mpr hq
theorem zsz (n : Nat) (gs : Gs) (x : Int) (hn : n ≤ 1000000) (hl : gs.length ≤ 1000000) (h0 : 0 ≤ x) (hx : x < ((2 + n : Nat) : Int) + gs.length) : zaz Try.prog 137 [.agg (zcn n gs), iD x] (.d (iD (zjh (2 + n) gs x))) := by
 refine zaw (fn := Try.f137) (by kernel_rfl) Try.func137 rfl (Nat.le_of_ble_eq_true rfl) fun c hc hp => ?_
 refine za0 (τ' := frL [(0, .d (.agg (zcn n gs))), (1, .d (iD x))]) (by repeat (first | exact zar _ | refine zam ?_ (by first | rfl | (simp [r_f, zae]; done) | simp [r_f, zae, *]))) ?_
 refine szq hp (fun _ hZ => jv6 hZ) ?_
 refine zag hp zai hc rfl fun K2 hK2 => ?_
 by_cases hg : ((2 + n : Nat) : Int) ≤ x
 ·obtain ⟨k, hk⟩ : ∃ k : Nat, x - 2 - (n : Int) = (k : Int) := ⟨(x - 2 - n).toNat, by omega⟩
  have hlt : k < gs.length := by omega
  have q : decide ((k : Int) ≥ 0) = true := decide_eq_true (by omega)
  have hkk : (x - ((2 + n : Nat) : Int)).toNat = k := by omega
  have hin : zjh (2 + n) gs x = if (nth gs k).op = 1 then (nth gs k).a else -1 := by
   unfold zjh; rw [hkk]
   by_cases h1 : (nth gs k).op = 1
   ·rw [if_pos ⟨hg, h1⟩, if_pos h1]
   ·rw [if_neg (fun e => h1 e.2), if_neg h1]
  refine jj2 hk ?_
  refine hK2 _ _ ?_
  refine zaa fun K3 hK3 => ?_
  refine szq hp (fun _ hZ => jj2 q hZ) ?_
  refine zah rfl (fun ht => ?_) (fun ht => ?_)
  ·refine szq hp (fun _ hZ => jv6 hZ) ?_
   refine zal ?_
   show closeA _ _ = _
   refine jzx ?_
   have ht' : (nth gs k).op = 1 := by simpa using ht
   rw [hin, if_pos ht']
  ·refine zaf (hK3 _ _ ?_)
   refine szq hp (fun _ hZ => jv7 hZ) ?_
   refine zal ?_
   show closeA _ _ = _
   refine jzx ?_
   have ht' : ¬ (nth gs k).op = 1 := by simpa using ht
   rw [hin, if_neg ht']
 ·have hin : zjh (2 + n) gs x = -1 := by
   unfold zjh; rw [if_neg (fun e => hg e.1)]
  have hlt : x - 2 - (n : Int) < 0 := by omega
  have q : decide (x - 2 - (n : Int) ≥ 0) = false := decide_eq_false (by omega)
  have hk : True := trivial
  refine jj2 hk ?_
  refine hK2 _ _ ?_
  refine zaa fun K7 hK7 => ?_
  refine szq hp (fun _ hZ => jj2 q hZ) ?_
  refine szf ?_
  refine zaf (hK7 _ _ ?_)
  refine szq hp (fun _ hZ => jv7 hZ) ?_
  refine zal ?_
  show closeA _ _ = _
  refine jzx ?_
  rw [hin]
theorem jgo {p q r : Prop} (e : r) (hq : q) (h : r → p = q := by
 intro hY
 conv => lhs; simp -dsimp -implicitDefEqProofs (disch := first | assumption | omega | (simp only [r_z] <;> omega) | decide) only [r_r, ↓reduceIte, Nat.reduceEqDiff, Nat.reduceAdd, D.fix, Int.reduceToNat, Nat.reduceMul, Nat.reduceBNe, Nat.reduceBEq, zcn, zaj, zp7, hY]) : p := (h e).mpr hq
theorem ybj {p q : Prop} (hq : q) (h : p = q := by
 conv => lhs; simp (disch := first | assumption | omega | (simp only [r_z] <;> omega) | decide) only [r_c, Nat.reduceAdd, D.fix, ↓reduceIte, Nat.reduceEqDiff, zcn, zaj]) : p := h.mpr hq
theorem jgp (n : Nat) (gs : Gs) (x y : Int) (hn : n ≤ 1000000) (hl : gs.length ≤ 1000000) (hx : NdB (2 + n) gs x) (hy : NdB (2 + n) gs y) : zaz Try.prog 110 [.agg (zcn n gs), iD x, iD y] (.d (oD (zo6 (2 + n) gs x y))) := by
 have c1 := zsz n gs x hn hl hx.1 hx.2
 have c2 := zsz n gs y hn hl hy.1 hy.2
 refine zaw (fn := Try.f110) (by kernel_rfl) Try.func110 rfl (Nat.le_of_ble_eq_true rfl) fun c hc hp => ?_
 refine za0 (τ' := frL [(0, .d (.agg (zcn n gs))), (1, .d (iD x)), (2, .d (iD y))]) (by repeat (first | exact zar _ | refine zam ?_ (by first | rfl | (simp [r_f]; done) | simp [r_f, *]))) ?_
 refine zag hp zai hc rfl fun K1 hK1 => ?_
 simp -dsimp -implicitDefEqProofs (disch := first | assumption | omega | (simp only [r_z] <;> omega) | decide) only [r_r, ↓reduceIte, Nat.reduceEqDiff, Nat.reduceAdd, D.fix, Int.reduceToNat, Nat.reduceMul, Nat.reduceBNe, Nat.reduceBEq, zcn, zaj, zp7]
 refine hK1 _ _ ?_
 refine zag hp zai hc rfl fun K2 hK2 => ?_
 by_cases hg : zjh (2 + n) gs x = y
 ·have q : (zjh (2 + n) gs x == y) = true := by simpa using hg
  have e : zo6 (2 + n) gs x y = true := by unfold zo6; simp [hg]
  refine jgo q ?_
  refine za1 (c1) rfl ?_
  refine jgo q ?_
  refine hK2 _ _ ?_
  refine zal ?_
  show closeA _ _ = _
  refine ybj ?_
  rw [e]
 ·have q : (zjh (2 + n) gs x == y) = false := by simpa using hg
  have e : zo6 (2 + n) gs x y = (zjh (2 + n) gs y == x) := by
   unfold zo6; rw [Bool.eq_iff_iff]; simp [hg]
  refine jgo q ?_
  refine za1 (c1) rfl ?_
  refine jgo q ?_
  refine za1 (c2) rfl ?_
  refine jgo q ?_
  refine hK2 _ _ ?_
  refine zal ?_
  show closeA _ _ = _
  refine ybj ?_
  rw [e]
theorem zs0 {p q : Prop} (hq : q) (h : p = q := by
 conv => lhs; simp -dsimp -implicitDefEqProofs (disch := first | assumption | omega | (simp only [r_z] <;> omega) | decide) only [r_r, ↓reduceIte, Nat.reduceEqDiff, Nat.reduceAdd, D.fix, Int.reduceToNat, Nat.reduceMul, Nat.reduceBNe, Nat.reduceBEq, zcn, zaj, zc0, zc7, zp7]) : p := h.mpr hq
theorem jgq {p q : Prop} (hq : q) (h : p = q := by
 conv => lhs; simp -dsimp -implicitDefEqProofs (disch := first | assumption | omega | (simp only [r_z] <;> omega) | decide) only [r_r, ↓reduceIte, Nat.reduceEqDiff, Nat.reduceAdd, D.fix, Int.reduceToNat, Nat.reduceMul, Nat.reduceBNe, Nat.reduceBEq, zcn, zaj, zc0, zc7, zef, zoz]) : p := h.mpr hq
theorem jzy {p q : Prop} (hq : q) (h : p = q := by
 conv => lhs; simp (disch := first | assumption | omega | (simp only [r_z] <;> omega) | decide) only [r_c, Nat.reduceAdd, D.fix, ↓reduceIte, Nat.reduceEqDiff, zcn, zaj, zc0, zc7]) : p := h.mpr hq
theorem zmh (n : Nat) (gs : Gs) (x : Int) (hn : n ≤ 1000000) (hl : gs.length ≤ 900000) (hx : NdB (2 + n) gs x) : zaz Try.prog 107 [.agg (zcn n gs), iD x] (.d (zc0 n (zj7 (2 + n) gs x))) := by
 have h0 := hx.1; have h1 := hx.2
 have c1 := zsz n gs x hn (by omega) hx.1 hx.2
 have c2 := zka n gs ⟨1, x, 0, 0, 0⟩ hn (by omega)
 refine zaw (fn := Try.f107) (by kernel_rfl) Try.func107 rfl (Nat.le_of_ble_eq_true rfl) fun c hc hp => ?_
 refine za0 (τ' := frL [(0, .d (.agg (zcn n gs))), (1, .d (iD x))]) (by repeat (first | exact zar _ | refine zam ?_ (by first | rfl | (simp [r_f]; done) | simp [r_f, *]))) ?_
 refine szq hp (fun _ hZ => zs0 hZ) ?_
 refine zaa fun K2 hK2 => ?_
 refine szq hp (fun _ hZ => zs0 hZ) ?_
 refine zah rfl (fun ht => ?_) (fun ht => ?_)
 ·have n2 : x < 2 := by simpa using ht
  refine szq hp (fun _ hZ => zs0 hZ) ?_
  refine zal ?_
  try dsimp only [zbm, zaq]
  refine zak rfl ?_
  refine jgq ?_
  show closeA _ _ = _
  refine jzy ?_
  simp only [zj7, if_pos n2]
 ·have n2 : ¬ x < 2 := by simpa using ht
  refine zaf (hK2 _ _ ?_)
  refine zaa fun K5 hK5 => ?_
  refine zag hp zai hc rfl fun K6 hK6 => ?_
  refine zs0 ?_
  refine za1 (c1) rfl ?_
  refine zs0 ?_
  refine hK6 _ _ ?_
  refine zah rfl (fun ht => ?_) (fun ht => ?_)
  ·have n3 : 0 ≤ zjh (2 + n) gs x := by simpa using ht
   refine zas zai hc za8 rfl (q := 0) (by kernel_rfl) (by kernel_rfl) fun K7 hK7 => ?_
   refine zs0 ?_
   refine za1 (c1) rfl ?_
   refine zs0 ?_
   refine hK7 _ _ ?_
   refine zal ?_
   try dsimp only [zbm, zaq]
   refine zak rfl ?_
   refine jgq ?_
   show closeA _ _ = _
   refine jzy ?_
   simp only [zj7, if_neg n2, if_pos n3]
  ·have n3 : ¬ 0 ≤ zjh (2 + n) gs x := by simpa using ht
   refine zaf (hK5 _ _ ?_)
   refine zag hp zai hc rfl fun K8 hK8 => ?_
   refine zs0 ?_
   refine za1 (c2) rfl ?_
   refine zs0 ?_
   refine hK8 _ _ ?_
   refine zal ?_
   try dsimp only [zbm, zaq]
   refine zak rfl ?_
   refine jgq ?_
   show closeA _ _ = _
   refine jzy ?_
   simp only [zj7, if_neg n2, if_neg n3]
/- The reference's builder: operators with two arguments. -/
theorem jv8 : ((((type_of% @zem) ∧ ((type_of% @zen) ∧ (type_of% @zef))) ∧ ((type_of% @zgg) ∧ ((type_of% @zjp) ∧ (type_of% @zjq)))) ∧ (((type_of% @zey) ∧ ((type_of% @zez) ∧ (type_of% @zmw))) ∧ (((type_of% @zff) ∧ (type_of% @zfg)) ∧ ((type_of% @zif) ∧ (type_of% @zmv))))) := ⟨⟨⟨@zem, ⟨@zen, @zef⟩⟩, ⟨@zgg, ⟨@zjp, @zjq⟩⟩⟩, ⟨⟨@zey, ⟨@zez, @zmw⟩⟩, ⟨⟨@zff, @zfg⟩, ⟨@zif, @zmv⟩⟩⟩⟩
theorem jj3 {n : Nat} {gs : Gs} (h : GI (2 + n) gs) {y : Int} (hy : NdB (2 + n) gs y) : zo6 (2 + n) gs 0 y = false := by
 have y0 := hy.1; have y1 := hy.2
 unfold zo6
 have e1 : zjh (2 + n) gs 0 ≠ y := by
  unfold zjh; rw [if_neg (fun e => by have := e.1; omega)]; omega
 have e2 : zjh (2 + n) gs y ≠ 0 := by
  unfold zjh
  split
  ·rename_i e
   have hk : (y - ((2 + n : Nat) : Int)).toNat < gs.length := by have := e.1; omega
   have := ((h.no _ hk).nt e.2).1
   omega
  ·omega
 simp [e1, e2]
theorem zm2 {p q : Prop} (hq : q) (h : p = q := by
 conv => lhs; simp -dsimp -implicitDefEqProofs (disch := first | assumption | omega | (simp only [r_z] <;> omega) | decide) only [r_r, ↓reduceIte, Nat.reduceEqDiff, Nat.reduceAdd, D.fix, Int.reduceToNat, Nat.reduceMul, Nat.reduceBNe, Nat.reduceBEq, zcn, zaj, zc0, zc7, jv8]) : p := h.mpr hq
theorem jgr {p q r : Prop} (e : r) (hq : q) (h : r → p = q := by
 intro hY
 conv => lhs; simp -dsimp -implicitDefEqProofs (disch := first | assumption | omega | (simp only [r_z] <;> omega) | decide) only [r_r, ↓reduceIte, Nat.reduceEqDiff, Nat.reduceAdd, D.fix, Int.reduceToNat, Nat.reduceMul, Nat.reduceBNe, Nat.reduceBEq, zcn, zaj, zc0, zc7, jv8, hY]) : p := (h e).mpr hq
theorem jbw {p q : Prop} (hq : q) (h : p = q := by
 conv => lhs; simp -dsimp -implicitDefEqProofs (disch := first | assumption | omega | (simp only [r_z] <;> omega) | decide) only [r_r, ↓reduceIte, Nat.reduceEqDiff, Nat.reduceAdd, D.fix, Int.reduceToNat, Nat.reduceMul, Nat.reduceBNe, Nat.reduceBEq, zcn, zaj, zc0, zc7, zef, zoz]) : p := h.mpr hq
theorem jv9 {p q : Prop} (hq : q) (h : p = q := by
 conv => lhs; simp (disch := first | assumption | omega | (simp only [r_z] <;> omega) | decide) only [r_c, Nat.reduceAdd, D.fix, ↓reduceIte, Nat.reduceEqDiff, zcn, zaj, zc0, zc7]) : p := h.mpr hq
theorem jnm (n : Nat) (gs : Gs) (x y : Int) (hn : n ≤ 1000000) (hl : gs.length ≤ 900000) (hg0 : GI (2 + n) gs) (hx : NdB (2 + n) gs x) (hy : NdB (2 + n) gs y) (hxy : x ≤ y) : zaz Try.prog 78 [.agg (zcn n gs), iD x, iD y] (.d (zc0 n (zg4 (2 + n) gs x y))) := by
 have x0 := hx.1; have x1 := hx.2; have y0 := hy.1; have y1 := hy.2
 have hopp := jgp n gs x y hn (by omega) hx hy
 have hgt := zka n gs ⟨2, x, y, 0, 0⟩ hn (by omega)
 have mn : min x y = x := by omega
 have mx : max x y = y := by omega
 refine zaw (fn := Try.f78) (by kernel_rfl) Try.func78 rfl (Nat.le_of_ble_eq_true rfl) fun c hc hp => ?_
 refine za0 (τ' := frL [(0, .d (.agg (zcn n gs))), (1, .d (iD x)), (2, .d (iD y))]) (by repeat (first | exact zar _ | refine zam ?_ (by first | rfl | (simp [r_f]; done) | simp [r_f, *]))) ?_
 refine szq hp (fun _ hZ => zm2 hZ) ?_
 refine zaa fun K2 hK2 => ?_
 refine szq hp (fun _ hZ => zm2 hZ) ?_
 refine zah rfl (fun ht => ?_) (fun ht => ?_)
 ·exact absurd (of_decide_eq_true ht) (by omega)
 ·refine zaf (hK2 _ _ ?_)
  refine zaa fun K4 hK4 => ?_
  refine zag hp zai hc rfl fun K5 hK5 => ?_
  by_cases hg : x = 0
  ·have q : (x == 0) = true := by simp [hg]
   refine jgr q ?_
   refine hK5 _ _ ?_
   refine szt ?_
   refine szq hp (fun _ hZ => zm2 hZ) ?_
   refine zal ?_
   try dsimp only [zbm, zaq]
   refine zak rfl ?_
   refine jbw ?_
   show closeA _ _ = _
   refine jv9 ?_
   simp only [zg4, jnb, mn, mx, if_pos (Or.inl hg : x = 0 ∨ zo6 (2 + n) gs x y = true)]
  ·have q : (x == 0) = false := by simp [hg]
   refine jgr q ?_
   refine za1 (hopp) rfl ?_
   refine jgr q ?_
   refine hK5 _ _ ?_
   refine zah rfl (fun ht => ?_) (fun ht => ?_)
   ·have ho : x = 0 ∨ zo6 (2 + n) gs x y = true := .inr ht
    refine szq hp (fun _ hZ => zm2 hZ) ?_
    refine zal ?_
    try dsimp only [zbm, zaq]
    refine zak rfl ?_
    refine jbw ?_
    show closeA _ _ = _
    refine jv9 ?_
    simp only [zg4, jnb, mn, mx, if_pos ho]
   ·have ho : ¬ (x = 0 ∨ zo6 (2 + n) gs x y = true) := fun e => by rcases e with e | e; exact hg e; rw [ht] at e; cases e
    refine zaf (hK4 _ _ ?_)
    refine zaa fun K8 hK8 => ?_
    refine zag hp zai hc rfl fun K9 hK9 => ?_
    by_cases hg : x = 1
    ·have q5 : (x == 1) = true := by simp [hg]
     refine jgr q5 ?_
     refine hK9 _ _ ?_
     refine szt ?_
     refine szq hp (fun _ hZ => zm2 hZ) ?_
     refine zal ?_
     try dsimp only [zbm, zaq]
     refine zak rfl ?_
     refine jbw ?_
     show closeA _ _ = _
     refine jv9 ?_
     simp only [zg4, jnb, mn, mx, if_neg ho, if_pos (Or.inl hg : x = 1 ∨ x = y)]
    ·have q5 : (x == 1) = false := by simp [hg]
     refine jgr q5 ?_
     refine hK9 _ _ ?_
     refine zah rfl (fun ht => ?_) (fun ht => ?_)
     ·have h2 : x = 1 ∨ x = y := .inr (by simpa using ht)
      refine szq hp (fun _ hZ => zm2 hZ) ?_
      refine zal ?_
      try dsimp only [zbm, zaq]
      refine zak rfl ?_
      refine jbw ?_
      show closeA _ _ = _
      refine jv9 ?_
      simp only [zg4, jnb, mn, mx, if_neg ho, if_pos h2]
     ·have h2 : ¬ (x = 1 ∨ x = y) := fun e => by rcases e with e | e; exact hg e; simp [e] at ht
      refine zaf (hK8 _ _ ?_)
      refine zag hp zai hc rfl fun K12 hK12 => ?_
      refine zm2 ?_
      refine za1 (hgt) rfl ?_
      refine zm2 ?_
      refine hK12 _ _ ?_
      refine zal ?_
      try dsimp only [zbm, zaq]
      refine zak rfl ?_
      refine jbw ?_
      show closeA _ _ = _
      refine jv9 ?_
      simp only [zg4, jnb, mn, mx, if_neg ho, if_neg h2]
theorem jwa (n : Nat) (gs : Gs) (x y : Int) (hn : n ≤ 1000000) (hl : gs.length ≤ 900000) (hg0 : GI (2 + n) gs) (hx : NdB (2 + n) gs x) (hy : NdB (2 + n) gs y) (hxy : y < x) : zaz Try.prog 78 [.agg (zcn n gs), iD x, iD y] (.d (zc0 n (zg4 (2 + n) gs x y))) := by
 have hs := jnm n gs y x hn hl hg0 hy hx (by omega)
 have e : zg4 (2 + n) gs y x = zg4 (2 + n) gs x y := by unfold zg4; rw [Int.min_comm, Int.max_comm]
 rw [e] at hs
 refine zaw (fn := Try.f78) (by kernel_rfl) Try.func78 rfl (Nat.le_of_ble_eq_true rfl) fun c hc hp => ?_
 refine za0 (τ' := frL [(0, .d (.agg (zcn n gs))), (1, .d (iD x)), (2, .d (iD y))]) (by repeat (first | exact zar _ | refine zam ?_ (by first | rfl | (simp [r_f]; done) | simp [r_f, *]))) ?_
 refine szq hp (fun _ hZ => zm2 hZ) ?_
 refine zaa fun K2 hK2 => ?_
 refine szq hp (fun _ hZ => zm2 hZ) ?_
 refine zah rfl (fun ht => ?_) (fun ht => ?_)
 ·refine zag hp zai hc rfl fun K4 hK4 => ?_
  refine zm2 ?_
  refine za1 (hs) rfl ?_
  refine zm2 ?_
  refine hK4 _ _ ?_
  refine zal ?_
  try dsimp only [zbm, zaq]
  refine zak rfl ?_
  refine jbw ?_
  show closeA _ _ = _
  simp (disch := first | assumption | omega | (simp only [r_z] <;> omega) | decide) only [r_c, Nat.reduceAdd, D.fix, ↓reduceIte, Nat.reduceEqDiff, zcn, zaj, zc0, zc7]
 ·exact absurd hxy (of_decide_eq_false ht)
theorem zhp (n : Nat) (gs : Gs) (x y : Int) (hn : n ≤ 1000000) (hl : gs.length ≤ 900000) (hg0 : GI (2 + n) gs) (hx : NdB (2 + n) gs x) (hy : NdB (2 + n) gs y) : zaz Try.prog 78 [.agg (zcn n gs), iD x, iD y] (.d (zc0 n (zg4 (2 + n) gs x y))) := by
 by_cases h : x ≤ y
 ·exact jnm n gs x y hn hl hg0 hx hy h
 ·exact jwa n gs x y hn hl hg0 hx hy (by omega)
end Go.Proofs.Ytapjobndmmkanaa
