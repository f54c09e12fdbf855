/- The reference's builder: input wires. -/
import Derived.Test.YtapjobndmmkanaaQr
import Derived.Test.YtapjobndmmkanaaWf
import Derived.Test.YtapjobndmmkanaaVi
set_option linter.unusedVariables false
set_option linter.unusedSimpArgs false
set_option maxRecDepth 100000
set_option maxHeartbeats 4000000
namespace Go.Proofs.Ytapjobndmmkanaa
open Go Go.RowKit
section
theorem jxj : (((((type_of% @jbb) ∧ (type_of% @zgr)) ∧ ((type_of% @zpq) ∧ ((type_of% @zpr) ∧ (type_of% @zup)))) ∧ (((type_of% @zev) ∧ ((type_of% @zew) ∧ (type_of% @zix))) ∧ ((type_of% @zmu) ∧ ((type_of% @zfc) ∧ (type_of% @zfd))))) ∧ ((((type_of% @zfe) ∧ (type_of% @zms)) ∧ ((type_of% @zgs) ∧ ((type_of% @zpu) ∧ (type_of% @zpv)))) ∧ (((type_of% @zpw) ∧ ((type_of% @ziz) ∧ (type_of% @zgt))) ∧ ((type_of% @zpx) ∧ ((type_of% @zpy) ∧ (type_of% @zur)))))) := ⟨⟨⟨⟨@jbb, @zgr⟩, ⟨@zpq, ⟨@zpr, @zup⟩⟩⟩, ⟨⟨@zev, ⟨@zew, @zix⟩⟩, ⟨@zmu, ⟨@zfc, @zfd⟩⟩⟩⟩, ⟨⟨⟨@zfe, @zms⟩, ⟨@zgs, ⟨@zpu, @zpv⟩⟩⟩, ⟨⟨@zpw, ⟨@ziz, @zgt⟩⟩, ⟨@zpx, ⟨@zpy, @zur⟩⟩⟩⟩⟩
theorem jhc {l : List PTake} {k : Nat} (h : k < l.length) : (l.flatMap ptC)[k * 9 + 1]? = some (iD (nth l k).w) := (zcq (j := 1) ybv h (by omega)).trans rfl
section
variable {p : Pr}
theorem jkp (h : PrOk p) {i : Nat} (hi : i < p.regs.length) : (nth p.regs i).w ≤ 8 := by
 have := (h.ct.r i (by simpa [ctP] using hi)).2
 rwa [show nth (ctP p).regs i = (nth p.regs i).w from jpt hi] at this
theorem jql (h : PrOk p) {i : Nat} (hi : i < p.takes.length) : (nth p.takes i).w ≤ 8 := by
 have := (h.ct.t i (by simpa [ctP] using hi)).2
 rwa [jzw hi] at this
theorem zwx (h : PrOk p) : ∀ k, k ≤ p.regs.length → (zpg p k).length ≤ 8 * k
 | 0, _ => by simp [zpg]
 | k + 1, hk => by have := zwx h k (by omega); have := jkp h (i := k) (by omega); rw [zpg, List.length_append, za9]; omega
theorem zwy (h : PrOk p) : ∀ k, k ≤ p.takes.length → (zmg p k).length ≤ 800 + 9 * k
 | 0, _ => by have := zwx h _ (Nat.le_refl _); have := h.rl; rw [zmg]; omega
 | k + 1, hk => by have := zwy h k (by omega); have := jql h (i := k) (by omega); rw [zmg, List.length_append, List.length_append, za9, za9]; omega
theorem jhd (h : PrOk p) : ∀ k, k ≤ p.puts.length → (zoa p k).length ≤ 1700 + k
 | 0, _ => by have := zwy h _ (Nat.le_refl _); have := h.tl; rw [zoa]; omega
 | k + 1, hk => by have := jhd h k (by omega); rw [zoa, List.length_append, za9]; omega
end
theorem jxk (kind i : Int) : zji kind i 1 = [⟨kind, i, 0⟩] := rfl
theorem zk1 {p q : Prop} (hq : q) (h : p = q := by
 conv => lhs; simp -dsimp -implicitDefEqProofs (disch := first | assumption | omega | (simp only [r_z, zab, za9] <;> omega) | decide) only [r_r, ↓reduceIte, Nat.reduceEqDiff, Nat.reduceAdd, D.fix, Int.reduceToNat, Nat.reduceMul, Nat.reduceBNe, Nat.reduceBEq, zdi, zbp, sD, zao, jxj]) : p := h.mpr hq
theorem jb7 {p q : Prop} (hq : q) (h : p = q := by
 conv => lhs; simp -dsimp -implicitDefEqProofs (disch := first | assumption | omega | (simp only [r_z, zab, za9] <;> omega) | decide) only [r_r, ↓reduceIte, Nat.reduceEqDiff, Nat.reduceAdd, D.fix, Int.reduceToNat, Nat.reduceMul, Nat.reduceBNe, Nat.reduceBEq, zdi, zbp, sD, zao]) : p := h.mpr hq
theorem jhe {m : List Nat} {τ τ' : Fr} {H H' : zad} (h2 : H = H') (h : zgu τ τ' := by
 repeat (first | exact zar _ | refine zam ?_ (by first | rfl | (simp [r_f, zab, za9, zpg, zmg, zoa, za9, List.length_append, Nat.add_assoc]; done) | simp [r_f, zab, za9, zpg, zmg, zoa, za9, List.length_append, Nat.add_assoc, *]))) : Rt m τ H τ' H' := Rt.end h h2
theorem jxl {p q r : Prop} (e : r) (hq : q) (h : r → p = q := by
 intro hY
 conv => lhs; simp -dsimp -implicitDefEqProofs (disch := first | assumption | omega | (simp only [r_z, zab, za9] <;> omega) | decide) only [r_r, ↓reduceIte, Nat.reduceEqDiff, Nat.reduceAdd, D.fix, Int.reduceToNat, Nat.reduceMul, Nat.reduceBNe, Nat.reduceBEq, zdi, zbp, sD, zao, jxj, hY]) : p := (h e).mpr hq
theorem jxm (k : List Nat) {m : List Nat} {τ τ1 : Fr} {H H1 : zad} (h : Rt m (fun t => gcV k (τ t)) (gcH k H) τ1 H1) (a : ∀ i ∈ m, k[i]? = some i := by decide) (b : k.Nodup := by decide) (c : ∀ i ∈ k, i < H.length := by
 simp [fzH, gcH]) : Rt m τ H τ1 H1 := Rt.trans (Rt.gc a b c) h
theorem jxn {p : Prop} (h : p := by
 first | rfl | (simp only [r_g, Nat.reduceAdd, ↓reduceIte, Nat.reduceEqDiff, zdi, zbp, sD, zao]; first | done | rfl)) : p := h
theorem jyp {p q : Prop} (hq : q) (h : p = q := by
 conv => lhs; simp only [r_g, Nat.reduceAdd, ↓reduceIte, Nat.reduceEqDiff, zdi, zbp, sD, zao]) : p := h.mpr hq
theorem jxo (p : Pr) (h : PrOk p) : zaz Try.prog 75 [zdi p] (.d (zao (zbl p))) := by
 have hrl := h.rl; have htl := h.tl; have hql := h.ql
 refine zaw (fn := Try.f75) (by kernel_rfl) Try.func75 rfl (Nat.le_of_ble_eq_true rfl) fun c hc hp => ?_
 refine za0 (τ' := frL [(0, .d (zdi p))]) (by repeat (first | exact zar _ | refine zam ?_ (by first | rfl | (simp [r_f, zab, za9, zpg, zmg, zoa, za9, List.length_append, Nat.add_assoc]; done) | simp [r_f, zab, za9, zpg, zmg, zoa, za9, List.length_append, Nat.add_assoc, *]))) ?_
 refine szq hp (fun _ hZ => zk1 hZ) ?_
 refine szq hp (fun _ hZ => zk1 hZ) ?_
 refine zaa fun K3 hK3 => ?_
 refine szq hp (fun _ hZ => jb7 hZ) ?_
 refine zac ?_
 refine zan hp (fun τ' H' mm => ∃ (i : Nat), (i ≤ p.regs.length) ∧ mm = p.regs.length - i ∧ H' = [.cells (avs (zbp p)), .cells (avs ((zpg p i).flatMap za6))] ∧ τ' = frL [(1, .op 0 0), (3, .os 3 1 0 (zpg p i).length), (4, .d (iD i))]) (p.regs.length) ?_ ⟨0, Nat.zero_le _, rfl, rfl, rfl⟩ ?_
 ·refine jhe ?_
  exact jxn
 rintro τ' H' mm ⟨i, hi, rfl, rfl, rfl⟩
 refine zaa fun K5 hK5 => ?_
 refine szq hp (fun _ hZ => zk1 hZ) ?_
 refine zah rfl (fun ht => ?_) (fun ht => ?_)
 ·have hlt : i < p.regs.length := by simp at ht; omega
  have hw8 := jkp h hlt
  have hle := zwx h i hi
  have m1 := jxi hlt
  refine zaf (hK5 _ _ ?_)
  refine zaa fun K7 hK7 => ?_
  refine zac ?_
  refine szq hp (fun _ hZ => jb7 hZ) ?_
  refine zac ?_
  refine zan hp (fun τ' H' mm => ∃ (k : Nat), (k ≤ (nth p.regs i).w) ∧ mm = (nth p.regs i).w - k ∧ H' = [.cells (avs (zbp p)), .cells (avs ((zpg p i ++ zji 1 i k).flatMap za6))] ∧ τ' = frL [(1, .op 0 0), (3, .os 3 1 0 ((zpg p i).length + k)), (4, .d (iD i)), (5, .d (iD k))]) ((nth p.regs i).w) ?_ ⟨0, Nat.zero_le _, rfl, rfl, rfl⟩ ?_
  ·refine jhe ?_
   first | rfl | (simp [zji]; done) | (simp [zji]; rfl)
  rintro τ' H' mm ⟨k, hk, rfl, rfl, rfl⟩
  refine zaa fun K9 hK9 => ?_
  refine szq hp (fun _ hZ => jxl m1 hZ) ?_
  refine zah rfl (fun ht => ?_) (fun ht => ?_)
  ·have hlk : k < (nth p.regs i).w := by simp at ht; omega
   refine zaf (hK9 _ _ ?_)
   refine zaa fun K11 hK11 => ?_
   refine zac ?_
   refine szs hp (fun _ hZ => zk1 hZ) (hK11 _ _ ?_)
   refine za5 hp zai hc rfl fun K13 hK13 => ?_
   refine zk1 ?_
   refine hK13 _ _ ⟨_, _, _, ?_, ⟨k + 1, by omega, rfl, rfl, rfl⟩, ?_⟩
   ·first | omega | (simp only [List.length_cons]; omega) | (dsimp only; omega)
   ·refine jxm [0,3] ?_
    refine jhe ?_
    refine jyp ?_; simp [zi9, za6, iD, sD, zbp, avs]
  ·have hkk : k = (nth p.regs i).w := by simp at ht; omega
   subst hkk
   refine zau (hK7 _ _ ?_)
   refine za5 hp zai hc rfl fun K14 hK14 => ?_
   refine zk1 ?_
   refine hK14 _ _ ⟨_, _, _, ?_, ⟨i + 1, by omega, rfl, rfl, rfl⟩, ?_⟩
   ·first | omega | (simp only [List.length_cons]; omega) | (dsimp only; omega)
   ·refine jxm [0,1] ?_
    refine jhe ?_
    exact jxn
 ·have hii : i = p.regs.length := by simp at ht; omega
  subst hii
  refine zau (hK3 _ _ ?_)
  refine zaa fun K15 hK15 => ?_
  refine szq hp (fun _ hZ => jb7 hZ) ?_
  refine zac ?_
  refine zan hp (fun τ' H' mm => ∃ (i : Nat), (i ≤ p.takes.length) ∧ mm = p.takes.length - i ∧ H' = [.cells (avs (zbp p)), .cells (avs ((zmg p i).flatMap za6))] ∧ τ' = frL [(1, .op 0 0), (3, .os 3 1 0 (zmg p i).length), (6, .d (iD i))]) (p.takes.length) ?_ ⟨0, Nat.zero_le _, rfl, rfl, rfl⟩ ?_
  ·refine jhe ?_
   exact jxn
  rintro τ' H' mm ⟨i, hi, rfl, rfl, rfl⟩
  refine zaa fun K17 hK17 => ?_
  refine szq hp (fun _ hZ => zk1 hZ) ?_
  refine zah rfl (fun ht => ?_) (fun ht => ?_)
  ·have hlt : i < p.takes.length := by simp at ht; omega
   have hw8 := jql h hlt
   have hle := zwy h i hi
   have m1 := jhc hlt
   refine zaf (hK17 _ _ ?_)
   refine zaa fun K19 hK19 => ?_
   refine zac ?_
   refine zaa fun K20 hK20 => ?_
   refine szq hp (fun _ hZ => jb7 hZ) ?_
   refine zac ?_
   refine zan hp (fun τ' H' mm => ∃ (k : Nat), (k ≤ (nth p.takes i).w) ∧ mm = (nth p.takes i).w - k ∧ H' = [.cells (avs (zbp p)), .cells (avs ((zmg p i ++ zji 2 i k).flatMap za6))] ∧ τ' = frL [(1, .op 0 0), (3, .os 3 1 0 ((zmg p i).length + k)), (6, .d (iD i)), (7, .d (iD k))]) ((nth p.takes i).w) ?_ ⟨0, Nat.zero_le _, rfl, rfl, rfl⟩ ?_
   ·refine jhe ?_
    first | rfl | (simp [zji]; done) | (simp [zji]; rfl)
   rintro τ' H' mm ⟨k, hk, rfl, rfl, rfl⟩
   refine zaa fun K22 hK22 => ?_
   refine szq hp (fun _ hZ => jxl m1 hZ) ?_
   refine zah rfl (fun ht => ?_) (fun ht => ?_)
   ·have hlk : k < (nth p.takes i).w := by simp at ht; omega
    refine zaf (hK22 _ _ ?_)
    refine zaa fun K24 hK24 => ?_
    refine zac ?_
    refine szs hp (fun _ hZ => zk1 hZ) (hK24 _ _ ?_)
    refine za5 hp zai hc rfl fun K26 hK26 => ?_
    refine zk1 ?_
    refine hK26 _ _ ⟨_, _, _, ?_, ⟨k + 1, by omega, rfl, rfl, rfl⟩, ?_⟩
    ·first | omega | (simp only [List.length_cons]; omega) | (dsimp only; omega)
    ·refine jxm [0,3] ?_
     refine jhe ?_
     refine jyp ?_; simp [zi9, za6, iD, sD, zbp, avs]
   ·have hkk : k = (nth p.takes i).w := by simp at ht; omega
    subst hkk
    refine zau (hK20 _ _ ?_)
    refine szs hp (fun _ hZ => zk1 hZ) (hK19 _ _ ?_)
    refine za5 hp zai hc rfl fun K28 hK28 => ?_
    refine zk1 ?_
    refine hK28 _ _ ⟨_, _, _, ?_, ⟨i + 1, by omega, rfl, rfl, rfl⟩, ?_⟩
    ·first | omega | (simp only [List.length_cons]; omega) | (dsimp only; omega)
    ·refine jxm [0,3] ?_
     refine jhe ?_
     refine jyp ?_; simp [zmg, jxk, za6, iD, sD, zbp, avs]
  ·have hii : i = p.takes.length := by simp at ht; omega
   subst hii
   refine zau (hK15 _ _ ?_)
   refine zaa fun K29 hK29 => ?_
   refine szq hp (fun _ hZ => jb7 hZ) ?_
   refine zac ?_
   refine zan hp (fun τ' H' mm => ∃ (i : Nat), (i ≤ p.puts.length) ∧ mm = p.puts.length - i ∧ H' = [.cells (avs (zbp p)), .cells (avs ((zoa p i).flatMap za6))] ∧ τ' = frL [(1, .op 0 0), (3, .os 3 1 0 (zoa p i).length), (8, .d (iD i))]) (p.puts.length) ?_ ⟨0, Nat.zero_le _, rfl, rfl, rfl⟩ ?_
   ·refine jhe ?_
    exact jxn
   rintro τ' H' mm ⟨i, hi, rfl, rfl, rfl⟩
   refine zaa fun K31 hK31 => ?_
   refine szq hp (fun _ hZ => zk1 hZ) ?_
   refine zah rfl (fun ht => ?_) (fun ht => ?_)
   ·have hlt : i < p.puts.length := by simp at ht; omega
    have hle := jhd h i hi
    refine zaf (hK31 _ _ ?_)
    refine zaa fun K33 hK33 => ?_
    refine zac ?_
    refine szs hp (fun _ hZ => zk1 hZ) (hK33 _ _ ?_)
    refine za5 hp zai hc rfl fun K35 hK35 => ?_
    refine zk1 ?_
    refine hK35 _ _ ⟨_, _, _, ?_, ⟨i + 1, by omega, rfl, rfl, rfl⟩, ?_⟩
    ·first | omega | (simp only [List.length_cons]; omega) | (dsimp only; omega)
    ·refine jxm [0,3] ?_
     refine jhe ?_
     refine jyp ?_; simp [zoa, jxk, za6, iD, sD, zbp, avs]
   ·have hii : i = p.puts.length := by simp at ht; omega
    subst hii
    refine zau (hK29 _ _ ?_)
    refine zbg hp (τ' := frL [(3, .d (.fs ((zoa p p.puts.length).flatMap za6) (zoa p p.puts.length).length))]) (H' := [.cells (avs (zbp p)), .dead]) ?_ ?_
    ·refine Rt.trans (Rt.fz (id := 1) (l := ((zoa p p.puts.length).flatMap za6)) rfl) ?_
     refine Rt.trans (Rt.slot 3 (zee (za2 zab))) ?_
     refine jhe ?_
     exact jxn
    refine szq hp (fun _ hZ => jb7 hZ) ?_
    refine zal ?_
    show closeA _ _ = _
    simp (disch := first | assumption | omega | (simp only [r_z, zab, za9] <;> omega) | decide) only [r_c, Nat.reduceAdd, D.fix, ↓reduceIte, Nat.reduceEqDiff, zdi, zbp, sD, zao]
    rfl
/- The reference's builder: outputs. -/
end
theorem jxp : (((((type_of% @zkt) ∧ (type_of% @zku)) ∧ ((type_of% @zje) ∧ ((type_of% @zjf) ∧ (type_of% @zq9)))) ∧ (((type_of% @zex) ∧ (type_of% @zem)) ∧ ((type_of% @zen) ∧ ((type_of% @zi7) ∧ (type_of% @zn3))))) ∧ ((((type_of% @zfp) ∧ (type_of% @zfq)) ∧ ((type_of% @jbb) ∧ ((type_of% @zn4) ∧ (type_of% @zdc)))) ∧ (((type_of% @zdd) ∧ (type_of% @zdz)) ∧ ((type_of% @zev) ∧ ((type_of% @zew) ∧ (type_of% @zfo)))))) := ⟨⟨⟨⟨@zkt, @zku⟩, ⟨@zje, ⟨@zjf, @zq9⟩⟩⟩, ⟨⟨@zex, @zem⟩, ⟨@zen, ⟨@zi7, @zn3⟩⟩⟩⟩, ⟨⟨⟨@zfp, @zfq⟩, ⟨@jbb, ⟨@zn4, @zdc⟩⟩⟩, ⟨⟨@zdd, @zdz⟩, ⟨@zev, ⟨@zew, @zfo⟩⟩⟩⟩⟩
def zk2 (n : Nat) (gs : Gs) (a b l : Nat) : AV := .agg [.d (iD n), .d (zaj gs), .os 3 a 0 l, .os 1 b 0 l]
def zhq : AObj := .cells [.d (iD 0), .d (.val (.slice none 0 0)), .d (.val (.slice none 0 0)), .d (.val (.slice none 0 0))]
def jxq (n : Nat) (r : Re) (w : Wire) (ws : List Wire) (ds : List Int) (x : AV) (S' : zad) : Prop := ∃ a b z, x = zk2 n r.1 2 3 (ws.length + 1) ∧ S' = [a, b, .cells (avs ((ws ++ [w]).flatMap za6)), .cells (avs ((ds ++ [r.2]).map iD)), .cells z]
theorem jhf {p q : Prop} (hq : q) (h : p = q := by
 conv => lhs; simp -dsimp -implicitDefEqProofs (disch := first | assumption | omega | (simp only [r_z, zab] <;> omega) | decide) only [r_r, ↓reduceIte, Nat.reduceEqDiff, Nat.reduceAdd, D.fix, Int.reduceToNat, Nat.reduceMul, Nat.reduceBNe, Nat.reduceBEq, zk2, zaj, za6, zc7, jxp]) : p := h.mpr hq
theorem yb5 {m : List Nat} {τ τ' : Fr} {H H' : zad} (h2 : H = H') (h : zgu τ τ' := by
 repeat (first | exact zar _ | refine zam ?_ (by first | rfl | (simp [r_f, zab]; done) | simp [r_f, zab, *]))) : Rt m τ H τ' H' := Rt.end h h2
theorem jhg (n : Nat) (gs : Gs) (ws : List Wire) (ds : List Int) (w : Wire) (r : Re) (hl : ds.length = ws.length) (hw : ws.length ≤ 100000) : ScS Try.prog [0, 1] 79 [zk2 n gs 0 1 ws.length, .agg ((za6 w).map .d), .agg ((zc7 n r).map .d)] ([.cells (avs (ws.flatMap za6)), .cells (avs (ds.map iD)), .free, .free, .free]) (jxq n r w ws ds) := by
 refine zeo (fn := Try.f79) (by kernel_rfl) Try.func79 rfl (Nat.le_of_ble_eq_true rfl) fun c hc hp => ?_
 refine zle ?_
 refine szq hp (fun _ hZ => jhf hZ) ?_
 refine szq hp (fun _ hZ => jhf hZ) ?_
 refine szq hp (fun _ hZ => jhf hZ) ?_
 refine szq hp (fun _ hZ => jhf hZ) ?_
 refine szq hp (fun _ hZ => jhf hZ) ?_
 refine zbg hp (τ' := frL [(6, .op 4 0)]) (H' := [.dead, .dead, .cells (avs ((ws ++ [w]).flatMap za6)), .cells (avs ((ds ++ [r.2]).map iD)), .cells [.d (iD n), .d (zaj r.1), .os 3 2 0 (ws.length + 1), .os 1 3 0 (ws.length + 1)]]) ?_ ?_
 ·refine Rt.trans (Rt.gc (keep := [0,1,10,12,8]) (by decide) (by decide) (by simp [fzH, gcH])) ?_
  refine yb5 ?_
  simp only [r_g, Nat.reduceAdd, ↓reduceIte, Nat.reduceEqDiff, zk2, zaj, za6, zc7]; simp [za6, iD]
 refine zal ?_
 try dsimp only [zbm, zaq]
 refine zak rfl ?_
 simp -dsimp -implicitDefEqProofs (disch := first | assumption | omega | (simp only [r_z, zab] <;> omega) | decide) only [r_r, ↓reduceIte, Nat.reduceEqDiff, Nat.reduceAdd, D.fix, Int.reduceToNat, Nat.reduceMul, Nat.reduceBNe, Nat.reduceBEq, zk2, zaj, za6, zc7, zkt, zku]
 show ∃ _, _
 exact ⟨_, _, _, by simp [zk2, iD, zaj, hl], rfl⟩
theorem jhh {p q : Prop} (hq : q) (h : p = q := by
 conv => lhs; simp -dsimp -implicitDefEqProofs (disch := first | assumption | omega | (simp only [r_z, zab] <;> omega) | decide) only [r_r, ↓reduceIte, Nat.reduceEqDiff, Nat.reduceAdd, D.fix, Int.reduceToNat, Nat.reduceMul, Nat.reduceBNe, Nat.reduceBEq, zc0, zk2, zaj, za6, zc7, jxp]) : p := h.mpr hq
theorem jaq (n : Nat) (gs : Gs) (ws : List Wire) (ds : List Int) (w : Wire) (r : Re) (hl : ds.length = ws.length) (hw : ws.length ≤ 100000) : ScS Try.prog [0, 1] 79 [zk2 n gs 0 1 ws.length, .agg ((za6 w).map .d), .d (zc0 n r)] ([.cells (avs (ws.flatMap za6)), .cells (avs (ds.map iD)), .free, .free, .free]) (jxq n r w ws ds) := by
 refine zeo (fn := Try.f79) (by kernel_rfl) Try.func79 rfl (Nat.le_of_ble_eq_true rfl) fun c hc hp => ?_
 refine zle ?_
 refine szq hp (fun _ hZ => jhh hZ) ?_
 refine szq hp (fun _ hZ => jhh hZ) ?_
 refine szq hp (fun _ hZ => jhh hZ) ?_
 refine szq hp (fun _ hZ => jhh hZ) ?_
 refine szq hp (fun _ hZ => jhh hZ) ?_
 refine zbg hp (τ' := frL [(6, .op 4 0)]) (H' := [.dead, .dead, .cells (avs ((ws ++ [w]).flatMap za6)), .cells (avs ((ds ++ [r.2]).map iD)), .cells [.d (iD n), .d (zaj r.1), .os 3 2 0 (ws.length + 1), .os 1 3 0 (ws.length + 1)]]) ?_ ?_
 ·refine Rt.trans (Rt.gc (keep := [0,1,10,12,8]) (by decide) (by decide) (by simp [fzH, gcH])) ?_
  refine yb5 ?_
  simp only [r_g, Nat.reduceAdd, ↓reduceIte, Nat.reduceEqDiff, zc0, zk2, zaj, za6, zc7]; simp [za6, iD]
 refine zal ?_
 try dsimp only [zbm, zaq]
 refine zak rfl ?_
 simp -dsimp -implicitDefEqProofs (disch := first | assumption | omega | (simp only [r_z, zab] <;> omega) | decide) only [r_r, ↓reduceIte, Nat.reduceEqDiff, Nat.reduceAdd, D.fix, Int.reduceToNat, Nat.reduceMul, Nat.reduceBNe, Nat.reduceBEq, zc0, zk2, zaj, za6, zc7, zkt, zku]
 show ∃ _, _
 exact ⟨_, _, _, by simp [zk2, iD, zaj, hl], rfl⟩
end Go.Proofs.Ytapjobndmmkanaa
