/- The law NetlistDepth. -/
import Derived.Test.YtapjobndmmkanaaQr
import Derived.Test.YtapjobndmmkanaaLee
import Derived.Test.YtapjobndmmkanaaLd
set_option linter.unusedVariables false
set_option linter.unusedSimpArgs false
set_option maxRecDepth 100000
set_option maxHeartbeats 4000000
namespace Go.Proofs.Ytapjobndmmkanaa
open Go Go.RowKit
theorem jh2 : ((((((type_of% @zph) ∧ (type_of% @zto)) ∧ ((type_of% @ye5) ∧ ((type_of% @zoq) ∧ (type_of% @zpl)))) ∧ (((type_of% @zgu) ∧ (type_of% @zfr)) ∧ ((type_of% @zkh) ∧ ((type_of% @zpi) ∧ (type_of% @zgv))))) ∧ ((((type_of% @zpj) ∧ (type_of% @zpk)) ∧ ((type_of% @zcq) ∧ ((type_of% @zf0) ∧ (type_of% @zf1)))) ∧ (((type_of% @zg7) ∧ (type_of% @zew)) ∧ ((type_of% @zex) ∧ ((type_of% @jir) ∧ (type_of% @zd1)))))) ∧ (((((type_of% @zey) ∧ (type_of% @zc2)) ∧ ((type_of% @zee) ∧ ((type_of% @zc7) ∧ (type_of% @zh0)))) ∧ (((type_of% @zh1) ∧ (type_of% @zh2)) ∧ ((type_of% @jbo) ∧ ((type_of% @zmx) ∧ (type_of% @zmy))))) ∧ ((((type_of% @jbu) ∧ (type_of% @zk6)) ∧ ((type_of% @zin) ∧ ((type_of% @zly) ∧ (type_of% @zlz)))) ∧ (((type_of% @ze9) ∧ ((type_of% @zgr) ∧ (type_of% @jnd))) ∧ ((type_of% @zk7) ∧ ((type_of% @zd8) ∧ (type_of% @zd9))))))) := ⟨⟨⟨⟨⟨@zph, @zto⟩, ⟨@ye5, ⟨@zoq, @zpl⟩⟩⟩, ⟨⟨@zgu, @zfr⟩, ⟨@zkh, ⟨@zpi, @zgv⟩⟩⟩⟩, ⟨⟨⟨@zpj, @zpk⟩, ⟨@zcq, ⟨@zf0, @zf1⟩⟩⟩, ⟨⟨@zg7, @zew⟩, ⟨@zex, ⟨@jir, @zd1⟩⟩⟩⟩⟩, ⟨⟨⟨⟨@zey, @zc2⟩, ⟨@zee, ⟨@zc7, @zh0⟩⟩⟩, ⟨⟨@zh1, @zh2⟩, ⟨@jbo, ⟨@zmx, @zmy⟩⟩⟩⟩, ⟨⟨⟨@jbu, @zk6⟩, ⟨@zin, ⟨@zly, @zlz⟩⟩⟩, ⟨⟨@ze9, ⟨@zgr, @jnd⟩⟩, ⟨@zk7, ⟨@zd8, @zd9⟩⟩⟩⟩⟩⟩
theorem jo4 : ∀ (gs : List Gate) (l : List Int), (∀ j, 0 ≤ nth l j) → (∀ j, j < l.length → nth (dpS l gs) j = nth l j) ∧ ∀ j, l.length ≤ j → j < l.length + gs.length → 1 ≤ nth (dpS l gs) j
 | [], l, _ => ⟨fun j _ => rfl, fun j h1 h2 => by simp at h2; omega⟩
 | g :: gs, l, h => by
  have hd : 1 ≤ dpG l g := by have := h g.a.toNat; have := h g.b.toNat; have := h g.c.toNat; unfold dpG; omega
  have hn : ∀ j, j < l.length → nth (l ++ [dpG l g]) j = nth l j := fun j hj => by unfold nth; rw [List.getD_eq_getElem?_getD, List.getElem?_append_left hj, ← List.getD_eq_getElem?_getD]
  have he : nth (l ++ [dpG l g]) l.length = dpG l g := by unfold nth; simp [List.getD_eq_getElem?_getD]
  obtain ⟨i1, i2⟩ := jo4 gs (l ++ [dpG l g]) (fun j => by
   by_cases e : j < l.length
   ·rw [hn j e]; exact h j
   ·by_cases e2 : j = l.length
    ·subst e2; rw [he]; omega
    ·rw [jhz (by simp; omega)]; omega)
  rw [show dpS l (g :: gs) = dpS (l ++ [dpG l g]) gs from rfl]
  simp only [List.length_append, List.length_cons, List.length_nil] at i1 i2 ⊢
  refine ⟨fun j hj => by rw [i1 j (by omega), hn j hj], fun j h1 h2 => ?_⟩
  by_cases e : j = l.length
  ·subst e; rw [i1 _ (by omega), he]; exact hd
  ·exact i2 j (by omega) (by omega)
theorem jo5 (n : Net) : (∀ j, j < 2 + n.ins.length → nth (dpN n) j = 0) ∧ ∀ j, 2 + n.ins.length ≤ j → j < 2 + n.ins.length + n.gates.length → 1 ≤ nth (dpN n) j := by
 obtain ⟨h1, h2⟩ := jo4 n.gates (List.replicate (2 + n.ins.length) 0) (fun j => by rw [ybm]; exact Int.le_refl _)
 rw [List.length_replicate] at h1 h2
 exact ⟨fun j hj => (h1 j hj).trans (ybm _ _), h2⟩
theorem zek (n : Net) : (dpN n).length = 2 + n.ins.length + n.gates.length := by unfold dpN; rw [zb6, List.length_replicate]
theorem zl6 (n : Net) : ∀ j, 0 ≤ nth (dpN n) j ∧ nth (dpN n) j ≤ ((n.gates.length : Nat) : Int) := fun j => by
 have := jax n n.gates.length j
 rwa [List.take_length] at this
def zup (n : Net) (ds : List Int) : Bool := ds.all fun d => decide (d < 2 + (n.ins.length : Int))
theorem jcl {n : Net} {ds : List Int} {k : Nat} (h : k < ds.length) : zup n (ds.take (k + 1)) = (zup n (ds.take k) && decide (nth ds k < 2 + (n.ins.length : Int))) := by unfold zup; rw [zem h]; simp
theorem jo6 {l : List Int} (h : ∀ j, 0 ≤ nth l j) : ∀ (ds : List Int) (a : Int), 0 ≤ a → (ds.foldl (fun m x => max m (nth l x.toNat)) a = 0 ↔ a = 0 ∧ ∀ d ∈ ds, nth l d.toNat = 0)
 | [], a, ha => by simp
 | d :: ds, a, ha => by
  have := h d.toNat
  rw [List.foldl_cons, jo6 h ds _ (by omega)]
  constructor
  ·rintro ⟨e1, e2⟩; exact ⟨by omega, fun x hx => by rcases List.mem_cons.1 hx with e | hx; (subst e; omega); exact e2 x hx⟩
  ·rintro ⟨e1, e2⟩; have := e2 d (by simp); exact ⟨by omega, fun x hx => e2 x (List.mem_cons_of_mem _ hx)⟩
theorem jlq {n : Net} (hd : zv3 (2 + n.ins.length + n.gates.length) n.drive) : (decide (zuo n = 0)) = zup n n.drive := by
 rw [Bool.eq_iff_iff, decide_eq_true_iff]
 unfold zuo dpM zup
 rw [jo6 (fun j => (zl6 n j).1) _ _ (Int.le_refl _), List.all_eq_true]
 obtain ⟨h1, h2⟩ := jo5 n
 constructor
 ·rintro ⟨_, h⟩ x hx
  rw [decide_eq_true_iff]
  obtain ⟨k, hk, e⟩ := List.mem_iff_getElem.1 hx
  have hxx := hd k hk
  rw [zdd hk, e] at hxx
  have := h x hx
  by_cases hc : x < 2 + (n.ins.length : Int)
  ·exact hc
  ·have := h2 x.toNat (by omega) (by omega); omega
 ·intro h
  refine ⟨rfl, fun d hdm => ?_⟩
  have := of_decide_eq_true (h d hdm)
  exact h1 _ (by omega)
theorem jh3 {l : List Int} : ∀ (ds : List Int) (a : Int), a ≤ ds.foldl (fun m x => max m (nth l x.toNat)) a
 | [], a => Int.le_refl _
 | d :: ds, a => by rw [List.foldl_cons]; exact Int.le_trans (by omega) (jh3 ds (max a (nth l d.toNat)))
theorem jlr {l : List Int} {ds : List Int} (k : Nat) : dpM l (ds.take k) ≤ dpM l ds := by
 conv => rhs; rw [← List.take_append_drop k ds]
 unfold dpM
 rw [List.foldl_append]
 exact jh3 _ _
def zuq (n : Net) (k : Nat) : Net := ⟨n.ins, n.gates, n.out.take k, n.drive.take k⟩
def zju (n : Net) (k : Nat) : Net := ⟨n.ins, n.gates ++ [⟨1, nth n.drive k, 0, 0, 0⟩], [nth n.out k], [2 + (n.ins.length : Int) + (n.gates.length : Int)]⟩
theorem jzo {n : Net} (h : NetV n) (k : Nat) : NetV (zuq n k) := by
 have hd0 := h.d0; have hdl := h.dl
 refine ⟨h.len, ?_, h.wi, fun w hw => h.wo w (List.mem_of_mem_take hw), h.g2, h.gv, fun j hj => ?_, ?_⟩
 ·show (n.out.take k).length = (n.drive.take k).length
  rw [List.length_take, List.length_take, hd0]
 ·have hj' : j < (n.drive.take k).length := hj
  have h2 : j < n.drive.length := by rw [List.length_take] at hj'; omega
  show 0 ≤ nth (n.drive.take k) j ∧ nth (n.drive.take k) j < _
  rw [zdd hj', List.getElem_take, ← zdd h2]
  exact h.d2 j h2
 ·show (n.drive.take k).length ≤ 1000
  rw [List.length_take]; omega
theorem jzp {n : Net} (h : NetV n) (hl : 2 + n.ins.length + n.gates.length ≤ 599) {k : Nat} (hk : k < n.drive.length) : NetV (zju n k) := by
 have hd0 := h.d0; have hdk := h.d2 k hk
 refine ⟨?_, rfl, h.wi, fun w hw => ?_, fun j hj => ?_, fun g hg => ?_, fun j hj => ?_, by simp [zju]⟩
 ·show 2 + n.ins.length + (n.gates ++ [_]).length ≤ 600
  simp; omega
 ·have : w = nth n.out k := by simpa [zju] using hw
  rw [this]; exact h.wo _ (zb3 (by omega))
 ·show GateOk (2 + n.ins.length + j) (nth (n.gates ++ [⟨1, nth n.drive k, 0, 0, 0⟩]) j)
  rcases zgk (l := n.gates) (x := (⟨1, nth n.drive k, 0, 0, 0⟩ : Gate)) rfl (show j < n.gates.length + 1 by simpa [zju] using hj) with ⟨hl, e⟩ | ⟨hl, e⟩
  ·rw [e]; exact h.g2 j hl
  ·rw [e, hl]; exact ⟨by simp, by simp, hdk.1, by simp only; omega, by simp, by simp only; omega, by simp, by simp only; omega, by simp, by simp⟩
 ·rcases List.mem_append.1 hg with hg | hg
  ·exact h.gv g hg
  ·have : g = ⟨1, nth n.drive k, 0, 0, 0⟩ := by simpa using hg
   subst this
   exact ⟨fun _ => rfl, fun _ => rfl, fun _ => rfl, by simp⟩
 ·have hj0 : j = 0 := by simpa [zju] using hj
  subst hj0
  show 0 ≤ (2 + (n.ins.length : Int) + n.gates.length) ∧ (2 + (n.ins.length : Int) + n.gates.length) < ((2 + n.ins.length + (n.gates ++ [_]).length : Nat) : Int)
  simp only [List.length_append, List.length_cons, List.length_nil]; omega
theorem jls {n : Net} (h : NetV n) {k : Nat} (hk : k < n.drive.length) : zuo (zju n k) = 1 + nth (dpN n) (nth n.drive k).toNat := by
 have hdk := h.d2 k hk
 have e : dpN (zju n k) = dpN n ++ [dpG (dpN n) ⟨1, nth n.drive k, 0, 0, 0⟩] := by
  unfold dpN
  rw [show (zju n k).gates = n.gates ++ [⟨1, nth n.drive k, 0, 0, 0⟩] from rfl, jhx]; rfl
 have h0 := (jo5 n).1 0 (by omega)
 have hn := (zl6 n (nth n.drive k).toNat).1
 have hl := zek n
 show dpM (dpN (zju n k)) [2 + (n.ins.length : Int) + n.gates.length] = _
 show max 0 (nth (dpN (zju n k)) (2 + (n.ins.length : Int) + n.gates.length).toNat) = _
 rw [e, show (2 + (n.ins.length : Int) + n.gates.length).toNat = (dpN n).length by omega]
 have he : nth (dpN n ++ [dpG (dpN n) ⟨1, nth n.drive k, 0, 0, 0⟩]) (dpN n).length = dpG (dpN n) ⟨1, nth n.drive k, 0, 0, 0⟩ := by unfold nth; simp [List.getD_eq_getElem?_getD]
 rw [he]
 unfold dpG
 simp only [Int.toNat_zero, h0]
 omega
theorem jr6 {p : Pr} (h : Proc p) : 0 < (ze4 p).out.length := by
 have hs := (zhx h.ok (show 0 < p.regs.length from h.r1) (zeb h.ok 0 (Nat.zero_le _))).b.wid
 have hw := (h.rw 0 h.r1).1
 have h1 : ∀ i, 1 ≤ i → i ≤ p.regs.length → 0 < (zbu p i).out.length := fun i h1 hi => by
  cases i with
  | zero => omega
  | succ i =>
   rw [zbu]; simp only [List.length_append, zaz]
   have := (zhx h.ok (show i < p.regs.length by omega) (zeb h.ok i (by omega))).b.wid
   have := (h.rw i (by omega)).1
   omega
 have h2 := h1 p.regs.length h.r1 (Nat.le_refl _)
 have h3 : ∀ i, i ≤ p.takes.length → 0 < (zc8 p i).out.length := fun i hi => by
  induction i with
  | zero => exact h2
  | succ i ih => have := ih (by omega); rw [zc8]; simp only [List.length_append]; omega
 have h4 : ∀ i, i ≤ p.puts.length → 0 < (zc3 p i).out.length := fun i hi => by
  induction i with
  | zero => exact h3 _ (Nat.le_refl _)
  | succ i ih => have := ih (by omega); rw [zc3]; simp only [List.length_append]; omega
 have h5 : ∀ i, i ≤ p.mems.length → 0 < (zcg p i).out.length := fun i hi => by
  induction i with
  | zero => exact h4 _ (Nat.le_refl _)
  | succ i ih => have := ih (by omega); rw [zcg]; simp only [List.length_append]; omega
 exact h5 _ (Nat.le_refl _)
theorem zhb {p q : Prop} (hq : q) (h : p = q := by
 conv => lhs; simp -dsimp -implicitDefEqProofs (disch := first | assumption | omega | (simp only [r_z, zab, zac, zb6, zek, List.length_replicate, List.length_take] <;> omega) | decide) only [r_r, ↓reduceIte, Nat.reduceEqDiff, Nat.reduceAdd, D.fix, Int.reduceToNat, Nat.reduceMul, Nat.reduceBNe, Nat.reduceBEq, bne_self_eq_false, zcb, zb7, zay, za3, zav, za2, zeq, List.cons_append, List.nil_append, jh2]) : p := h.mpr hq
theorem jh4 {p q : Prop} (hq : q) (h : p = q := by
 conv => lhs; simp -dsimp -implicitDefEqProofs (disch := first | assumption | omega | (simp only [r_z, zab, zac, zb6, zek, List.length_replicate, List.length_take] <;> omega) | decide) only [r_r, ↓reduceIte, Nat.reduceEqDiff, Nat.reduceAdd, D.fix, Int.reduceToNat, Nat.reduceMul, Nat.reduceBNe, Nat.reduceBEq, bne_self_eq_false, zcb, zb7, zay, za3, zav, za2, zeq, List.cons_append, List.nil_append]) : p := h.mpr hq
theorem jtc (k : List Nat) {m : List Nat} {τ τ1 : Fr} {H H1 : zae} (h : Rt m (fun t => gcV k (τ t)) (gcH k H) τ1 H1) (a : ∀ i ∈ m, k[i]? = some i := by decide) (b : k.Nodup := by decide) (c : ∀ i ∈ k, i < H.length := by
 simp [fzH, gcH]) : Rt m τ H τ1 H1 := Rt.trans (Rt.gc a b c) h
theorem jtd {m : List Nat} {τ τ' : Fr} {H H' : zae} (h2 : H = H') (h : zfq τ τ' := by
 repeat (first | exact zas _ | refine zao ?_ (by first | rfl | (simp [r_f, zab, zac, zb6, zek, List.length_replicate, List.length_take]; done) | simp [r_f, zab, zac, zb6, zek, List.length_replicate, List.length_take, *]))) : Rt m τ H τ' H' := Rt.end h h2
theorem zwu {p q r : Prop} (e : r) (hq : q) (h : r → p = q := by
 intro hY
 conv => lhs; simp -dsimp -implicitDefEqProofs (disch := first | assumption | omega | (simp only [r_z, zab, zac, zb6, zek, List.length_replicate, List.length_take] <;> omega) | decide) only [r_r, ↓reduceIte, Nat.reduceEqDiff, Nat.reduceAdd, D.fix, Int.reduceToNat, Nat.reduceMul, Nat.reduceBNe, Nat.reduceBEq, bne_self_eq_false, zcb, zb7, zay, za3, zav, za2, zeq, List.cons_append, List.nil_append, jh2, hY]) : p := (h e).mpr hq
theorem jr7 {p q r : Prop} (e : r) (hq : q) (h : r → p = q := by
 intro hY
 conv => lhs; simp -dsimp -implicitDefEqProofs (disch := first | assumption | omega | (simp only [r_z, zab, zac, zb6, zek, List.length_replicate, List.length_take] <;> omega) | decide) only [r_r, ↓reduceIte, Nat.reduceEqDiff, Nat.reduceAdd, D.fix, Int.reduceToNat, Nat.reduceMul, Nat.reduceBNe, Nat.reduceBEq, bne_self_eq_false, zcb, zb7, zay, za3, zav, za2, zeq, List.cons_append, List.nil_append, zbj, jh2, hY]) : p := (h e).mpr hq
theorem yeg {p q : Prop} (hq : q) (h : p = q := by
 conv => lhs; simp only [r_g, Nat.reduceAdd, ↓reduceIte, Nat.reduceEqDiff, bne_self_eq_false, zcb, zb7, zay, za3, zav, za2, zeq, List.cons_append, List.nil_append]) : p := h.mpr hq
theorem yeh {p : Prop} (h : p := by
 first | rfl | (simp only [r_g, Nat.reduceAdd, ↓reduceIte, Nat.reduceEqDiff, bne_self_eq_false, zcb, zb7, zay, za3, zav, za2, zeq, List.cons_append, List.nil_append]; first | done | rfl)) : p := h
theorem jh5 (b : List Int) (hb0 : zg6 b) (hl0 : b.length ≤ maxLen) (kk : Nat) (hkk : kk < 256) : zbg Try.prog 8 [.agg [bytesD b], .val (.int .u8 kk)] (.d (oD true)) := by
 refine za4 (fn := Try.f8) (by kernel_rfl) Try.func8 rfl (Nat.le_of_ble_eq_true rfl) fun c hc hp => ?_
 refine za9 (τ' := frL [(0, .d (.agg [bytesD b])), (1, .d (.val (.int .u8 kk)))]) (by repeat (first | exact zas _ | refine zao ?_ (by first | rfl | (simp [r_f, zab, zac, zb6, zek, List.length_replicate, List.length_take]; done) | simp [r_f, zab, zac, zb6, zek, List.length_replicate, List.length_take, *]))) ?_
 refine szq hp (fun _ hZ => zhb hZ) ?_
 refine zag hp zak hc rfl fun K2 hK2 => ?_
 refine jh4 ?_
 refine zbp (zgn) rfl ?_
 refine jh4 ?_
 refine hK2 _ _ ?_
 refine zaa fun K3 hK3 => ?_
 refine szq hp (fun _ hZ => zhb hZ) ?_
 refine szf ?_
 refine zaj (hK3 _ _ ?_)
 refine zag hp zak hc rfl fun K5 hK5 => ?_
 refine zhb ?_
 refine zx3 (zrm b hb0 hl0) rfl fun r hr => ?_
 obtain ⟨p, hp', rfl⟩ := hr
 refine zhb ?_
 refine zbp (zjn hp') rfl ?_
 refine zhb ?_
 refine hK5 _ _ ?_
 have hv := jht hp'
 have hfit : 2 + (ze4 p).ins.length + (ze4 p).gates.length ≤ 599 := by
  have ho := zdy hp'.ok _ (Nat.le_refl _)
  have h1 := ho.len; have h2 := hp'.cost; have h3 := hp'.ins
  have hc : cMP p p.mems.length = zgz p := rfl
  show 2 + (zfi p).length + (zcg p p.mems.length).gs.length ≤ 599
  omega
 have hop := jr6 hp'
 obtain ⟨n, hn⟩ : ∃ n, n = ze4 p := ⟨_, rfl⟩
 rw [← hn] at hv hfit hop
 rw [← hn]
 clear hn
 have hd0 := hv.d0; have hdl := hv.dl; have hlen := hv.len
 refine szq hp (fun _ hZ => zhb hZ) ?_
 refine zaa fun K7 hK7 => ?_
 refine zag hp zak hc rfl fun K8 hK8 => ?_
 refine zhb ?_
 refine zbp (jhs n hv) rfl ?_
 refine zhb ?_
 refine hK8 _ _ ?_
 refine szf ?_
 refine zaj (hK7 _ _ ?_)
 refine zag hp zak hc rfl fun K9 hK9 => ?_
 simp -dsimp -implicitDefEqProofs (disch := first | assumption | omega | (simp only [r_z, zab, zac, zb6, zek, List.length_replicate, List.length_take] <;> omega) | decide) only [r_r, ↓reduceIte, Nat.reduceEqDiff, Nat.reduceAdd, D.fix, Int.reduceToNat, Nat.reduceMul, Nat.reduceBNe, Nat.reduceBEq, bne_self_eq_false, zcb, zb7, zay, za3, zav, za2, zeq, List.cons_append, List.nil_append, jmt, jh2]
 refine hK9 _ _ ?_
 refine zaa fun K10 hK10 => ?_
 refine szq hp (fun _ hZ => jh4 hZ) ?_
 refine zaf ?_
 refine zan hp (fun τ' H' mm => ∃ (k : Nat), (k ≤ n.gates.length) ∧ mm = n.gates.length - k ∧ H' = [.cells (avs (zb7 n)), .cells (avs ((dpS (List.replicate (2 + n.ins.length) 0) (n.gates.take k)).map iD))] ∧ τ' = frL [(1, .d (.val (.int .u8 kk))), (5, .d (oD true)), (7, .op 0 0), (8, .os 1 1 0 (2 + n.ins.length + k)), (9, .d (iD k))]) (n.gates.length) ?_ ⟨0, Nat.zero_le _, rfl, rfl, rfl⟩ ?_
 ·refine jtc [2,3] ?_
  refine jtd ?_
  refine yeg ?_; simp [dpS, avs, iD]; omega
 rintro τ' H' mm ⟨k, hk, rfl, rfl, rfl⟩
 refine zaa fun K12 hK12 => ?_
 refine szq hp (fun _ hZ => zhb hZ) ?_
 refine zal rfl (fun ht => ?_) (fun ht => ?_)
 ·have hlt : k < n.gates.length := by simp at ht; omega
  have hg := jaq hv.g2 hlt
  obtain ⟨l, hl⟩ : ∃ l, l = dpS (List.replicate (2 + n.ins.length) 0) (n.gates.take k) := ⟨_, rfl⟩
  have hll : l.length = 2 + n.ins.length + k := by rw [hl, zb6, List.length_replicate, List.length_take]; omega
  have hst := jav (List.replicate (2 + n.ins.length) 0) hlt
  have hrg := jax n k
  rw [← hl] at hst hrg
  rw [← hl]
  clear hl
  have ha0 := hg.a0; have ha1 := hg.a1; have hb0 := hg.b0; have hb1 := hg.b1; have hc0 := hg.c0; have hc1 := hg.c1
  have ra := hrg (nth n.gates k).a.toNat; have rb := hrg (nth n.gates k).b.toNat; have rc := hrg (nth n.gates k).c.toNat
  have ga : (l.map iD)[(nth n.gates k).a.toNat]? = some (iD (nth l (nth n.gates k).a.toNat)) := zbj (by omega)
  have gb : (l.map iD)[(nth n.gates k).b.toNat]? = some (iD (nth l (nth n.gates k).b.toNat)) := zbj (by omega)
  have gc : (l.map iD)[(nth n.gates k).c.toNat]? = some (iD (nth l (nth n.gates k).c.toNat)) := zbj (by omega)
  refine zaj (hK12 _ _ ?_)
  refine zaa fun K14 hK14 => ?_
  refine zaf ?_
  refine zag hp zak hc rfl fun K15 hK15 => ?_
  simp -dsimp -implicitDefEqProofs (disch := first | assumption | omega | (simp only [r_z, zab, zac, zb6, zek, List.length_replicate, List.length_take] <;> omega) | decide) only [r_r, ↓reduceIte, Nat.reduceEqDiff, Nat.reduceAdd, D.fix, Int.reduceToNat, Nat.reduceMul, Nat.reduceBNe, Nat.reduceBEq, bne_self_eq_false, zcb, zb7, zay, za3, zav, za2, zeq, List.cons_append, List.nil_append, zjj, zjz, jh2]
  refine hK15 _ _ ?_
  refine zs5 zak hc mixed rfl (q := 2) (by kernel_rfl) (by kernel_rfl) fun K16 hK16 => ?_
  refine zwu (sza ga (sza gb gc)) ?_
  refine hK16 _ _ (hK14 _ _ ?_)
  refine za1 hp zak hc rfl fun K17 hK17 => ?_
  refine zhb ?_
  refine hK17 _ _ ⟨_, _, _, ?_, ⟨k + 1, by omega, rfl, rfl, rfl⟩, ?_⟩
  ·first | omega | (simp only [List.length_cons]; omega) | (dsimp only; omega)
  ·refine jtc [0,4] ?_
   refine jtd ?_
   refine yeg ?_; rw [hst]; simp [iD, dpG]
 ·have hkk : k = n.gates.length := by simp at ht; omega
  subst hkk
  rw [List.take_length]
  have hll := zek n
  have hrg := zl6 n
  rw [show dpS (List.replicate (2 + n.ins.length) 0) n.gates = dpN n from rfl]
  refine zau (hK10 _ _ ?_)
  refine szq hp (fun _ hZ => jh4 hZ) ?_
  refine zaa fun K19 hK19 => ?_
  refine szq hp (fun _ hZ => jh4 hZ) ?_
  refine zaf ?_
  refine zan hp (fun τ' H' mm => ∃ (k : Nat), (k ≤ n.drive.length) ∧ mm = n.drive.length - k ∧ H' = [.cells (avs (zb7 n)), .cells (avs ((dpN n).map iD))] ∧ τ' = frL [(1, .d (.val (.int .u8 kk))), (5, .d (oD true)), (7, .op 0 0), (8, .os 1 1 0 (2 + n.ins.length + n.gates.length)), (11, .d (iD (dpM (dpN n) (n.drive.take k)))), (12, .d (oD (zup n (n.drive.take k)))), (13, .d (iD k))]) (n.drive.length) ?_ ⟨0, Nat.zero_le _, rfl, rfl, rfl⟩ ?_
  ·refine jtc [0,1] ?_
   refine jtd ?_
   exact yeh
  rintro τ' H' mm ⟨k, hk, rfl, rfl, rfl⟩
  refine zaa fun K21 hK21 => ?_
  refine szq hp (fun _ hZ => zhb hZ) ?_
  refine zal rfl (fun ht => ?_) (fun ht => ?_)
  ·have hlt : k < n.drive.length := by simp at ht; omega
   have hdk := hv.d2 k hlt
   have hst := jaw (dpN n) hlt
   have hfl := jcl (n := n) hlt
   have hgz : ((dpN n).map iD)[(nth n.drive k).toNat]? = some (iD (nth (dpN n) (nth n.drive k).toNat)) := zbj (by omega)
   refine zaj (hK21 _ _ ?_)
   refine zaa fun K23 hK23 => ?_
   refine zaf ?_
   refine szq hp (fun _ hZ => jr7 hgz hZ) ?_
   refine zs5 zak hc mixed rfl (q := 0) (by kernel_rfl) (by kernel_rfl) fun K25 hK25 => ?_
   rcases tf (zup n (n.drive.take k)) with hq | hq
   ·refine jr7 hq ?_
    refine hK25 _ _ (hK23 _ _ ?_)
    refine za1 hp zak hc rfl fun K26 hK26 => ?_
    refine zhb ?_
    refine hK26 _ _ ⟨_, _, _, ?_, ⟨k + 1, by omega, rfl, rfl, rfl⟩, ?_⟩
    ·first | omega | (simp only [List.length_cons]; omega) | (dsimp only; omega)
    ·refine jtc [0,1] ?_
     refine jtd ?_
     exact yeh
   ·refine jr7 hq ?_
    refine hK25 _ _ (hK23 _ _ ?_)
    refine za1 hp zak hc rfl fun K27 hK27 => ?_
    refine zhb ?_
    refine hK27 _ _ ⟨_, _, _, ?_, ⟨k + 1, by omega, rfl, rfl, rfl⟩, ?_⟩
    ·first | omega | (simp only [List.length_cons]; omega) | (dsimp only; omega)
    ·refine jtc [0,1] ?_
     refine jtd ?_
     exact yeh
  ·have hkk2 : k = n.drive.length := by simp at ht; omega
   subst hkk2
   rw [List.take_length]
   have hdm : dpM (dpN n) n.drive = zuo n := rfl
   rw [hdm]
   have hdr := jh0 hrg n.drive
   rw [hdm] at hdr
   have q1 : (zuo n != zuo n) = false := bne_self_eq_false _
   have q2 : decide ((n.gates.length : Int) < zuo n) = false := decide_eq_false (by omega)
   have q3 : ((zuo n == 0) != zup n n.drive) = false := by
    rw [← jlq hv.d2, show (zuo n == 0) = decide (zuo n = 0) from rfl]; exact bne_self_eq_false _
   have q4 : ((n.out.length : Int) == 0) = false := by rw [beq_eq_false_iff_ne]; omega
   obtain ⟨at', hat⟩ : ∃ a, a = kk % n.out.length := ⟨_, rfl⟩
   have hal : at' < n.out.length := by rw [hat]; exact Nat.mod_lt _ hop
   have hai : (kk : Int) % (n.out.length : Int) = (at' : Int) := by rw [hat]; omega
   have hdk := hv.d2 at' (by omega)
   have hst := jls hv (k := at') (by omega)
   have hgz : ((dpN n).map iD)[(nth n.drive at').toNat]? = some (iD (nth (dpN n) (nth n.drive at').toNat)) := zbj (by omega)
   have hgd : (n.drive.map iD)[at']? = some (iD (nth n.drive at')) := zbj (by omega)
   have hl1 := jzo hv at'
   have hm1 := jzp hv hfit (k := at') (by omega)
   have hle : zuo (zuq n at') ≤ zuo n := jlr at'
   have hlr := jh0 (zl6 (zuq n at')) (zuq n at').drive
   have hmr := jh0 (zl6 (zju n at')) (zju n at').drive
   have q5 : decide (zuo (zuq n at') ≤ zuo n) = true := decide_eq_true hle
   have hbo : ∀ n : Nat, zfo 4 (zxa [(10, 2), (3, 1), (0, 0)] [{ on := 3, ground := .data }, { on := 10, ground := .data }, { on := 3, ground := .chain }]) (.os 5 5 0 n) = true := fun _ => rfl
   have hsh : (List.filterMap (fun p : Nat × Nat => if p.1 = 5 then some (7, p.2) else none) [(5, 4)] ++ [(5, 4)]) = [(7, 4), (5, 4)] := rfl
   have hx1 : (n.out.flatMap za2).take (at' * 3) = (n.out.take at').flatMap za2 := ztf zk8 n.out at'
   have hx2 : (n.drive.map iD).take at' = (n.drive.take at').map iD := (List.map_take ..).symm
   have hx4 : ((at' : Int) + 1 - at').toNat = 1 := by omega
   have hx3 : ((n.out.flatMap za2).drop (at' * 3)).take (1 * 3) = za2 (nth n.out at') := by
    have := zhi hal
    unfold zbv at this
    rw [if_pos (by rw [zab]; omega)] at this
    exact Option.some.inj this
   have hrz := zl6 n (nth n.drive at').toNat
   have hx7 : zbv (n.gates.flatMap zav ++ [D.val (.int .i64 1), D.val (.int .i64 (nth n.drive at')), D.val (.int .i64 0), D.val (.int .i64 0), D.val (.int .i64 0)]) 0 ((n.gates.length + 1) * 5) = some (n.gates.flatMap zav ++ [D.val (.int .i64 1), D.val (.int .i64 (nth n.drive at')), D.val (.int .i64 0), D.val (.int .i64 0), D.val (.int .i64 0)]) := zbf (by rw [List.length_append, zac]; simp only [List.length_cons, List.length_nil]; omega)
   have hx8 : zbv [D.val (Value.int .i64 (2 + (n.ins.length : Int) + n.gates.length))] 0 1 = some [D.val (Value.int .i64 (2 + (n.ins.length : Int) + n.gates.length))] := zbf rfl
   have q6 : (zuo (zju n at') == 1 + nth (dpN n) (nth n.drive at').toNat) = true := by rw [hst]; exact beq_self_eq_true _
   have hx5 : (n.out.take at').length = at' := by rw [List.length_take]; omega
   have hx6 : (n.drive.take at').length = at' := by rw [List.length_take]; omega
   clear hat
   refine zau (hK19 _ _ ?_)
   refine zag hp zak hc rfl fun K28 hK28 => ?_
   refine zhb ?_
   refine zbp (zwt n hv) rfl ?_
   refine zhb ?_
   refine hK28 _ _ ?_
   refine zaa fun K29 hK29 => ?_
   refine szq hp (fun _ hZ => zwu (sza q1 (sza q2 (sza q3 q4))) hZ) ?_
   refine szf ?_
   refine zaj (hK29 _ _ ?_)
   refine szq hp (fun _ hZ => zwu hai hZ) ?_
   refine za5 zak hc mixed rfl (q := 2) (by kernel_rfl) (by kernel_rfl) fun K32 hK32 => ?_
   refine zhb ?_
   refine hK32 _ _ ?_
   refine szq hp (fun _ hZ => zhb hZ) ?_
   refine szq hp (fun _ hZ => zhb hZ) ?_
   refine za5 zak hc mixed rfl (q := 4) (by kernel_rfl) (by kernel_rfl) fun K35 hK35 => ?_
   refine zwu (sza hgd (sza hbo hsh)) ?_
   refine hK35 _ _ ?_
   refine szq hp (fun _ hZ => zhb hZ) ?_
   refine szq hp (fun _ hZ => zhb hZ) ?_
   refine zat hp (τ' := frL [(5, .d (oD true)), (7, .op 0 0), (8, .os 1 1 0 (2 + n.ins.length + n.gates.length)), (14, .d (iD (zuo n))), (15, .d (iD at')), (16, .op 2 0), (17, .op 3 0)]) (H' := [.cells (avs (zb7 n)), .cells (avs ((dpN n).map iD)), .cells (avs (zb7 (zuq n at'))), .cells (avs (zb7 (zju n at')))]) ?_ ?_
   ·refine Rt.trans (Rt.fz (id := 7) (l := (n.gates.flatMap zav ++ [iD 1] ++ [iD (nth n.drive at')] ++ [iD 0] ++ [iD 0] ++ [iD 0])) rfl) ?_
    refine Rt.trans (Rt.fz (id := 8) (l := [iD (2 + (n.ins.length : Int) + n.gates.length)]) rfl) ?_
    refine jtc [0,1,2,3] ?_
    refine jtd ?_
    refine yeg ?_; rw [hx1, hx2, hx4, hx3]; simp [zb7, zuq, zju, hx5, hx6, hx7, hx8, zay, za3, intsD, zav, iD, gcV, fzV]
   refine za5 zak hc mixed rfl (q := 0) (by kernel_rfl) (by kernel_rfl) fun K38 hK38 => ?_
   refine zwu (sza q5 (sza q6 (sza hgd hgz))) ?_
   refine zbp (zwt (zuq n at') hl1) rfl ?_
   refine zwu (sza q5 (sza q6 (sza hgd hgz))) ?_
   refine zbp (zwt (zju n at') hm1) rfl ?_
   refine zwu (sza q5 (sza q6 (sza hgd hgz))) ?_
   refine hK38 _ _ ?_
   refine zam ?_
   show closeA _ _ = _
   simp (disch := first | assumption | omega | (simp only [r_z, zab, zac, zb6, zek, List.length_replicate, List.length_take] <;> omega) | decide) only [r_c, Nat.reduceAdd, D.fix, ↓reduceIte, Nat.reduceEqDiff, bne_self_eq_false, zcb, zb7, zay, za3, zav, za2, zeq, List.cons_append, List.nil_append]
end Go.Proofs.Ytapjobndmmkanaa
