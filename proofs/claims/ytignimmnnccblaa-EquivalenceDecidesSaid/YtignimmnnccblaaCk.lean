/- The support of a diagram. -/
import Derived.Test.YtignimmnnccblaaQr
import Derived.Test.YtignimmnnccblaaCj
set_option linter.unusedVariables false
set_option linter.unusedSimpArgs false
set_option maxRecDepth 100000
set_option maxHeartbeats 4000000
namespace Go.Proofs.Ytignimmnnccblaa
open Go Go.RowKit
theorem zkt : (((((type_of% @zeg) ∧ ((type_of% @zeh) ∧ (type_of% @ze4))) ∧ (((type_of% @ze5) ∧ (type_of% @ze7)) ∧ ((type_of% @zf6) ∧ (type_of% @zf7)))) ∧ ((((type_of% @zf3) ∧ (type_of% @zf4)) ∧ ((type_of% @zf5) ∧ (type_of% @zjo))) ∧ (((type_of% @jje) ∧ (type_of% @jjf)) ∧ ((type_of% @jjg) ∧ (type_of% @jjh))))) ∧ (((((type_of% @zf8) ∧ (type_of% @zf9)) ∧ ((type_of% @zhp) ∧ (type_of% @zho))) ∧ (((type_of% @zex) ∧ (type_of% @zey)) ∧ ((type_of% @zga) ∧ (type_of% @zgb)))) ∧ ((((type_of% @zgc) ∧ (type_of% @zgd)) ∧ ((type_of% @zdm) ∧ (type_of% @zdn))) ∧ (((type_of% @zdo) ∧ (type_of% @zdv)) ∧ ((type_of% @zhw) ∧ (type_of% @zhx)))))) := ⟨⟨⟨⟨@zeg, ⟨@zeh, @ze4⟩⟩, ⟨⟨@ze5, @ze7⟩, ⟨@zf6, @zf7⟩⟩⟩, ⟨⟨⟨@zf3, @zf4⟩, ⟨@zf5, @zjo⟩⟩, ⟨⟨@jje, @jjf⟩, ⟨@jjg, @jjh⟩⟩⟩⟩, ⟨⟨⟨⟨@zf8, @zf9⟩, ⟨@zhp, @zho⟩⟩, ⟨⟨@zex, @zey⟩, ⟨@zga, @zgb⟩⟩⟩, ⟨⟨⟨@zgc, @zgd⟩, ⟨@zdm, @zdn⟩⟩, ⟨⟨@zdo, @zdv⟩, ⟨@zhw, @zhx⟩⟩⟩⟩⟩
section
variable {P : Program} {KT : TypeId → Bool} {H : zap} {ρ : Operand → AV}
theorem zcf {t : TypeId} {m k y : Operand} : zhq P KT ρ (.insert t m k y) H [] = muF P KT t (ρ m) (ρ k) (ρ y) H (jtq P KT ρ (.insert t m k y) H) := by
 unfold muF
 split
 ·rename_i id n hm hk
  unfold zhq muG
  simp only [hm, hk, zky, List.all_nil, Bool.and_true]
  cases zgr P t with
  | none => rfl
  | some q => rfl
 ·rfl
theorem jge {f : FuncId} {xs : List AV} {ds : List D} {r : AV} (hp : zbd P f ds r) (hd : ∀ (w : World) (pl : List (Option (Nat × Nat))) (own : Nat → Prop) (vals : Array Value), vals.size = xs.length → (∀ j x, xs[j]? = some x → Rd w pl own x (vals.getD j undef)) → vals.size = ds.length ∧ ∀ j x, ds[j]? = some x → RdD w own x (vals.getD j undef)) : IcS P f xs H fun x H' => x = r ∧ H' = H := by
 refine ⟨hp.1, fun E w pl vals hl hx hh hE => ?_⟩
 have hR : RelS ⟨E, w, zgg H pl, 0, pl⟩ (fun _ => .any) H [] pl { tmps := #[], defers := [] } w :=
  ⟨hh, Stp.refl _ _, fun id o p h1 h2 h3 => .inl ⟨id, o, p.2, h1, h2, h3⟩, hE, fun t => .any _, rfl, rfl, fun i p hi => hi⟩
 obtain ⟨l1, l2⟩ := hd w pl (zb0 E H pl) vals hl hx
 refine (hp.2 w (zb0 E H pl) vals l1 l2 hR.own_lt).mono fun e w' ⟨v, he, hr, hb⟩ => ?_
 have h1 := hR.below hb
 exact ⟨v, _, H, pl, he, ⟨rfl, rfl⟩, hr.mono (Nat.le_refl _) (fun _ _ _ => rfl) (fun _ _ h => h) (fun _ _ h => h) (fun i p hp => by simp at hp), h1.h, h1.stp, fun b ⟨i, o, e, b1, b2, b3⟩ => h1.own0 i o (b, e) b1 b2 b3, h1.keep⟩
end
theorem jk7 : zbd Try.prog 76 [.fs [] 0] (.tup []) := zb7 (n := 60) mixed zak (by kernel_rfl)
theorem sort0_ic {H : zap} {id : Nat} : IcS Try.prog 76 [.os 1 id 0 0] H fun x H' => x = .tup [] ∧ H' = H :=
 jge jk7 fun w pl own vals hl hx => ⟨hl, fun j x hj => by
  match j, hj with
  | 0, hj =>
   cases hj
   have h0 := hx 0 _ rfl
   generalize vals.getD 0 undef = v at h0 ⊢
   cases h0 with
   | os _ _ _ _ cap b base sz t hp hsh hn hm hz => exact .f0 _ cap hm (fun e => by cases e)
   | os0 _ _ _ a => exact .f0 a 0 (Nat.zero_le _) (fun _ => rfl)⟩
theorem zbx : joq Try.prog KT 134 = true := by kernel_rfl
theorem jgf {H : zap} {id : Nat} {l : List Int} (hid : H[id]? = some (.cells (avs (l.map iD)))) (hl : l.length ≤ 1000000) : IcS Try.prog 76 [.os 1 id 0 l.length] H fun x H' => x = .tup [] ∧ H' = H.set id (.cells (avs ((zlr l).map iD))) := by
 by_cases h0 : l = []
 ·subst h0
  refine sort0_ic.mono fun x H' ⟨h1, h2⟩ => ⟨h1, ?_⟩
  rw [h2]
  have : zlr [] = [] := by simp [zlr]
  rw [this]
  refine (List.ext_getElem? fun i => ?_).symm
  rw [List.getElem?_set]
  split
  ·rename_i e; subst e; rw [if_pos (List.getElem?_eq_some_iff.1 hid).1, hid]
  ·rfl
 ·exact jk5 hid h0 hl
def T.vs : T → List Nat
 | .leaf _ => []
 | .node v l h => v :: (l.vs ++ h.vs)
inductive Sub : T → T → Prop where
 | refl (t : T) : Sub t t
 | lo {s : T} {v : Nat} {l h : T} (k : Sub s l) : Sub s (.node v l h)
 | hi {s : T} {v : Nat} {l h : T} (k : Sub s h) : Sub s (.node v l h)
theorem Sub.trans {r s t : T} (h : Sub r s) (k : Sub s t) : Sub r t := by
 induction k with
 | refl => exact h
 | lo _ ih => exact .lo ih
 | hi _ ih => exact .hi ih
theorem vs_sub {v : Nat} : ∀ {t : T}, v ∈ t.vs ↔ ∃ s, Sub s t ∧ s.lf = false ∧ s.v = v
 | .leaf b => by
  constructor
  ·intro h; cases h
  ·rintro ⟨s, hs, h1, _⟩
   cases hs; cases h1
 | .node u l h => by
  simp only [T.vs, List.mem_cons, List.mem_append]
  constructor
  ·rintro (rfl | hv | hv)
   ·exact ⟨_, .refl _, rfl, rfl⟩
   ·obtain ⟨s, h1, h2⟩ := vs_sub.1 hv; exact ⟨s, .lo h1, h2⟩
   ·obtain ⟨s, h1, h2⟩ := vs_sub.1 hv; exact ⟨s, .hi h1, h2⟩
  ·rintro ⟨s, hs, h1, h2⟩
   cases hs with
   | refl => exact .inl h2.symm
   | lo k => exact .inr (.inl (vs_sub.2 ⟨s, k, h1, h2⟩))
   | hi k => exact .inr (.inr (vs_sub.2 ⟨s, k, h1, h2⟩))
theorem jgg {V : Nat} : ∀ {t : T} {k : Nat}, t.Ok V k → ∀ v ∈ t.vs, k ≤ v ∧ v < V
 | .leaf b, _, _, v, h => by cases h
 | .node u l h, k, ht, v, hv => by
  simp only [T.vs, List.mem_cons, List.mem_append] at hv
  have h1 := ht.1
  have h2 := ht.2.1
  rcases hv with rfl | hv | hv
  ·exact ⟨h1, h2⟩
  ·have := jgg ht.2.2.2.1 v hv; omega
  ·have := jgg ht.2.2.2.2 v hv; omega
def ziq (t : T) : List Int := ((List.range 1000).filter fun v => decide (v ∈ t.vs)).map fun (v : Nat) => (v : Int)
theorem ztx {V : Nat} (hV : V ≤ 1000) {t : T} {k : Nat} (ht : t.Ok V k) {x : Int} : x ∈ ziq t ↔ ∃ v, v ∈ t.vs ∧ x = (v : Nat) := by
 unfold ziq
 rw [List.mem_map]
 constructor
 ·rintro ⟨v, hv, rfl⟩
  exact ⟨v, by simpa using (List.mem_filter.1 hv).2, rfl⟩
 ·rintro ⟨v, hv, rfl⟩
  exact ⟨v, List.mem_filter.2 ⟨List.mem_range.2 (by have := (jgg ht v hv).2; omega), by simpa using hv⟩, rfl⟩
theorem zmp (t : T) : (ziq t).Pairwise (fun a b => a < b) := by
 unfold ziq
 rw [List.pairwise_map]
 refine List.Pairwise.imp (R := fun a b : Nat => a < b) (fun h => by omega) (List.Pairwise.filter _ ?_)
 exact List.pairwise_lt_range
theorem zy5 {V : Nat} (hV : V ≤ 1000) {t : T} {k : Nat} (ht : t.Ok V k) {l : List Int} (hn : l.Nodup) (hm : ∀ x, x ∈ l ↔ ∃ v, v ∈ t.vs ∧ x = (v : Nat)) : zlr l = ziq t := by
 have hp : l.Perm (ziq t) := (List.perm_ext_iff_of_nodup hn ((zmp t).imp fun h => by omega)).2 fun x => by rw [hm x, ztx hV ht]
 refine List.Perm.eq_of_pairwise (le := fun a b => leI a b = true) (fun a b _ _ h1 h2 => ?_) (List.pairwise_mergeSort jqs jqt l) ((zmp t).imp fun h => by simp [leI]; omega) ((List.mergeSort_perm l leI).trans hp)
 simp only [leI, decide_eq_true_eq] at h1 h2
 omega
theorem jdq {V : Nat} {us : List T} (hr : RowOk V us) {t : T} (h : t ∈ us) : num us t.l < num us t ∧ num us t.h < num us t := by
 obtain ⟨k, hk, rfl⟩ := List.getElem_of_mem h
 have hc := hr.ch k hk
 rw [zb6 hk] at hc
 have hp : us.take k <+: us := List.take_prefix _ _
 have hnum : num us us[k] = 2 + k := by
  have := zql hr (k := 2 + k) (by omega)
  rw [show nth (zbr us) (2 + k) = us[k] from by rw [zb6 (by rw [zew]; omega)]; simp [zbr, Nat.add_comm 2 k]] at this
  exact this
 have h1 := zee hc.1
 have h2 := zee hc.2
 rw [List.length_take, Nat.min_eq_left (by omega)] at h1 h2
 rw [zdp hp hc.1, zdp hp hc.2, hnum]
 exact ⟨h1, h2⟩
def jmb (us : List T) (node : Int) : List Int := if zjh us node then ziq (zcp us node) else []
structure SInv (us : List T) (t : T) (k : Int) (σn σv : zk8) : Prop where
 o1 : OkS σn
 o2 : OkS σv
 n1 : (num us t : Int) ∈ zdl σn
 n2 : ∀ x ∈ zdl σn, ∃ s, Sub s t ∧ s ∈ zbr us ∧ x = (num us s : Nat)
 n3 : ∀ s ∈ zbr us, s.lf = false → k < num us s → (num us s : Int) ∈ zdl σn → (s.v : Int) ∈ zdl σv ∧ (num us s.l : Int) ∈ zdl σn ∧ (num us s.h : Int) ∈ zdl σn
 n4 : ∀ x ∈ zdl σv, ∃ s, Sub s t ∧ s.lf = false ∧ x = (s.v : Nat)
 l1 : σv.1.length ≤ us.length + 1 - k.toNat
theorem SInv.all {us : List T} {V : Nat} (hr : RowOk V us) {t : T} (ht : t ∈ zbr us) {k : Int} (hk : k < 2) {σn σv : zk8} (h : SInv us t k σn σv) : ∀ {s : T}, Sub s t → s ∈ zbr us ∧ (num us s : Int) ∈ zdl σn := by
 intro s hs
 suffices ∀ q, Sub s q → q ∈ zbr us → (num us q : Int) ∈ zdl σn → s ∈ zbr us ∧ (num us s : Int) ∈ zdl σn from this t hs ht h.n1
 intro q hq
 induction hq with
 | refl => exact fun h1 h2 => ⟨h1, h2⟩
 | lo _ ih =>
  intro h1 h2
  have h3 := h.n3 _ h1 rfl (by have := zl2 hr h1 rfl; omega) h2
  exact ih (hr.chf h1).1 h3.2.1
 | hi _ ih =>
  intro h1 h2
  have h3 := h.n3 _ h1 rfl (by have := zl2 hr h1 rfl; omega) h2
  exact ih (hr.chf h1).2 h3.2.2
theorem SInv.vars {us : List T} {V : Nat} (hr : RowOk V us) {t : T} (ht : t ∈ zbr us) {k : Int} (hk : k < 2) {σn σv : zk8} (h : SInv us t k σn σv) (x : Int) : x ∈ zdl σv ↔ ∃ v, v ∈ t.vs ∧ x = (v : Nat) := by
 constructor
 ·intro hx
  obtain ⟨s, h1, h2, rfl⟩ := h.n4 x hx
  exact ⟨s.v, vs_sub.2 ⟨s, h1, h2, rfl⟩, rfl⟩
 ·rintro ⟨v, hv, rfl⟩
  obtain ⟨s, h1, h2, rfl⟩ := vs_sub.1 hv
  obtain ⟨h3, h4⟩ := h.all hr ht hk h1
  exact (h.n3 s h3 h2 (by have := zl2 hr h3 h2; omega) h4).1
theorem jmc {n : Nat} (h : n ≤ 4000000000) : I64 (n : Int) := jji h
theorem SInv.take {us : List T} {V : Nat} (hr : RowOk V us) (hul : us.length ≤ zel) (hV : V ≤ 1000) {t s : T} {k : Int} {σn σv : zk8} (h : SInv us t k σn σv) (hs : s ∈ zbr us) (h2 : s.lf = false) (hk : k = num us s) (hm : k ∈ zdl σn) :
  SInv us t (k - 1) (zr1 (num us s.h) (zr1 (num us s.l) σn)) (zr1 s.v σv) := by
 have hc := hr.chf hs
 have hin := jk6 hs h2
 have hch := jdq hr hin
 have hlt := zee hs
 have hok := hr.okf hs
 obtain ⟨q, hq1, hq2, hq3⟩ := h.n2 k hm
 have hqs : q = s := zdi hq2 hs (by omega)
 subst hqs
 have hv : I64 (q.v : Int) := jmc (by
  obtain ⟨v, l, r, rfl⟩ := zqk h2
  have := hok.2.1
  show v ≤ _; omega)
 unfold zel at hul
 refine ⟨(h.o1.put (jmc (by have := zee hc.1; omega))).put (jmc (by have := zee hc.2; omega)), h.o2.put hv, by rw [mem_put, mem_put]; exact .inr (.inr h.n1), fun x hx => ?_, fun s' h1 h3 h4 h5 => ?_, fun x hx => ?_, ?_⟩
 ·rw [mem_put, mem_put] at hx
  obtain ⟨v, l, r, rfl⟩ := zqk h2
  rcases hx with rfl | rfl | hx
  ·exact ⟨r, (Sub.hi (.refl r)).trans hq1, hc.2, rfl⟩
  ·exact ⟨l, (Sub.lo (.refl l)).trans hq1, hc.1, rfl⟩
  ·exact h.n2 x hx
 ·by_cases e : num us s' = num us q
  ·have : s' = q := zdi h1 hs e
   subst this
   rw [mem_put, mem_put, mem_put, mem_put, mem_put]
   exact ⟨.inl rfl, .inr (.inl rfl), .inl rfl⟩
  ·have h6 : (num us s' : Int) ∈ zdl σn := by
    rw [mem_put, mem_put] at h5
    rcases h5 with h5 | h5 | h5
    ·exact absurd h5 (by omega)
    ·exact absurd h5 (by omega)
    ·exact h5
   obtain ⟨a1, a2, a3⟩ := h.n3 s' h1 h3 (by omega) h6
   rw [mem_put, mem_put, mem_put, mem_put, mem_put]
   exact ⟨.inr a1, .inr (.inr a2), .inr (.inr a3)⟩
 ·rw [mem_put] at hx
  rcases hx with rfl | hx
  ·exact ⟨q, hq1, h2, rfl⟩
  ·exact h.n4 x hx
 ·have := jkr (q.v : Int) σv
  have := h.l1
  have := zl2 hr hs h2
  omega
theorem SInv.skip {us : List T} {t : T} {k : Int} {σn σv : zk8} (h : SInv us t k σn σv) (hm : k ∉ zdl σn) : SInv us t (k - 1) σn σv := by
 refine ⟨h.o1, h.o2, h.n1, h.n2, fun s h1 h2 h3 h4 => ?_, h.n4, by have := h.l1; omega⟩
 by_cases e : (num us s : Int) = k
 ·exact absurd (e ▸ h4) hm
 ·exact h.n3 s h1 h2 (by omega) h4
theorem SInv.start {us : List T} {t : T} (ht : t ∈ zbr us) {k : Int} (hk : k = num us t) (h6 : I64 k) : SInv us t k (zr1 k ([], 0)) ([], 0) := by
 subst hk
 refine ⟨(OkS.nil 0).put h6, .nil 0, mem_put.2 (.inl rfl), fun x hx => ?_, fun s h1 h2 h3 h4 => ?_, fun x hx => (by cases hx), by simp⟩
 ·rcases mem_put.1 hx with rfl | hx
  ·exact ⟨t, .refl t, ht, rfl⟩
  ·cases hx
 ·rcases mem_put.1 h4 with h | h
  ·omega
  ·cases h
theorem jdr (t : T) : (ziq t).length ≤ 1000 := by
 unfold ziq
 rw [List.length_map]
 exact Nat.le_trans (List.length_filter_le _ _) (by simp)
theorem jqv {P : Program} {sm : List Nat} {N : Nat} {τ : Fr} {H : zap} {f : FuncId} {args : List AV} {x : AV} {H1 : zap} {KK : AV → zap → Prop} (h : IcS P f args H fun x' H' => x' = x ∧ H' = H1) (hK : KK x H1) : kC P sm N H τ (.d (.val (.func (.func f) #[] #[]))) args true (tg KK) :=
 jnr h fun _ _ ⟨a, b⟩ => by rw [a, b]; exact hK
theorem jds (V : Nat) (us : List T) (rs : List Nat) (hr : RowOk V us) (hV : V ≤ 1000) (hul : us.length ≤ zel) (node : Int) : zbd Try.prog 74 [zbw (zlp us) rs, iD node] (.d (intsD (jmb us node))) := by
 have hul0 := hul
 unfold zel at hul
 have hel := zal us
 refine zbg (fn := Try.f74) (by kernel_rfl) Try.func74 rfl (Nat.le_of_ble_eq_true rfl) fun c hc hp => ?_
 refine zbh (τ' := frL [(0, .d (zbw (zlp us) rs)), (1, .d (iD node))]) (by repeat (first | exact zam _ | refine zai ?_ (by first | rfl | (simp [r_f, zad, zal]; done) | simp [r_f, zad, zal, *]))) ?_
 refine zac hp zak hc rfl fun K1 hK1 => ?_
 simp -dsimp -implicitDefEqProofs (disch := first | assumption | omega | (simp only [r_z, zad, zal] <;> omega) | decide) only [r_r, ↓reduceIte, Nat.reduceEqDiff, Nat.reduceAdd, D.fix, Int.reduceToNat, Nat.reduceMul, Nat.reduceBNe, Nat.reduceBEq, zbw, zb1, zcc, zcf, zcs, zcd zbx, zed, zb4, zce zbx, zcv, zct, zcu, zkt]
 refine hK1 _ _ ?_
 refine zao fun K2 hK2 => ?_
 refine zac hp zak hc rfl fun K3 hK3 => ?_
 rcases (show node < 0 ∨ (0 ≤ node ∧ 2 + (us.length : Int) ≤ node) ∨ (0 ≤ node ∧ node < 2 + (us.length : Int)) by omega) with q | ⟨q, q'⟩ | ⟨q, q'⟩
 ·have q1 : decide (node < 0) = true := by simp; omega
  have q2 := q1
  have hx : zjh us node = false := by unfold zjh; rw [decide_eq_false (by omega)]; rfl
  simp -dsimp -implicitDefEqProofs (disch := first | assumption | omega | (simp only [r_z, zad, zal] <;> omega) | decide) only [r_r, ↓reduceIte, Nat.reduceEqDiff, Nat.reduceAdd, D.fix, Int.reduceToNat, Nat.reduceMul, Nat.reduceBNe, Nat.reduceBEq, zbw, zb1, zcc, zcf, zcs, zcd zbx, zed, zb4, zce zbx, zcv, zct, zcu, q1, q2, zkt]
  refine hK3 _ _ ?_
  refine zaq rfl (fun ht => ?_) (fun ht => ?_)
  ·refine zac hp zak hc rfl fun K4 hK4 => ?_
   simp -dsimp -implicitDefEqProofs (disch := first | assumption | omega | (simp only [r_z, zad, zal] <;> omega) | decide) only [r_r, ↓reduceIte, Nat.reduceEqDiff, Nat.reduceAdd, D.fix, Int.reduceToNat, Nat.reduceMul, Nat.reduceBNe, Nat.reduceBEq, zbw, zb1, zcc, zcf, zcs, zcd zbx, zed, zb4, zce zbx, zcv, zct, zcu]
   refine hK4 _ _ ?_
   refine za4 ?_
   show closeA _ _ = _
   simp (disch := first | assumption | omega | (simp only [r_z, zad, zal] <;> omega) | decide) only [r_c, Nat.reduceAdd, D.fix, ↓reduceIte, Nat.reduceEqDiff, zbw, zb1, zcc, zcf, zcs, zcd zbx, zed, zb4, zce zbx, zcv, zct, zcu]
   simp [jmb, hx]
  ·cases ht
 ·have q1 : decide (node < 0) = false := by simp; omega
  have q2 : decide (2 + ((zlp us).length : Int) ≤ node) = true := by simp [hel]; omega
  have hx : zjh us node = false := by unfold zjh; rw [decide_eq_false (p := node < 2 + (us.length : Int)) (by omega)]; simp
  simp -dsimp -implicitDefEqProofs (disch := first | assumption | omega | (simp only [r_z, zad, zal] <;> omega) | decide) only [r_r, ↓reduceIte, Nat.reduceEqDiff, Nat.reduceAdd, D.fix, Int.reduceToNat, Nat.reduceMul, Nat.reduceBNe, Nat.reduceBEq, zbw, zb1, zcc, zcf, zcs, zcd zbx, zed, zb4, zce zbx, zcv, zct, zcu, q1, q2, zkt]
  refine hK3 _ _ ?_
  refine zaq rfl (fun ht => ?_) (fun ht => ?_)
  ·refine zac hp zak hc rfl fun K5 hK5 => ?_
   simp -dsimp -implicitDefEqProofs (disch := first | assumption | omega | (simp only [r_z, zad, zal] <;> omega) | decide) only [r_r, ↓reduceIte, Nat.reduceEqDiff, Nat.reduceAdd, D.fix, Int.reduceToNat, Nat.reduceMul, Nat.reduceBNe, Nat.reduceBEq, zbw, zb1, zcc, zcf, zcs, zcd zbx, zed, zb4, zce zbx, zcv, zct, zcu]
   refine hK5 _ _ ?_
   refine za4 ?_
   show closeA _ _ = _
   simp (disch := first | assumption | omega | (simp only [r_z, zad, zal] <;> omega) | decide) only [r_c, Nat.reduceAdd, D.fix, ↓reduceIte, Nat.reduceEqDiff, zbw, zb1, zcc, zcf, zcs, zcd zbx, zed, zb4, zce zbx, zcv, zct, zcu]
   simp [jmb, hx]
  ·cases ht
 ·have q1 : decide (node < 0) = false := by simp; omega
  have q2 : decide (2 + ((zlp us).length : Int) ≤ node) = false := by simp [hel]; omega
  have hx : zjh us node = true := by unfold zjh; rw [decide_eq_true q, decide_eq_true q']; rfl
  have hnt : (num us (zcp us node) : Int) = node := by unfold zcp; rw [zql hr (k := node.toNat) (by omega)]; omega
  have hti : zcp us node ∈ zbr us := jdp (us := us) (k := node.toNat) (by omega)
  have hn64 : I64 node := by unfold I64; omega
  have ho0 : OkS ([], 0) := OkS.nil 0
  simp -dsimp -implicitDefEqProofs (disch := first | assumption | omega | (simp only [r_z, zad, zal] <;> omega) | decide) only [r_r, ↓reduceIte, Nat.reduceEqDiff, Nat.reduceAdd, D.fix, Int.reduceToNat, Nat.reduceMul, Nat.reduceBNe, Nat.reduceBEq, zbw, zb1, zcc, zcf, zcs, zcd zbx, zed, zb4, zce zbx, zcv, zct, zcu, q1, q2, zkt]
  refine hK3 _ _ ?_
  refine zaq rfl (fun ht => ?_) (fun ht => ?_)
  ·cases ht
  ·refine zay (hK2 _ _ ?_)
   refine zac hp zak hc rfl fun K6 hK6 => ?_
   simp -dsimp -implicitDefEqProofs (disch := first | assumption | omega | (simp only [r_z, zad, zal] <;> omega) | decide) only [r_r, ↓reduceIte, Nat.reduceEqDiff, Nat.reduceAdd, D.fix, Int.reduceToNat, Nat.reduceMul, Nat.reduceBNe, Nat.reduceBEq, zbw, zb1, zcc, zcf, zcs, zcd zbx, zed, zb4, zce zbx, zcv, zct, zcu, zkt]
   refine hK6 _ _ ?_
   refine zac hp zak hc rfl fun K7 hK7 => ?_
   simp -dsimp -implicitDefEqProofs (disch := first | assumption | omega | (simp only [r_z, zad, zal] <;> omega) | decide) only [r_r, ↓reduceIte, Nat.reduceEqDiff, Nat.reduceAdd, D.fix, Int.reduceToNat, Nat.reduceMul, Nat.reduceBNe, Nat.reduceBEq, zbw, zb1, zcc, zcf, zcs, zcd zbx, zed, zb4, zce zbx, zcv, zct, zcu, zkt]
   refine hK7 _ _ ?_
   refine zao fun K8 hK8 => ?_
   refine zac hp zak hc rfl fun K9 hK9 => ?_
   simp -dsimp -implicitDefEqProofs (disch := first | assumption | omega | (simp only [r_z, zad, zal] <;> omega) | decide) only [r_r, ↓reduceIte, Nat.reduceEqDiff, Nat.reduceAdd, D.fix, Int.reduceToNat, Nat.reduceMul, Nat.reduceBNe, Nat.reduceBEq, zbw, zb1, zcc, zcf, zcs, zcd zbx, zed, zb4, zce zbx, zcv, zct, zcu]
   refine hK9 _ _ ?_
   refine zaz ?_
   refine zbb hp (fun τ' H' mm => ∃ (k : Int) (σn : zk8) (σv : zk8), (SInv us (zcp us node) k σn σv ∧ k ≤ node) ∧ mm = k.toNat ∧ H' = [.cells (avs (zb1 (zlp us) rs)), zny σn, zny σv] ∧ τ' = frL [(2, .op 0 0), (5, .om 1), (6, .om 2), (7, .d (iD k))]) (node.toNat) ?_ ⟨node, _, _, ⟨SInv.start hti hnt.symm hn64, Int.le_refl _⟩, rfl, rfl, rfl⟩ ?_
   ·refine Rt.end (by repeat (first | exact zam _ | refine zai ?_ (by first | rfl | (simp [r_f, zad, zal]; done) | simp [r_f, zad, zal, *]))) ?_
    first | rfl | (simp only [r_g, Nat.reduceAdd, ↓reduceIte, Nat.reduceEqDiff, zbw, zb1, zcc, zcf, zcs, zcd zbx, zed, zb4, zce zbx, zcv, zct, zcu]; first | done | rfl)
   rintro τ' H' mm ⟨k, σn, σv, ⟨hinv, hkn⟩, rfl, rfl, rfl⟩
   have ho1 := hinv.o1
   have ho2 := hinv.o2
   refine zao fun K10 hK10 => ?_
   refine zac hp zak hc rfl fun K11 hK11 => ?_
   simp -dsimp -implicitDefEqProofs (disch := first | assumption | omega | (simp only [r_z, zad, zal] <;> omega) | decide) only [r_r, ↓reduceIte, Nat.reduceEqDiff, Nat.reduceAdd, D.fix, Int.reduceToNat, Nat.reduceMul, Nat.reduceBNe, Nat.reduceBEq, zbw, zb1, zcc, zcf, zcs, zcd zbx, zed, zb4, zce zbx, zcv, zct, zcu, zkt]
   refine hK11 _ _ ?_
   refine zaq rfl (fun ht => ?_) (fun ht => ?_)
   ·have hk2 : 2 ≤ k := by simpa using ht
    have hk64 : I64 k := by unfold I64; omega
    refine zay (hK10 _ _ ?_)
    refine zao fun K12 hK12 => ?_
    have hJ12 : ∀ τ' H', (∃ τ1 H1, ∃ (σn' : zk8) (σv' : zk8), (SInv us (zcp us node) (k - 1) σn' σv' ∧ 2 ≤ k) ∧ H1 = [.cells (avs (zb1 (zlp us) rs)), zny σn', zny σv'] ∧ τ1 = frL [(2, .op 0 0), (5, .om 1), (6, .om 2), (7, .d (iD k))] ∧ Rt [] τ' H' τ1 H1) → K12 τ' H' := by
     rintro τ' H' ⟨_, _, σn', σv', ⟨hinv', hk2⟩, rfl, rfl, hrt⟩
     refine hK12 _ _ (zb3 hp hrt ?_)
     clear hrt
     refine zbt hp zak hc rfl fun K13 hK13 => ?_
     simp -dsimp -implicitDefEqProofs (disch := first | assumption | omega | (simp only [r_z, zad, zal] <;> omega) | decide) only [r_r, ↓reduceIte, Nat.reduceEqDiff, Nat.reduceAdd, D.fix, Int.reduceToNat, Nat.reduceMul, Nat.reduceBNe, Nat.reduceBEq, zbw, zb1, zcc, zcf, zcs, zcd zbx, zed, zb4, zce zbx, zcv, zct, zcu, zkt]
     refine hK13 _ _ ⟨_, _, _, ?_, ⟨k - 1, _, _, ⟨hinv', by omega⟩, rfl, rfl, rfl⟩, ?_⟩
     ·first | omega | (simp only [List.length_cons]; omega) | (dsimp only; omega)
     ·refine Rt.end (by repeat (first | exact zam _ | refine zai ?_ (by first | rfl | (simp [r_f, zad, zal]; done) | simp [r_f, zad, zal, *]))) ?_
      first | rfl | (simp only [r_g, Nat.reduceAdd, ↓reduceIte, Nat.reduceEqDiff, zbw, zb1, zcc, zcf, zcs, zcd zbx, zed, zb4, zce zbx, zcv, zct, zcu]; first | done | rfl)
    refine zaz ?_
    refine zac hp zak hc rfl fun K14 hK14 => ?_
    simp -dsimp -implicitDefEqProofs (disch := first | assumption | omega | (simp only [r_z, zad, zal] <;> omega) | decide) only [r_r, ↓reduceIte, Nat.reduceEqDiff, Nat.reduceAdd, D.fix, Int.reduceToNat, Nat.reduceMul, Nat.reduceBNe, Nat.reduceBEq, zbw, zb1, zcc, zcf, zcs, zcd zbx, zed, zb4, zce zbx, zcv, zct, zcu, zkt]
    refine hK14 _ _ ?_
    refine zaq rfl (fun ht => ?_) (fun ht => ?_)
    ·have hm : k ∈ zdl σn := by simpa using ht
     obtain ⟨s, hsub, hsf, hks⟩ := hinv.n2 k hm
     have h2 : s.lf = false := by
      rcases zqj s with h | h
      ·have := jjp (us := us) h; omega
      ·exact h
     obtain ⟨v, lo, hi, rfl⟩ := zqk h2
     have h3 := zl2 hr hsf h2
     have hlt := zee hsf
     subst hks
     have hx1 : ((num us (.node v lo hi) : Int) - 2).toNat = num us (.node v lo hi) - 2 := by omega
     have hg := zxy hr hsf h2
     have hcl : lo ∈ zbr us := (hr.chf hsf).1
     have hch : hi ∈ zbr us := (hr.chf hsf).2
     have hok := hr.okf hsf
     have hll := zee hcl
     have hlh := zee hch
     have i1 : I64 (v : Int) := jmc (by have := hok.2.1; omega)
     have i2 : I64 (num us lo : Int) := jmc (by omega)
     have i3 : I64 (num us hi : Int) := jmc (by omega)
     have ho3 : OkS (zr1 (num us lo : Int) σn) := ho1.put i2
     have htk : SInv us (zcp us node) ((num us (.node v lo hi) : Int) - 1) (zr1 (num us hi) (zr1 (num us lo) σn)) (zr1 (v : Int) σv) := hinv.take hr hul0 hV hsf h2 rfl hm
     refine zac hp zak hc rfl fun K15 hK15 => ?_
     simp -dsimp -implicitDefEqProofs (disch := first | assumption | omega | (simp only [r_z, zad, zal] <;> omega) | decide) only [r_r, ↓reduceIte, Nat.reduceEqDiff, Nat.reduceAdd, D.fix, Int.reduceToNat, Nat.reduceMul, Nat.reduceBNe, Nat.reduceBEq, zbw, zb1, zcc, zcf, zcs, zcd zbx, zed, zb4, zce zbx, zcv, zct, zcu, hx1, zxn, jkv, hg, ndC, zjn, T.v, T.l, T.h, zkt]
     refine hK15 _ _ ?_
     refine znh zak hp hc mixed rfl [(0, []), (1, []), (2, []), (3, []), (4, []), (5, []), (6, []), (7, []), (8, []), (9, [5, 8]), (10, [8]), (11, [])] [[], [], [1], [], [], [4], [], [], [7], [0, 1, 2], [0, 1, 2, 3, 4, 5, 9], [0, 1, 2, 3, 4, 5, 6, 7, 8, 9, 10]] 0 (by kernel_rfl) fun K16 hK16 => ?_
     simp -dsimp -implicitDefEqProofs (disch := first | assumption | omega | (simp only [r_z, zad, zal] <;> omega) | decide) only [r_r, ↓reduceIte, Nat.reduceEqDiff, Nat.reduceAdd, D.fix, Int.reduceToNat, Nat.reduceMul, Nat.reduceBNe, Nat.reduceBEq, r_w, zbw, zb1, zcc, zcf, zcs, zcd zbx, zed, zb4, zce zbx, zcv, zct, zcu, zkt]
     refine hK16 _ _ (hJ12 _ _ ⟨_, _, _, _, ⟨htk, hk2⟩, rfl, rfl, ?_⟩)
     refine Rt.trans (Rt.gc (keep := [0,1,2]) (by decide) (by decide) (by simp [fzH, gcH])) ?_
     refine Rt.end (by repeat (first | exact zam _ | refine zai ?_ (by first | rfl | (simp [r_f, zad, zal]; done) | simp [r_f, zad, zal, *]))) ?_
     first | rfl | (simp only [r_g, Nat.reduceAdd, ↓reduceIte, Nat.reduceEqDiff, zbw, zb1, zcc, zcf, zcs, zcd zbx, zed, zb4, zce zbx, zcv, zct, zcu]; first | done | rfl)
    ·have hm : k ∉ zdl σn := by simpa using ht
     refine zay (hJ12 _ _ ⟨_, _, _, _, ⟨hinv.skip hm, hk2⟩, rfl, rfl, ?_⟩)
     refine Rt.end (by repeat (first | exact zam _ | refine zai ?_ (by first | rfl | (simp [r_f, zad, zal]; done) | simp [r_f, zad, zal, *]))) ?_
     first | rfl | (simp only [r_g, Nat.reduceAdd, ↓reduceIte, Nat.reduceEqDiff, zbw, zb1, zcc, zcf, zcs, zcd zbx, zed, zb4, zce zbx, zcv, zct, zcu]; first | done | rfl)
   ·have hk2 : k < 2 := by simpa using ht
    have hlv := hinv.l1
    refine zbn (hK8 _ _ ?_)
    refine zac hp zak hc rfl fun K17 hK17 => ?_
    simp -dsimp -implicitDefEqProofs (disch := first | assumption | omega | (simp only [r_z, zad, zal] <;> omega) | decide) only [r_r, ↓reduceIte, Nat.reduceEqDiff, Nat.reduceAdd, D.fix, Int.reduceToNat, Nat.reduceMul, Nat.reduceBNe, Nat.reduceBEq, zbw, zb1, zcc, zcf, zcs, zcd zbx, zed, zb4, zce zbx, zcv, zct, zcu]
    refine hK17 _ _ ?_
    refine zao fun K18 hK18 => ?_
    refine zb3 hp (τ' := frL [(6, .om 0), (9, .os 1 1 0 0)]) (H' := [zny σv, .cells []]) ?_ ?_
    ·refine Rt.trans (Rt.gc (keep := [2]) (by decide) (by decide) (by simp [fzH, gcH])) ?_
     refine Rt.trans (Rt.nil 9 1 rfl) ?_
     refine Rt.end (by repeat (first | exact zam _ | refine zai ?_ (by first | rfl | (simp [r_f, zad, zal]; done) | simp [r_f, zad, zal, *]))) ?_
     first | rfl | (simp only [r_g, Nat.reduceAdd, ↓reduceIte, Nat.reduceEqDiff, zbw, zb1, zcc, zcf, zcs, zcd zbx, zed, zb4, zce zbx, zcv, zct, zcu]; first | done | rfl)
    refine zyq (σ := σv) (id := 0) hp hc (ho2) ((by unfold maxLen; omega)) rfl Try.underlying134 jts Try.underlying3 rfl (by kernel_rfl) (by decide) (by decide) (fun r ss τ' H' => (ss.Nodup ∧ ∀ x ∈ ss, x ∈ zdl σv) ∧ H' = [zny σv, .cells (avs (ss.map iD))] ∧ τ' = frL [(49, .d (.val (.pointer (some ⟨r, 0, none⟩)))), (9, .os 1 1 0 ss.length)]) ?_ (fun r => ⟨_, _, ⟨⟨List.nodup_nil, fun x hx => (by cases hx)⟩, rfl, rfl⟩, ?_⟩) ?_ ?_
    ·rintro r ss _ _ ⟨hsl, rfl, rfl⟩; exact ⟨rfl, rfl⟩
    ·refine Rt.end (by repeat (first | exact zam _ | refine zai ?_ (by first | rfl | (simp [r_f, zad, zal]; done) | simp [r_f, zad, zal, *]))) ?_
     first | rfl | (simp only [r_g, Nat.reduceAdd, ↓reduceIte, Nat.reduceEqDiff, zbw, zb1, zcc, zcf, zcs, zcd zbx, zed, zb4, zce zbx, zcv, zct, zcu]; first | done | rfl)
    ·rintro r ss x _ _ c2 hc2 hp2 ⟨hsl, rfl, rfl⟩ hnew hmem
     simp only [zpd, List.map_cons, List.map_nil]
     have hsl2 : ss.length ≤ σv.1.length := by have := znq hsl.1 hsl.2; simpa [zdl] using this
     refine zbt hp2 zak hc2 rfl fun K19 hK19 => ?_
     simp -dsimp -implicitDefEqProofs (disch := first | assumption | omega | (simp only [r_z, zad, zal] <;> omega) | decide) only [r_r, ↓reduceIte, Nat.reduceEqDiff, Nat.reduceAdd, D.fix, Int.reduceToNat, Nat.reduceMul, Nat.reduceBNe, Nat.reduceBEq, zbw, zb1, zcc, zcf, zcs, zcd zbx, zed, zb4, zce zbx, zcv, zct, zcu, zkt]
     refine hK19 _ _ ⟨rfl, _, _, ⟨⟨List.nodup_append.2 ⟨hsl.1, by simp, fun a ha b hb => by simp at hb; subst hb; exact fun e => hnew (e ▸ ha)⟩, fun y hy => by rcases List.mem_append.1 hy with h | h; exact hsl.2 y h; simp at h; exact h ▸ hmem⟩, rfl, rfl⟩, ?_⟩
     refine Rt.trans (Rt.gc (keep := [0,3]) (by decide) (by decide) (by simp [fzH, gcH])) ?_
     refine Rt.end (by repeat (first | exact zam _ | refine zai ?_ (by first | rfl | (simp [r_f, zad, zal]; done) | simp [r_f, zad, zal, *]))) ?_
     simp only [r_g, Nat.reduceAdd, ↓reduceIte, Nat.reduceEqDiff, zbw, zb1, zcc, zcf, zcs, zcd zbx, zed, zb4, zce zbx, zcv, zct, zcu]; simp [iD]
    ·rintro r ss _ _ ⟨hsl, rfl, rfl⟩ hperm
     simp only [zpd, List.map_cons, List.map_nil]
     have hsort : zlr ss = ziq (zcp us node) := zy5 hV (hr.okf hti) (hperm.nodup_iff.2 ho2.keys) fun x => hperm.mem_iff.trans (hinv.vars hr hti hk2 x)
     have hlen : ss.length = (ziq (zcp us node)).length := by rw [← hsort, zsp]
     have hsl' : ss.length ≤ 1000000 := by rw [hlen]; have := jdr (zcp us node); omega
     refine (hK18 _ _ ?_)
     refine zac hp zak hc rfl fun K20 hK20 => ?_
     simp -dsimp -implicitDefEqProofs (disch := first | assumption | omega | (simp only [r_z, zad, zal] <;> omega) | decide) only [r_r, ↓reduceIte, Nat.reduceEqDiff, Nat.reduceAdd, D.fix, Int.reduceToNat, Nat.reduceMul, Nat.reduceBNe, Nat.reduceBEq, zbw, zb1, zcc, zcf, zcs, zcd zbx, zed, zb4, zce zbx, zcv, zct, zcu, zkt]
     refine jqv (jgf (l := ss) rfl hsl') ?_
     simp -dsimp -implicitDefEqProofs (disch := first | assumption | omega | (simp only [r_z, zad, zal] <;> omega) | decide) only [r_r, ↓reduceIte, Nat.reduceEqDiff, Nat.reduceAdd, D.fix, Int.reduceToNat, Nat.reduceMul, Nat.reduceBNe, Nat.reduceBEq, zbw, zb1, zcc, zcf, zcs, zcd zbx, zed, zb4, zce zbx, zcv, zct, zcu, zkt]
     refine hK20 _ _ ?_
     rw [hsort, hlen]
     refine zac hp zak hc rfl fun K21 hK21 => ?_
     simp -dsimp -implicitDefEqProofs (disch := first | assumption | omega | (simp only [r_z, zad, zal] <;> omega) | decide) only [r_r, ↓reduceIte, Nat.reduceEqDiff, Nat.reduceAdd, D.fix, Int.reduceToNat, Nat.reduceMul, Nat.reduceBNe, Nat.reduceBEq, zbw, zb1, zcc, zcf, zcs, zcd zbx, zed, zb4, zce zbx, zcv, zct, zcu]
     refine hK21 _ _ ?_
     refine za4 ?_
     show closeA _ _ = _
     simp (disch := first | assumption | omega | (simp only [r_z, zad, zal] <;> omega) | decide) only [r_c, Nat.reduceAdd, D.fix, ↓reduceIte, Nat.reduceEqDiff, zbw, zb1, zcc, zcf, zcs, zcd zbx, zed, zb4, zce zbx, zcv, zct, zcu]
     simp [jmb, hx]
end Go.Proofs.Ytignimmnnccblaa
