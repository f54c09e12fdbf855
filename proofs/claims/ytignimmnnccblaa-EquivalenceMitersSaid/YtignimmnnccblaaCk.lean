/- The support of a diagram. -/
import Derived.Test.YtignimmnnccblaaQr
import Derived.Test.YtignimmnnccblaaCj
set_option linter.unusedVariables false
set_option linter.unusedSimpArgs false
set_option maxRecDepth 100000
set_option maxHeartbeats 4000000
namespace Go.Proofs.Ytignimmnnccblaa
open Go Go.RowKit
theorem zkz : (((((type_of% @zeg) ∧ ((type_of% @zeh) ∧ (type_of% @zex))) ∧ (((type_of% @zey) ∧ (type_of% @zfa)) ∧ ((type_of% @zgi) ∧ (type_of% @zgj)))) ∧ ((((type_of% @zgf) ∧ (type_of% @zgg)) ∧ ((type_of% @zgh) ∧ (type_of% @zjs))) ∧ (((type_of% @jjl) ∧ (type_of% @jjm)) ∧ ((type_of% @jjn) ∧ (type_of% @jjo))))) ∧ (((((type_of% @zgk) ∧ (type_of% @zgl)) ∧ ((type_of% @zhv) ∧ (type_of% @zhu))) ∧ (((type_of% @zez) ∧ (type_of% @ze0)) ∧ ((type_of% @zgm) ∧ (type_of% @zgn)))) ∧ ((((type_of% @zgo) ∧ (type_of% @zgp)) ∧ ((type_of% @zde) ∧ (type_of% @zdf))) ∧ (((type_of% @zdg) ∧ (type_of% @zdq)) ∧ ((type_of% @zhq) ∧ (type_of% @zhr)))))) := ⟨⟨⟨⟨@zeg, ⟨@zeh, @zex⟩⟩, ⟨⟨@zey, @zfa⟩, ⟨@zgi, @zgj⟩⟩⟩, ⟨⟨⟨@zgf, @zgg⟩, ⟨@zgh, @zjs⟩⟩, ⟨⟨@jjl, @jjm⟩, ⟨@jjn, @jjo⟩⟩⟩⟩, ⟨⟨⟨⟨@zgk, @zgl⟩, ⟨@zhv, @zhu⟩⟩, ⟨⟨@zez, @ze0⟩, ⟨@zgm, @zgn⟩⟩⟩, ⟨⟨⟨@zgo, @zgp⟩, ⟨@zde, @zdf⟩⟩, ⟨⟨@zdg, @zdq⟩, ⟨@zhq, @zhr⟩⟩⟩⟩⟩
section
variable {P : Program} {KT : TypeId → Bool} {H : zar} {ρ : Operand → AV}
theorem zcg {t : TypeId} {m k y : Operand} : zhx P KT ρ (.insert t m k y) H [] = muF P KT t (ρ m) (ρ k) (ρ y) H (jt9 P KT ρ (.insert t m k y) H) := by
 unfold muF
 split
 ·rename_i id n hm hk
  unfold zhx muG
  simp only [hm, hk, zk4, List.all_nil, Bool.and_true]
  cases zg0 P t with
  | none => rfl
  | some q => rfl
 ·rfl
theorem jgm {f : FuncId} {xs : List AV} {ds : List D} {r : AV} (hp : za9 P f ds r) (hd : ∀ (w : World) (pl : List (Option (Nat × Nat))) (own : Nat → Prop) (vals : Array Value), vals.size = xs.length → (∀ j x, xs[j]? = some x → Rd w pl own x (vals.getD j undef)) → vals.size = ds.length ∧ ∀ j x, ds[j]? = some x → RdD w own x (vals.getD j undef)) : IcS P f xs H fun x H' => x = r ∧ H' = H := by
 refine ⟨hp.1, fun E w pl vals hl hx hh hE => ?_⟩
 have hR : RelS ⟨E, w, zgs H pl, 0, pl⟩ (fun _ => .any) H [] pl { tmps := #[], defers := [] } w :=
  ⟨hh, Stp.refl _ _, fun id o p h1 h2 h3 => .inl ⟨id, o, p.2, h1, h2, h3⟩, hE, fun t => .any _, rfl, rfl, fun i p hi => hi⟩
 obtain ⟨l1, l2⟩ := hd w pl (zbx E H pl) vals hl hx
 refine (hp.2 w (zbx E H pl) vals l1 l2 hR.own_lt).mono fun e w' ⟨v, he, hr, hb⟩ => ?_
 have h1 := hR.below hb
 exact ⟨v, _, H, pl, he, ⟨rfl, rfl⟩, hr.mono (Nat.le_refl _) (fun _ _ _ => rfl) (fun _ _ h => h) (fun _ _ h => h) (fun i p hp => by simp at hp), h1.h, h1.stp, fun b ⟨i, o, e, b1, b2, b3⟩ => h1.own0 i o (b, e) b1 b2 b3, h1.keep⟩
end
theorem jlg : za9 Try.prog 76 [.fs [] 0] (.tup []) := zb6 (n := 60) mixed zaj (by kernel_rfl)
theorem sort0_ic {H : zar} {id : Nat} : IcS Try.prog 76 [.os 1 id 0 0] H fun x H' => x = .tup [] ∧ H' = H :=
 jgm jlg fun w pl own vals hl hx => ⟨hl, fun j x hj => by
  match j, hj with
  | 0, hj =>
   cases hj
   have h0 := hx 0 _ rfl
   generalize vals.getD 0 undef = v at h0 ⊢
   cases h0 with
   | os _ _ _ _ cap b base sz t hp hsh hn hm hz => exact .f0 _ cap hm (fun e => by cases e)
   | os0 _ _ _ a => exact .f0 a 0 (Nat.zero_le _) (fun _ => rfl)⟩
theorem zbu : jo7 Try.prog KT 134 = true := by kernel_rfl
theorem jgn {H : zar} {id : Nat} {l : List Int} (hid : H[id]? = some (.cells (avs (l.map iD)))) (hl : l.length ≤ 1000000) : IcS Try.prog 76 [.os 1 id 0 l.length] H fun x H' => x = .tup [] ∧ H' = H.set id (.cells (avs ((zlr l).map iD))) := by
 by_cases h0 : l = []
 ·subst h0
  refine sort0_ic.mono fun x H' ⟨h1, h2⟩ => ⟨h1, ?_⟩
  rw [h2]
  have : zlr [] = [] := by simp [zlr]
  rw [this]
  refine (List.ext_getElem? fun i => ?_).symm
  rw [List.getElem?_set]
  split
  ·rename_i e; subst e; rw [if_pos (List.getElem?_eq_some_iff.1 hid).1, hid]
  ·rfl
 ·exact jle hid h0 hl
def T.vs : T → List Nat
 | .leaf _ => []
 | .node v l h => v :: (l.vs ++ h.vs)
inductive Sub : T → T → Prop where
 | refl (t : T) : Sub t t
 | lo {s : T} {v : Nat} {l h : T} (k : Sub s l) : Sub s (.node v l h)
 | hi {s : T} {v : Nat} {l h : T} (k : Sub s h) : Sub s (.node v l h)
theorem Sub.trans {r s t : T} (h : Sub r s) (k : Sub s t) : Sub r t := by
 induction k with
 | refl => exact h
 | lo _ ih => exact .lo ih
 | hi _ ih => exact .hi ih
theorem vs_sub {v : Nat} : ∀ {t : T}, v ∈ t.vs ↔ ∃ s, Sub s t ∧ s.lf = false ∧ s.v = v
 | .leaf b => by
  constructor
  ·intro h; cases h
  ·rintro ⟨s, hs, h1, _⟩
   cases hs; cases h1
 | .node u l h => by
  simp only [T.vs, List.mem_cons, List.mem_append]
  constructor
  ·rintro (rfl | hv | hv)
   ·exact ⟨_, .refl _, rfl, rfl⟩
   ·obtain ⟨s, h1, h2⟩ := vs_sub.1 hv; exact ⟨s, .lo h1, h2⟩
   ·obtain ⟨s, h1, h2⟩ := vs_sub.1 hv; exact ⟨s, .hi h1, h2⟩
  ·rintro ⟨s, hs, h1, h2⟩
   cases hs with
   | refl => exact .inl h2.symm
   | lo k => exact .inr (.inl (vs_sub.2 ⟨s, k, h1, h2⟩))
   | hi k => exact .inr (.inr (vs_sub.2 ⟨s, k, h1, h2⟩))
theorem jgo {V : Nat} : ∀ {t : T} {k : Nat}, t.Ok V k → ∀ v ∈ t.vs, k ≤ v ∧ v < V
 | .leaf b, _, _, v, h => by cases h
 | .node u l h, k, ht, v, hv => by
  simp only [T.vs, List.mem_cons, List.mem_append] at hv
  have h1 := ht.1
  have h2 := ht.2.1
  rcases hv with rfl | hv | hv
  ·exact ⟨h1, h2⟩
  ·have := jgo ht.2.2.2.1 v hv; omega
  ·have := jgo ht.2.2.2.2 v hv; omega
def zix (t : T) : List Int := ((List.range 1000).filter fun v => decide (v ∈ t.vs)).map fun (v : Nat) => (v : Int)
theorem zt8 {V : Nat} (hV : V ≤ 1000) {t : T} {k : Nat} (ht : t.Ok V k) {x : Int} : x ∈ zix t ↔ ∃ v, v ∈ t.vs ∧ x = (v : Nat) := by
 unfold zix
 rw [List.mem_map]
 constructor
 ·rintro ⟨v, hv, rfl⟩
  exact ⟨v, by simpa using (List.mem_filter.1 hv).2, rfl⟩
 ·rintro ⟨v, hv, rfl⟩
  exact ⟨v, List.mem_filter.2 ⟨List.mem_range.2 (by have := (jgo ht v hv).2; omega), by simpa using hv⟩, rfl⟩
theorem zmq (t : T) : (zix t).Pairwise (fun a b => a < b) := by
 unfold zix
 rw [List.pairwise_map]
 refine List.Pairwise.imp (R := fun a b : Nat => a < b) (fun h => by omega) (List.Pairwise.filter _ ?_)
 exact List.pairwise_lt_range
theorem zze {V : Nat} (hV : V ≤ 1000) {t : T} {k : Nat} (ht : t.Ok V k) {l : List Int} (hn : l.Nodup) (hm : ∀ x, x ∈ l ↔ ∃ v, v ∈ t.vs ∧ x = (v : Nat)) : zlr l = zix t := by
 have hp : l.Perm (zix t) := (List.perm_ext_iff_of_nodup hn ((zmq t).imp fun h => by omega)).2 fun x => by rw [hm x, zt8 hV ht]
 refine List.Perm.eq_of_pairwise (le := fun a b => leI a b = true) (fun a b _ _ h1 h2 => ?_) (List.pairwise_mergeSort jq8 jq9 l) ((zmq t).imp fun h => by simp [leI]; omega) ((List.mergeSort_perm l leI).trans hp)
 simp only [leI, decide_eq_true_eq] at h1 h2
 omega
theorem jd3 {V : Nat} {us : List T} (hr : RowOk V us) {t : T} (h : t ∈ us) : num us t.l < num us t ∧ num us t.h < num us t := by
 obtain ⟨k, hk, rfl⟩ := List.getElem_of_mem h
 have hc := hr.ch k hk
 rw [zb9 hk] at hc
 have hp : us.take k <+: us := List.take_prefix _ _
 have hnum : num us us[k] = 2 + k := by
  have := zqv hr (k := 2 + k) (by omega)
  rw [show nth (zbq us) (2 + k) = us[k] from by rw [zb9 (by rw [zew]; omega)]; simp [zbq, Nat.add_comm 2 k]] at this
  exact this
 have h1 := zee hc.1
 have h2 := zee hc.2
 rw [List.length_take, Nat.min_eq_left (by omega)] at h1 h2
 rw [zdr hp hc.1, zdr hp hc.2, hnum]
 exact ⟨h1, h2⟩
def jms (us : List T) (node : Int) : List Int := if zjl us node then zix (zct us node) else []
structure SInv (us : List T) (t : T) (k : Int) (σn σv : zle) : Prop where
 o1 : OkS σn
 o2 : OkS σv
 n1 : (num us t : Int) ∈ zdp σn
 n2 : ∀ x ∈ zdp σn, ∃ s, Sub s t ∧ s ∈ zbq us ∧ x = (num us s : Nat)
 n3 : ∀ s ∈ zbq us, s.lf = false → k < num us s → (num us s : Int) ∈ zdp σn → (s.v : Int) ∈ zdp σv ∧ (num us s.l : Int) ∈ zdp σn ∧ (num us s.h : Int) ∈ zdp σn
 n4 : ∀ x ∈ zdp σv, ∃ s, Sub s t ∧ s.lf = false ∧ x = (s.v : Nat)
 l1 : σv.1.length ≤ us.length + 1 - k.toNat
theorem SInv.all {us : List T} {V : Nat} (hr : RowOk V us) {t : T} (ht : t ∈ zbq us) {k : Int} (hk : k < 2) {σn σv : zle} (h : SInv us t k σn σv) : ∀ {s : T}, Sub s t → s ∈ zbq us ∧ (num us s : Int) ∈ zdp σn := by
 intro s hs
 suffices ∀ q, Sub s q → q ∈ zbq us → (num us q : Int) ∈ zdp σn → s ∈ zbq us ∧ (num us s : Int) ∈ zdp σn from this t hs ht h.n1
 intro q hq
 induction hq with
 | refl => exact fun h1 h2 => ⟨h1, h2⟩
 | lo _ ih =>
  intro h1 h2
  have h3 := h.n3 _ h1 rfl (by have := zl1 hr h1 rfl; omega) h2
  exact ih (hr.chf h1).1 h3.2.1
 | hi _ ih =>
  intro h1 h2
  have h3 := h.n3 _ h1 rfl (by have := zl1 hr h1 rfl; omega) h2
  exact ih (hr.chf h1).2 h3.2.2
theorem SInv.vars {us : List T} {V : Nat} (hr : RowOk V us) {t : T} (ht : t ∈ zbq us) {k : Int} (hk : k < 2) {σn σv : zle} (h : SInv us t k σn σv) (x : Int) : x ∈ zdp σv ↔ ∃ v, v ∈ t.vs ∧ x = (v : Nat) := by
 constructor
 ·intro hx
  obtain ⟨s, h1, h2, rfl⟩ := h.n4 x hx
  exact ⟨s.v, vs_sub.2 ⟨s, h1, h2, rfl⟩, rfl⟩
 ·rintro ⟨v, hv, rfl⟩
  obtain ⟨s, h1, h2, rfl⟩ := vs_sub.1 hv
  obtain ⟨h3, h4⟩ := h.all hr ht hk h1
  exact (h.n3 s h3 h2 (by have := zl1 hr h3 h2; omega) h4).1
theorem jmt {n : Nat} (h : n ≤ 4000000000) : I64 (n : Int) := jjp h
theorem SInv.take {us : List T} {V : Nat} (hr : RowOk V us) (hul : us.length ≤ zel) (hV : V ≤ 1000) {t s : T} {k : Int} {σn σv : zle} (h : SInv us t k σn σv) (hs : s ∈ zbq us) (h2 : s.lf = false) (hk : k = num us s) (hm : k ∈ zdp σn) :
  SInv us t (k - 1) (zsb (num us s.h) (zsb (num us s.l) σn)) (zsb s.v σv) := by
 have hc := hr.chf hs
 have hin := jlf hs h2
 have hch := jd3 hr hin
 have hlt := zee hs
 have hok := hr.okf hs
 obtain ⟨q, hq1, hq2, hq3⟩ := h.n2 k hm
 have hqs : q = s := zdl hq2 hs (by omega)
 subst hqs
 have hv : I64 (q.v : Int) := jmt (by
  obtain ⟨v, l, r, rfl⟩ := zqu h2
  have := hok.2.1
  show v ≤ _; omega)
 unfold zel at hul
 refine ⟨(h.o1.put (jmt (by have := zee hc.1; omega))).put (jmt (by have := zee hc.2; omega)), h.o2.put hv, by rw [mem_put, mem_put]; exact .inr (.inr h.n1), fun x hx => ?_, fun s' h1 h3 h4 h5 => ?_, fun x hx => ?_, ?_⟩
 ·rw [mem_put, mem_put] at hx
  obtain ⟨v, l, r, rfl⟩ := zqu h2
  rcases hx with rfl | rfl | hx
  ·exact ⟨r, (Sub.hi (.refl r)).trans hq1, hc.2, rfl⟩
  ·exact ⟨l, (Sub.lo (.refl l)).trans hq1, hc.1, rfl⟩
  ·exact h.n2 x hx
 ·by_cases e : num us s' = num us q
  ·have : s' = q := zdl h1 hs e
   subst this
   rw [mem_put, mem_put, mem_put, mem_put, mem_put]
   exact ⟨.inl rfl, .inr (.inl rfl), .inl rfl⟩
  ·have h6 : (num us s' : Int) ∈ zdp σn := by
    rw [mem_put, mem_put] at h5
    rcases h5 with h5 | h5 | h5
    ·exact absurd h5 (by omega)
    ·exact absurd h5 (by omega)
    ·exact h5
   obtain ⟨a1, a2, a3⟩ := h.n3 s' h1 h3 (by omega) h6
   rw [mem_put, mem_put, mem_put, mem_put, mem_put]
   exact ⟨.inr a1, .inr (.inr a2), .inr (.inr a3)⟩
 ·rw [mem_put] at hx
  rcases hx with rfl | hx
  ·exact ⟨q, hq1, h2, rfl⟩
  ·exact h.n4 x hx
 ·have := jk0 (q.v : Int) σv
  have := h.l1
  have := zl1 hr hs h2
  omega
theorem SInv.skip {us : List T} {t : T} {k : Int} {σn σv : zle} (h : SInv us t k σn σv) (hm : k ∉ zdp σn) : SInv us t (k - 1) σn σv := by
 refine ⟨h.o1, h.o2, h.n1, h.n2, fun s h1 h2 h3 h4 => ?_, h.n4, by have := h.l1; omega⟩
 by_cases e : (num us s : Int) = k
 ·exact absurd (e ▸ h4) hm
 ·exact h.n3 s h1 h2 (by omega) h4
theorem SInv.start {us : List T} {t : T} (ht : t ∈ zbq us) {k : Int} (hk : k = num us t) (h6 : I64 k) : SInv us t k (zsb k ([], 0)) ([], 0) := by
 subst hk
 refine ⟨(OkS.nil 0).put h6, .nil 0, mem_put.2 (.inl rfl), fun x hx => ?_, fun s h1 h2 h3 h4 => ?_, fun x hx => (by cases hx), by simp⟩
 ·rcases mem_put.1 hx with rfl | hx
  ·exact ⟨t, .refl t, ht, rfl⟩
  ·cases hx
 ·rcases mem_put.1 h4 with h | h
  ·omega
  ·cases h
theorem jd4 (t : T) : (zix t).length ≤ 1000 := by
 unfold zix
 rw [List.length_map]
 exact Nat.le_trans (List.length_filter_le _ _) (by simp)
theorem jrb {P : Program} {sm : List Nat} {N : Nat} {τ : Fr} {H : zar} {f : FuncId} {args : List AV} {x : AV} {H1 : zar} {KK : AV → zar → Prop} (h : IcS P f args H fun x' H' => x' = x ∧ H' = H1) (hK : KK x H1) : kC P sm N H τ (.d (.val (.func (.func f) #[] #[]))) args true (tg KK) :=
 jn8 h fun _ _ ⟨a, b⟩ => by rw [a, b]; exact hK
theorem jd5 (V : Nat) (us : List T) (rs : List Nat) (hr : RowOk V us) (hV : V ≤ 1000) (hul : us.length ≤ zel) (node : Int) : za9 Try.prog 74 [zbt (zlp us) rs, iD node] (.d (intsD (jms us node))) := by
 have hul0 := hul
 unfold zel at hul
 have hel := zan us
 refine zbc (fn := Try.f74) (by kernel_rfl) Try.func74 rfl (Nat.le_of_ble_eq_true rfl) fun c hc hp => ?_
 refine zbf (τ' := frL [(0, .d (zbt (zlp us) rs)), (1, .d (iD node))]) (by repeat (first | exact zak _ | refine zah ?_ (by first | rfl | (simp [r_f, zad, zan]; done) | simp [r_f, zad, zan, *]))) ?_
 refine zac hp zaj hc rfl fun K1 hK1 => ?_
 simp -dsimp -implicitDefEqProofs (disch := first | assumption | omega | (simp only [r_z, zad, zan] <;> omega) | decide) only [r_r, ↓reduceIte, Nat.reduceEqDiff, Nat.reduceAdd, D.fix, Int.reduceToNat, Nat.reduceMul, Nat.reduceBNe, Nat.reduceBEq, zbt, zby, zcd, zcg, zcw, zce zbu, zed, zb5, zcf zbu, zcz, zcx, zcy, zkz]
 refine hK1 _ _ ?_
 refine zam fun K2 hK2 => ?_
 refine zac hp zaj hc rfl fun K3 hK3 => ?_
 rcases (show node < 0 ∨ (0 ≤ node ∧ 2 + (us.length : Int) ≤ node) ∨ (0 ≤ node ∧ node < 2 + (us.length : Int)) by omega) with q | ⟨q, q'⟩ | ⟨q, q'⟩
 ·have q1 : decide (node < 0) = true := by simp; omega
  have q2 := q1
  have hx : zjl us node = false := by unfold zjl; rw [decide_eq_false (by omega)]; rfl
  simp -dsimp -implicitDefEqProofs (disch := first | assumption | omega | (simp only [r_z, zad, zan] <;> omega) | decide) only [r_r, ↓reduceIte, Nat.reduceEqDiff, Nat.reduceAdd, D.fix, Int.reduceToNat, Nat.reduceMul, Nat.reduceBNe, Nat.reduceBEq, zbt, zby, zcd, zcg, zcw, zce zbu, zed, zb5, zcf zbu, zcz, zcx, zcy, q1, q2, zkz]
  refine hK3 _ _ ?_
  refine zaq rfl (fun ht => ?_) (fun ht => ?_)
  ·refine zac hp zaj hc rfl fun K4 hK4 => ?_
   simp -dsimp -implicitDefEqProofs (disch := first | assumption | omega | (simp only [r_z, zad, zan] <;> omega) | decide) only [r_r, ↓reduceIte, Nat.reduceEqDiff, Nat.reduceAdd, D.fix, Int.reduceToNat, Nat.reduceMul, Nat.reduceBNe, Nat.reduceBEq, zbt, zby, zcd, zcg, zcw, zce zbu, zed, zb5, zcf zbu, zcz, zcx, zcy]
   refine hK4 _ _ ?_
   refine za4 ?_
   show closeA _ _ = _
   simp (disch := first | assumption | omega | (simp only [r_z, zad, zan] <;> omega) | decide) only [r_c, Nat.reduceAdd, D.fix, ↓reduceIte, Nat.reduceEqDiff, zbt, zby, zcd, zcg, zcw, zce zbu, zed, zb5, zcf zbu, zcz, zcx, zcy]
   simp [jms, hx]
  ·cases ht
 ·have q1 : decide (node < 0) = false := by simp; omega
  have q2 : decide (2 + ((zlp us).length : Int) ≤ node) = true := by simp [hel]; omega
  have hx : zjl us node = false := by unfold zjl; rw [decide_eq_false (p := node < 2 + (us.length : Int)) (by omega)]; simp
  simp -dsimp -implicitDefEqProofs (disch := first | assumption | omega | (simp only [r_z, zad, zan] <;> omega) | decide) only [r_r, ↓reduceIte, Nat.reduceEqDiff, Nat.reduceAdd, D.fix, Int.reduceToNat, Nat.reduceMul, Nat.reduceBNe, Nat.reduceBEq, zbt, zby, zcd, zcg, zcw, zce zbu, zed, zb5, zcf zbu, zcz, zcx, zcy, q1, q2, zkz]
  refine hK3 _ _ ?_
  refine zaq rfl (fun ht => ?_) (fun ht => ?_)
  ·refine zac hp zaj hc rfl fun K5 hK5 => ?_
   simp -dsimp -implicitDefEqProofs (disch := first | assumption | omega | (simp only [r_z, zad, zan] <;> omega) | decide) only [r_r, ↓reduceIte, Nat.reduceEqDiff, Nat.reduceAdd, D.fix, Int.reduceToNat, Nat.reduceMul, Nat.reduceBNe, Nat.reduceBEq, zbt, zby, zcd, zcg, zcw, zce zbu, zed, zb5, zcf zbu, zcz, zcx, zcy]
   refine hK5 _ _ ?_
   refine za4 ?_
   show closeA _ _ = _
   simp (disch := first | assumption | omega | (simp only [r_z, zad, zan] <;> omega) | decide) only [r_c, Nat.reduceAdd, D.fix, ↓reduceIte, Nat.reduceEqDiff, zbt, zby, zcd, zcg, zcw, zce zbu, zed, zb5, zcf zbu, zcz, zcx, zcy]
   simp [jms, hx]
  ·cases ht
 ·have q1 : decide (node < 0) = false := by simp; omega
  have q2 : decide (2 + ((zlp us).length : Int) ≤ node) = false := by simp [hel]; omega
  have hx : zjl us node = true := by unfold zjl; rw [decide_eq_true q, decide_eq_true q']; rfl
  have hnt : (num us (zct us node) : Int) = node := by unfold zct; rw [zqv hr (k := node.toNat) (by omega)]; omega
  have hti : zct us node ∈ zbq us := jd2 (us := us) (k := node.toNat) (by omega)
  have hn64 : I64 node := by unfold I64; omega
  have ho0 : OkS ([], 0) := OkS.nil 0
  simp -dsimp -implicitDefEqProofs (disch := first | assumption | omega | (simp only [r_z, zad, zan] <;> omega) | decide) only [r_r, ↓reduceIte, Nat.reduceEqDiff, Nat.reduceAdd, D.fix, Int.reduceToNat, Nat.reduceMul, Nat.reduceBNe, Nat.reduceBEq, zbt, zby, zcd, zcg, zcw, zce zbu, zed, zb5, zcf zbu, zcz, zcx, zcy, q1, q2, zkz]
  refine hK3 _ _ ?_
  refine zaq rfl (fun ht => ?_) (fun ht => ?_)
  ·cases ht
  ·refine zay (hK2 _ _ ?_)
   refine zac hp zaj hc rfl fun K6 hK6 => ?_
   simp -dsimp -implicitDefEqProofs (disch := first | assumption | omega | (simp only [r_z, zad, zan] <;> omega) | decide) only [r_r, ↓reduceIte, Nat.reduceEqDiff, Nat.reduceAdd, D.fix, Int.reduceToNat, Nat.reduceMul, Nat.reduceBNe, Nat.reduceBEq, zbt, zby, zcd, zcg, zcw, zce zbu, zed, zb5, zcf zbu, zcz, zcx, zcy, zkz]
   refine hK6 _ _ ?_
   refine zac hp zaj hc rfl fun K7 hK7 => ?_
   simp -dsimp -implicitDefEqProofs (disch := first | assumption | omega | (simp only [r_z, zad, zan] <;> omega) | decide) only [r_r, ↓reduceIte, Nat.reduceEqDiff, Nat.reduceAdd, D.fix, Int.reduceToNat, Nat.reduceMul, Nat.reduceBNe, Nat.reduceBEq, zbt, zby, zcd, zcg, zcw, zce zbu, zed, zb5, zcf zbu, zcz, zcx, zcy, zkz]
   refine hK7 _ _ ?_
   refine zam fun K8 hK8 => ?_
   refine zac hp zaj hc rfl fun K9 hK9 => ?_
   simp -dsimp -implicitDefEqProofs (disch := first | assumption | omega | (simp only [r_z, zad, zan] <;> omega) | decide) only [r_r, ↓reduceIte, Nat.reduceEqDiff, Nat.reduceAdd, D.fix, Int.reduceToNat, Nat.reduceMul, Nat.reduceBNe, Nat.reduceBEq, zbt, zby, zcd, zcg, zcw, zce zbu, zed, zb5, zcf zbu, zcz, zcx, zcy]
   refine hK9 _ _ ?_
   refine zaz ?_
   refine za7 hp (fun τ' H' mm => ∃ (k : Int) (σn : zle) (σv : zle), (SInv us (zct us node) k σn σv ∧ k ≤ node) ∧ mm = k.toNat ∧ H' = [.cells (avs (zby (zlp us) rs)), zny σn, zny σv] ∧ τ' = frL [(2, .op 0 0), (5, .om 1), (6, .om 2), (7, .d (iD k))]) (node.toNat) ?_ ⟨node, _, _, ⟨SInv.start hti hnt.symm hn64, Int.le_refl _⟩, rfl, rfl, rfl⟩ ?_
   ·refine Rt.end (by repeat (first | exact zak _ | refine zah ?_ (by first | rfl | (simp [r_f, zad, zan]; done) | simp [r_f, zad, zan, *]))) ?_
    first | rfl | (simp only [r_g, Nat.reduceAdd, ↓reduceIte, Nat.reduceEqDiff, zbt, zby, zcd, zcg, zcw, zce zbu, zed, zb5, zcf zbu, zcz, zcx, zcy]; first | done | rfl)
   rintro τ' H' mm ⟨k, σn, σv, ⟨hinv, hkn⟩, rfl, rfl, rfl⟩
   have ho1 := hinv.o1
   have ho2 := hinv.o2
   refine zam fun K10 hK10 => ?_
   refine zac hp zaj hc rfl fun K11 hK11 => ?_
   simp -dsimp -implicitDefEqProofs (disch := first | assumption | omega | (simp only [r_z, zad, zan] <;> omega) | decide) only [r_r, ↓reduceIte, Nat.reduceEqDiff, Nat.reduceAdd, D.fix, Int.reduceToNat, Nat.reduceMul, Nat.reduceBNe, Nat.reduceBEq, zbt, zby, zcd, zcg, zcw, zce zbu, zed, zb5, zcf zbu, zcz, zcx, zcy, zkz]
   refine hK11 _ _ ?_
   refine zaq rfl (fun ht => ?_) (fun ht => ?_)
   ·have hk2 : 2 ≤ k := by simpa using ht
    have hk64 : I64 k := by unfold I64; omega
    refine zay (hK10 _ _ ?_)
    refine zam fun K12 hK12 => ?_
    have hJ12 : ∀ τ' H', (∃ τ1 H1, ∃ (σn' : zle) (σv' : zle), (SInv us (zct us node) (k - 1) σn' σv' ∧ 2 ≤ k) ∧ H1 = [.cells (avs (zby (zlp us) rs)), zny σn', zny σv'] ∧ τ1 = frL [(2, .op 0 0), (5, .om 1), (6, .om 2), (7, .d (iD k))] ∧ Rt [] τ' H' τ1 H1) → K12 τ' H' := by
     rintro τ' H' ⟨_, _, σn', σv', ⟨hinv', hk2⟩, rfl, rfl, hrt⟩
     refine hK12 _ _ (zb2 hp hrt ?_)
     clear hrt
     refine zbo hp zaj hc rfl fun K13 hK13 => ?_
     simp -dsimp -implicitDefEqProofs (disch := first | assumption | omega | (simp only [r_z, zad, zan] <;> omega) | decide) only [r_r, ↓reduceIte, Nat.reduceEqDiff, Nat.reduceAdd, D.fix, Int.reduceToNat, Nat.reduceMul, Nat.reduceBNe, Nat.reduceBEq, zbt, zby, zcd, zcg, zcw, zce zbu, zed, zb5, zcf zbu, zcz, zcx, zcy, zkz]
     refine hK13 _ _ ⟨_, _, _, ?_, ⟨k - 1, _, _, ⟨hinv', by omega⟩, rfl, rfl, rfl⟩, ?_⟩
     ·first | omega | (simp only [List.length_cons]; omega) | (dsimp only; omega)
     ·refine Rt.end (by repeat (first | exact zak _ | refine zah ?_ (by first | rfl | (simp [r_f, zad, zan]; done) | simp [r_f, zad, zan, *]))) ?_
      first | rfl | (simp only [r_g, Nat.reduceAdd, ↓reduceIte, Nat.reduceEqDiff, zbt, zby, zcd, zcg, zcw, zce zbu, zed, zb5, zcf zbu, zcz, zcx, zcy]; first | done | rfl)
    refine zaz ?_
    refine zac hp zaj hc rfl fun K14 hK14 => ?_
    simp -dsimp -implicitDefEqProofs (disch := first | assumption | omega | (simp only [r_z, zad, zan] <;> omega) | decide) only [r_r, ↓reduceIte, Nat.reduceEqDiff, Nat.reduceAdd, D.fix, Int.reduceToNat, Nat.reduceMul, Nat.reduceBNe, Nat.reduceBEq, zbt, zby, zcd, zcg, zcw, zce zbu, zed, zb5, zcf zbu, zcz, zcx, zcy, zkz]
    refine hK14 _ _ ?_
    refine zaq rfl (fun ht => ?_) (fun ht => ?_)
    ·have hm : k ∈ zdp σn := by simpa using ht
     obtain ⟨s, hsub, hsf, hks⟩ := hinv.n2 k hm
     have h2 : s.lf = false := by
      rcases zqt s with h | h
      ·have := jjy (us := us) h; omega
      ·exact h
     obtain ⟨v, lo, hi, rfl⟩ := zqu h2
     have h3 := zl1 hr hsf h2
     have hlt := zee hsf
     subst hks
     have hx1 : ((num us (.node v lo hi) : Int) - 2).toNat = num us (.node v lo hi) - 2 := by omega
     have hg := zx3 hr hsf h2
     have hcl : lo ∈ zbq us := (hr.chf hsf).1
     have hch : hi ∈ zbq us := (hr.chf hsf).2
     have hok := hr.okf hsf
     have hll := zee hcl
     have hlh := zee hch
     have i1 : I64 (v : Int) := jmt (by have := hok.2.1; omega)
     have i2 : I64 (num us lo : Int) := jmt (by omega)
     have i3 : I64 (num us hi : Int) := jmt (by omega)
     have ho3 : OkS (zsb (num us lo : Int) σn) := ho1.put i2
     have htk : SInv us (zct us node) ((num us (.node v lo hi) : Int) - 1) (zsb (num us hi) (zsb (num us lo) σn)) (zsb (v : Int) σv) := hinv.take hr hul0 hV hsf h2 rfl hm
     refine zac hp zaj hc rfl fun K15 hK15 => ?_
     simp -dsimp -implicitDefEqProofs (disch := first | assumption | omega | (simp only [r_z, zad, zan] <;> omega) | decide) only [r_r, ↓reduceIte, Nat.reduceEqDiff, Nat.reduceAdd, D.fix, Int.reduceToNat, Nat.reduceMul, Nat.reduceBNe, Nat.reduceBEq, zbt, zby, zcd, zcg, zcw, zce zbu, zed, zb5, zcf zbu, zcz, zcx, zcy, hx1, zxu, jk4, hg, ndC, zjr, T.v, T.l, T.h, zkz]
     refine hK15 _ _ ?_
     refine znf zaj hp hc mixed rfl [(0, []), (1, []), (2, []), (3, []), (4, []), (5, []), (6, []), (7, []), (8, []), (9, [5, 8]), (10, [8]), (11, [])] [[], [], [1], [], [], [4], [], [], [7], [0, 1, 2], [0, 1, 2, 3, 4, 5, 9], [0, 1, 2, 3, 4, 5, 6, 7, 8, 9, 10]] 0 (by kernel_rfl) fun K16 hK16 => ?_
     simp -dsimp -implicitDefEqProofs (disch := first | assumption | omega | (simp only [r_z, zad, zan] <;> omega) | decide) only [r_r, ↓reduceIte, Nat.reduceEqDiff, Nat.reduceAdd, D.fix, Int.reduceToNat, Nat.reduceMul, Nat.reduceBNe, Nat.reduceBEq, r_w, zbt, zby, zcd, zcg, zcw, zce zbu, zed, zb5, zcf zbu, zcz, zcx, zcy, zkz]
     refine hK16 _ _ (hJ12 _ _ ⟨_, _, _, _, ⟨htk, hk2⟩, rfl, rfl, ?_⟩)
     refine Rt.trans (Rt.gc (keep := [0,1,2]) (by decide) (by decide) (by simp [fzH, gcH])) ?_
     refine Rt.end (by repeat (first | exact zak _ | refine zah ?_ (by first | rfl | (simp [r_f, zad, zan]; done) | simp [r_f, zad, zan, *]))) ?_
     first | rfl | (simp only [r_g, Nat.reduceAdd, ↓reduceIte, Nat.reduceEqDiff, zbt, zby, zcd, zcg, zcw, zce zbu, zed, zb5, zcf zbu, zcz, zcx, zcy]; first | done | rfl)
    ·have hm : k ∉ zdp σn := by simpa using ht
     refine zay (hJ12 _ _ ⟨_, _, _, _, ⟨hinv.skip hm, hk2⟩, rfl, rfl, ?_⟩)
     refine Rt.end (by repeat (first | exact zak _ | refine zah ?_ (by first | rfl | (simp [r_f, zad, zan]; done) | simp [r_f, zad, zan, *]))) ?_
     first | rfl | (simp only [r_g, Nat.reduceAdd, ↓reduceIte, Nat.reduceEqDiff, zbt, zby, zcd, zcg, zcw, zce zbu, zed, zb5, zcf zbu, zcz, zcx, zcy]; first | done | rfl)
   ·have hk2 : k < 2 := by simpa using ht
    have hlv := hinv.l1
    refine zbj (hK8 _ _ ?_)
    refine zac hp zaj hc rfl fun K17 hK17 => ?_
    simp -dsimp -implicitDefEqProofs (disch := first | assumption | omega | (simp only [r_z, zad, zan] <;> omega) | decide) only [r_r, ↓reduceIte, Nat.reduceEqDiff, Nat.reduceAdd, D.fix, Int.reduceToNat, Nat.reduceMul, Nat.reduceBNe, Nat.reduceBEq, zbt, zby, zcd, zcg, zcw, zce zbu, zed, zb5, zcf zbu, zcz, zcx, zcy]
    refine hK17 _ _ ?_
    refine zam fun K18 hK18 => ?_
    refine zb2 hp (τ' := frL [(6, .om 0), (9, .os 1 1 0 0)]) (H' := [zny σv, .cells []]) ?_ ?_
    ·refine Rt.trans (Rt.gc (keep := [2]) (by decide) (by decide) (by simp [fzH, gcH])) ?_
     refine Rt.trans (Rt.nil 9 1 rfl) ?_
     refine Rt.end (by repeat (first | exact zak _ | refine zah ?_ (by first | rfl | (simp [r_f, zad, zan]; done) | simp [r_f, zad, zan, *]))) ?_
     first | rfl | (simp only [r_g, Nat.reduceAdd, ↓reduceIte, Nat.reduceEqDiff, zbt, zby, zcd, zcg, zcw, zce zbu, zed, zb5, zcf zbu, zcz, zcx, zcy]; first | done | rfl)
    refine zyv (σ := σv) (id := 0) hp hc (ho2) ((by unfold maxLen; omega)) rfl Try.underlying134 jub Try.underlying3 rfl (by kernel_rfl) (by decide) (by decide) (fun r ss τ' H' => (ss.Nodup ∧ ∀ x ∈ ss, x ∈ zdp σv) ∧ H' = [zny σv, .cells (avs (ss.map iD))] ∧ τ' = frL [(49, .d (.val (.pointer (some ⟨r, 0, none⟩)))), (9, .os 1 1 0 ss.length)]) ?_ (fun r => ⟨_, _, ⟨⟨List.nodup_nil, fun x hx => (by cases hx)⟩, rfl, rfl⟩, ?_⟩) ?_ ?_
    ·rintro r ss _ _ ⟨hsl, rfl, rfl⟩; exact ⟨rfl, rfl⟩
    ·refine Rt.end (by repeat (first | exact zak _ | refine zah ?_ (by first | rfl | (simp [r_f, zad, zan]; done) | simp [r_f, zad, zan, *]))) ?_
     first | rfl | (simp only [r_g, Nat.reduceAdd, ↓reduceIte, Nat.reduceEqDiff, zbt, zby, zcd, zcg, zcw, zce zbu, zed, zb5, zcf zbu, zcz, zcx, zcy]; first | done | rfl)
    ·rintro r ss x _ _ c2 hc2 hp2 ⟨hsl, rfl, rfl⟩ hnew hmem
     simp only [zpf, List.map_cons, List.map_nil]
     have hsl2 : ss.length ≤ σv.1.length := by have := zno hsl.1 hsl.2; simpa [zdp] using this
     refine zbo hp2 zaj hc2 rfl fun K19 hK19 => ?_
     simp -dsimp -implicitDefEqProofs (disch := first | assumption | omega | (simp only [r_z, zad, zan] <;> omega) | decide) only [r_r, ↓reduceIte, Nat.reduceEqDiff, Nat.reduceAdd, D.fix, Int.reduceToNat, Nat.reduceMul, Nat.reduceBNe, Nat.reduceBEq, zbt, zby, zcd, zcg, zcw, zce zbu, zed, zb5, zcf zbu, zcz, zcx, zcy, zkz]
     refine hK19 _ _ ⟨rfl, _, _, ⟨⟨List.nodup_append.2 ⟨hsl.1, by simp, fun a ha b hb => by simp at hb; subst hb; exact fun e => hnew (e ▸ ha)⟩, fun y hy => by rcases List.mem_append.1 hy with h | h; exact hsl.2 y h; simp at h; exact h ▸ hmem⟩, rfl, rfl⟩, ?_⟩
     refine Rt.trans (Rt.gc (keep := [0,3]) (by decide) (by decide) (by simp [fzH, gcH])) ?_
     refine Rt.end (by repeat (first | exact zak _ | refine zah ?_ (by first | rfl | (simp [r_f, zad, zan]; done) | simp [r_f, zad, zan, *]))) ?_
     simp only [r_g, Nat.reduceAdd, ↓reduceIte, Nat.reduceEqDiff, zbt, zby, zcd, zcg, zcw, zce zbu, zed, zb5, zcf zbu, zcz, zcx, zcy]; simp [iD]
    ·rintro r ss _ _ ⟨hsl, rfl, rfl⟩ hperm
     simp only [zpf, List.map_cons, List.map_nil]
     have hsort : zlr ss = zix (zct us node) := zze hV (hr.okf hti) (hperm.nodup_iff.2 ho2.keys) fun x => hperm.mem_iff.trans (hinv.vars hr hti hk2 x)
     have hlen : ss.length = (zix (zct us node)).length := by rw [← hsort, zsz]
     have hsl' : ss.length ≤ 1000000 := by rw [hlen]; have := jd4 (zct us node); omega
     refine (hK18 _ _ ?_)
     refine zac hp zaj hc rfl fun K20 hK20 => ?_
     simp -dsimp -implicitDefEqProofs (disch := first | assumption | omega | (simp only [r_z, zad, zan] <;> omega) | decide) only [r_r, ↓reduceIte, Nat.reduceEqDiff, Nat.reduceAdd, D.fix, Int.reduceToNat, Nat.reduceMul, Nat.reduceBNe, Nat.reduceBEq, zbt, zby, zcd, zcg, zcw, zce zbu, zed, zb5, zcf zbu, zcz, zcx, zcy, zkz]
     refine jrb (jgn (l := ss) rfl hsl') ?_
     simp -dsimp -implicitDefEqProofs (disch := first | assumption | omega | (simp only [r_z, zad, zan] <;> omega) | decide) only [r_r, ↓reduceIte, Nat.reduceEqDiff, Nat.reduceAdd, D.fix, Int.reduceToNat, Nat.reduceMul, Nat.reduceBNe, Nat.reduceBEq, zbt, zby, zcd, zcg, zcw, zce zbu, zed, zb5, zcf zbu, zcz, zcx, zcy, zkz]
     refine hK20 _ _ ?_
     rw [hsort, hlen]
     refine zac hp zaj hc rfl fun K21 hK21 => ?_
     simp -dsimp -implicitDefEqProofs (disch := first | assumption | omega | (simp only [r_z, zad, zan] <;> omega) | decide) only [r_r, ↓reduceIte, Nat.reduceEqDiff, Nat.reduceAdd, D.fix, Int.reduceToNat, Nat.reduceMul, Nat.reduceBNe, Nat.reduceBEq, zbt, zby, zcd, zcg, zcw, zce zbu, zed, zb5, zcf zbu, zcz, zcx, zcy]
     refine hK21 _ _ ?_
     refine za4 ?_
     show closeA _ _ = _
     simp (disch := first | assumption | omega | (simp only [r_z, zad, zan] <;> omega) | decide) only [r_c, Nat.reduceAdd, D.fix, ↓reduceIte, Nat.reduceEqDiff, zbt, zby, zcd, zcg, zcw, zce zbu, zed, zb5, zcf zbu, zcz, zcx, zcy]
     simp [jms, hx]
end Go.Proofs.Ytignimmnnccblaa
