/- The support of a diagram. -/
import Derived.Test.YtgfnpfchdlcoeaaQr
import Derived.Test.YtgfnpfchdlcoeaaQ
import Derived.Test.YtgfnpfchdlcoeaaCj
set_option linter.unusedVariables false
set_option linter.unusedSimpArgs false
set_option maxRecDepth 100000
set_option maxHeartbeats 4000000
namespace Go.Proofs.Ytgfnpfchdlcoeaa
open Go Go.RowKit
section
variable {P : Program} {KT : TypeId → Bool} {H : zal} {ρ : Operand → AV}
theorem zp6 {t : TypeId} {m k y : Operand} : zi1 P KT ρ (.insert t m k y) H [] = muF P KT t (ρ m) (ρ k) (ρ y) H (js4 P KT ρ (.insert t m k y) H) := by
 unfold muF
 split
 ·rename_i id n hm hk
  unfold zi1 muG
  simp only [hm, hk, zmn, List.all_nil, Bool.and_true]
  cases zh9 P t with
  | none => rfl
  | some q => rfl
 ·rfl
theorem jh5 {f : FuncId} {xs : List AV} {ds : List D} {r : AV} (hp : zbi P f ds r) (hd : ∀ (w : World) (pl : List (Option (Nat × Nat))) (own : Nat → Prop) (vals : Array Value), vals.size = xs.length → (∀ j x, xs[j]? = some x → Rd w pl own x (vals.getD j undef)) → vals.size = ds.length ∧ ∀ j x, ds[j]? = some x → RdD w own x (vals.getD j undef)) : IcS P f xs H fun x H' => x = r ∧ H' = H := by
 refine ⟨hp.1, fun E w pl vals hl hx hh hE => ?_⟩
 have hR : RelS ⟨E, w, zgg H pl, 0, pl⟩ (fun _ => .any) H [] pl { tmps := #[], defers := [] } w :=
  ⟨hh, Stp.refl _ _, fun id o p h1 h2 h3 => .inl ⟨id, o, p.2, h1, h2, h3⟩, hE, fun t => .any _, rfl, rfl, fun i p hi => hi⟩
 obtain ⟨l1, l2⟩ := hd w pl (zb6 E H pl) vals hl hx
 refine (hp.2 w (zb6 E H pl) vals l1 l2 hR.own_lt).mono fun e w' ⟨v, he, hr, hb⟩ => ?_
 have h1 := hR.below hb
 exact ⟨v, _, H, pl, he, ⟨rfl, rfl⟩, hr.mono (Nat.le_refl _) (fun _ _ _ => rfl) (fun _ _ h => h) (fun _ _ h => h) (fun i p hp => by simp at hp), h1.h, h1.stp, fun b ⟨i, o, e, b1, b2, b3⟩ => h1.own0 i o (b, e) b1 b2 b3, h1.keep⟩
end
theorem jlv : zbi Try.prog 49 [.fs [] 0] (.tup []) := zm1 (n := 60) mixed zad (by kernel_rfl)
theorem sort0_ic {H : zal} {id : Nat} : IcS Try.prog 49 [.os 1 id 0 0] H fun x H' => x = .tup [] ∧ H' = H :=
 jh5 jlv fun w pl own vals hl hx => ⟨hl, fun j x hj => by
  match j, hj with
  | 0, hj =>
   cases hj
   have h0 := hx 0 _ rfl
   generalize vals.getD 0 undef = v at h0 ⊢
   cases h0 with
   | os _ _ _ _ cap b base sz t hp hsh hn hm hz => exact .f0 _ cap hm (fun e => by cases e)
   | os0 _ _ _ a => exact .f0 a 0 (Nat.zero_le _) (fun _ => rfl)⟩
theorem zjw : jnq Try.prog KT 103 = true := by kernel_rfl
theorem jh6 {H : zal} {id : Nat} {l : List Int} (hid : H[id]? = some (.cells (avs (l.map iD)))) (hl : l.length ≤ 1000000) : IcS Try.prog 49 [.os 1 id 0 l.length] H fun x H' => x = .tup [] ∧ H' = H.set id (.cells (avs ((zny l).map iD))) := by
 by_cases h0 : l = []
 ·subst h0
  refine sort0_ic.mono fun x H' ⟨h1, h2⟩ => ⟨h1, ?_⟩
  rw [h2]
  have : zny [] = [] := by simp [zny]
  rw [this]
  refine (List.ext_getElem? fun i => ?_).symm
  rw [List.getElem?_set]
  split
  ·rename_i e; subst e; rw [if_pos (List.getElem?_eq_some_iff.1 hid).1, hid]
  ·rfl
 ·exact jlt hid h0 hl
def T.vs : T → List Nat
 | .leaf _ => []
 | .node v l h => v :: (l.vs ++ h.vs)
inductive Sub : T → T → Prop where
 | refl (t : T) : Sub t t
 | lo {s : T} {v : Nat} {l h : T} (k : Sub s l) : Sub s (.node v l h)
 | hi {s : T} {v : Nat} {l h : T} (k : Sub s h) : Sub s (.node v l h)
theorem Sub.trans {r s t : T} (h : Sub r s) (k : Sub s t) : Sub r t := by
 induction k with
 | refl => exact h
 | lo _ ih => exact .lo ih
 | hi _ ih => exact .hi ih
theorem vs_sub {v : Nat} : ∀ {t : T}, v ∈ t.vs ↔ ∃ s, Sub s t ∧ s.lf = false ∧ s.v = v
 | .leaf b => by
  constructor
  ·intro h; cases h
  ·rintro ⟨s, hs, h1, _⟩
   cases hs; cases h1
 | .node u l h => by
  simp only [T.vs, List.mem_cons, List.mem_append]
  constructor
  ·rintro (rfl | hv | hv)
   ·exact ⟨_, .refl _, rfl, rfl⟩
   ·obtain ⟨s, h1, h2⟩ := vs_sub.1 hv; exact ⟨s, .lo h1, h2⟩
   ·obtain ⟨s, h1, h2⟩ := vs_sub.1 hv; exact ⟨s, .hi h1, h2⟩
  ·rintro ⟨s, hs, h1, h2⟩
   cases hs with
   | refl => exact .inl h2.symm
   | lo k => exact .inr (.inl (vs_sub.2 ⟨s, k, h1, h2⟩))
   | hi k => exact .inr (.inr (vs_sub.2 ⟨s, k, h1, h2⟩))
theorem jlw {V : Nat} : ∀ {t : T} {k : Nat}, t.Ok V k → ∀ v ∈ t.vs, k ≤ v ∧ v < V
 | .leaf b, _, _, v, h => by cases h
 | .node u l h, k, ht, v, hv => by
  simp only [T.vs, List.mem_cons, List.mem_append] at hv
  have h1 := ht.1
  have h2 := ht.2.1
  rcases hv with rfl | hv | hv
  ·exact ⟨h1, h2⟩
  ·have := jlw ht.2.2.2.1 v hv; omega
  ·have := jlw ht.2.2.2.2 v hv; omega
def ziz (t : T) : List Int := ((List.range 1000).filter fun v => decide (v ∈ t.vs)).map fun (v : Nat) => (v : Int)
theorem jff {V : Nat} (hV : V ≤ 1000) {t : T} {k : Nat} (ht : t.Ok V k) {x : Int} : x ∈ ziz t ↔ ∃ v, v ∈ t.vs ∧ x = (v : Nat) := by
 unfold ziz
 rw [List.mem_map]
 constructor
 ·rintro ⟨v, hv, rfl⟩
  exact ⟨v, by simpa using (List.mem_filter.1 hv).2, rfl⟩
 ·rintro ⟨v, hv, rfl⟩
  exact ⟨v, List.mem_filter.2 ⟨List.mem_range.2 (by have := (jlw ht v hv).2; omega), by simpa using hv⟩, rfl⟩
theorem zmj (t : T) : (ziz t).Pairwise (fun a b => a < b) := by
 unfold ziz
 rw [List.pairwise_map]
 refine List.Pairwise.imp (R := fun a b : Nat => a < b) (fun h => by omega) (List.Pairwise.filter _ ?_)
 exact List.pairwise_lt_range
theorem jcc {V : Nat} (hV : V ≤ 1000) {t : T} {k : Nat} (ht : t.Ok V k) {l : List Int} (hn : l.Nodup) (hm : ∀ x, x ∈ l ↔ ∃ v, v ∈ t.vs ∧ x = (v : Nat)) : zny l = ziz t := by
 have hp : l.Perm (ziz t) := (List.perm_ext_iff_of_nodup hn ((zmj t).imp fun h => by omega)).2 fun x => by rw [hm x, jff hV ht]
 refine List.Perm.eq_of_pairwise (le := fun a b => leI a b = true) (fun a b _ _ h1 h2 => ?_) (List.pairwise_mergeSort jpb jpc l) ((zmj t).imp fun h => by simp [leI]; omega) ((List.mergeSort_perm l leI).trans hp)
 simp only [leI, decide_eq_true_eq] at h1 h2
 omega
theorem zp7 {V : Nat} {us : List T} (hr : RowOk V us) {t : T} (h : t ∈ us) : num us t.l < num us t ∧ num us t.h < num us t := by
 obtain ⟨k, hk, rfl⟩ := List.getElem_of_mem h
 have hc := hr.ch k hk
 rw [zcd hk] at hc
 have hp : us.take k <+: us := List.take_prefix _ _
 have hnum : num us us[k] = 2 + k := by
  have := ze1 hr (k := 2 + k) (by omega)
  rw [show nth (zbn us) (2 + k) = us[k] from by rw [zcd (by rw [zf6]; omega)]; simp [zbn, Nat.add_comm 2 k]] at this
  exact this
 have h1 := zdn hc.1
 have h2 := zdn hc.2
 rw [List.length_take, Nat.min_eq_left (by omega)] at h1 h2
 rw [zd9 hp hc.1, zd9 hp hc.2, hnum]
 exact ⟨h1, h2⟩
def zwc (us : List T) (node : Int) : List Int := if zd5 us node then ziz (zb5 us node) else []
structure SInv (us : List T) (t : T) (k : Int) (σn σv : znl) : Prop where
 o1 : OkS σn
 o2 : OkS σv
 n1 : (num us t : Int) ∈ zem σn
 n2 : ∀ x ∈ zem σn, ∃ s, Sub s t ∧ s ∈ zbn us ∧ x = (num us s : Nat)
 n3 : ∀ s ∈ zbn us, s.lf = false → k < num us s → (num us s : Int) ∈ zem σn → (s.v : Int) ∈ zem σv ∧ (num us s.l : Int) ∈ zem σn ∧ (num us s.h : Int) ∈ zem σn
 n4 : ∀ x ∈ zem σv, ∃ s, Sub s t ∧ s.lf = false ∧ x = (s.v : Nat)
 l1 : σv.1.length ≤ us.length + 1 - k.toNat
theorem SInv.all {us : List T} {V : Nat} (hr : RowOk V us) {t : T} (ht : t ∈ zbn us) {k : Int} (hk : k < 2) {σn σv : znl} (h : SInv us t k σn σv) : ∀ {s : T}, Sub s t → s ∈ zbn us ∧ (num us s : Int) ∈ zem σn := by
 intro s hs
 suffices ∀ q, Sub s q → q ∈ zbn us → (num us q : Int) ∈ zem σn → s ∈ zbn us ∧ (num us s : Int) ∈ zem σn from this t hs ht h.n1
 intro q hq
 induction hq with
 | refl => exact fun h1 h2 => ⟨h1, h2⟩
 | lo _ ih =>
  intro h1 h2
  have h3 := h.n3 _ h1 rfl (by have := zfo hr h1 rfl; omega) h2
  exact ih (hr.chf h1).1 h3.2.1
 | hi _ ih =>
  intro h1 h2
  have h3 := h.n3 _ h1 rfl (by have := zfo hr h1 rfl; omega) h2
  exact ih (hr.chf h1).2 h3.2.2
theorem SInv.vars {us : List T} {V : Nat} (hr : RowOk V us) {t : T} (ht : t ∈ zbn us) {k : Int} (hk : k < 2) {σn σv : znl} (h : SInv us t k σn σv) (x : Int) : x ∈ zem σv ↔ ∃ v, v ∈ t.vs ∧ x = (v : Nat) := by
 constructor
 ·intro hx
  obtain ⟨s, h1, h2, rfl⟩ := h.n4 x hx
  exact ⟨s.v, vs_sub.2 ⟨s, h1, h2, rfl⟩, rfl⟩
 ·rintro ⟨v, hv, rfl⟩
  obtain ⟨s, h1, h2, rfl⟩ := vs_sub.1 hv
  obtain ⟨h3, h4⟩ := h.all hr ht hk h1
  exact (h.n3 s h3 h2 (by have := zfo hr h3 h2; omega) h4).1
theorem jm2 {n : Nat} (h : n ≤ 4000000000) : I64 (n : Int) := jjl h
theorem SInv.take {us : List T} {V : Nat} (hr : RowOk V us) (hul : us.length ≤ zed) (hV : V ≤ 1000) {t s : T} {k : Int} {σn σv : znl} (h : SInv us t k σn σv) (hs : s ∈ zbn us) (h2 : s.lf = false) (hk : k = num us s) (hm : k ∈ zem σn) :
  SInv us t (k - 1) (zvh (num us s.h) (zvh (num us s.l) σn)) (zvh s.v σv) := by
 have hc := hr.chf hs
 have hin := zub hs h2
 have hch := zp7 hr hin
 have hlt := zdn hs
 have hok := hr.okf hs
 obtain ⟨q, hq1, hq2, hq3⟩ := h.n2 k hm
 have hqs : q = s := zd8 hq2 hs (by omega)
 subst hqs
 have hv : I64 (q.v : Int) := jm2 (by
  obtain ⟨v, l, r, rfl⟩ := zet h2
  have := hok.2.1
  show v ≤ _; omega)
 unfold zed at hul
 refine ⟨(h.o1.put (jm2 (by have := zdn hc.1; omega))).put (jm2 (by have := zdn hc.2; omega)), h.o2.put hv, by rw [mem_put, mem_put]; exact .inr (.inr h.n1), fun x hx => ?_, fun s' h1 h3 h4 h5 => ?_, fun x hx => ?_, ?_⟩
 ·rw [mem_put, mem_put] at hx
  obtain ⟨v, l, r, rfl⟩ := zet h2
  rcases hx with rfl | rfl | hx
  ·exact ⟨r, (Sub.hi (.refl r)).trans hq1, hc.2, rfl⟩
  ·exact ⟨l, (Sub.lo (.refl l)).trans hq1, hc.1, rfl⟩
  ·exact h.n2 x hx
 ·by_cases e : num us s' = num us q
  ·have : s' = q := zd8 h1 hs e
   subst this
   rw [mem_put, mem_put, mem_put, mem_put, mem_put]
   exact ⟨.inl rfl, .inr (.inl rfl), .inl rfl⟩
  ·have h6 : (num us s' : Int) ∈ zem σn := by
    rw [mem_put, mem_put] at h5
    rcases h5 with h5 | h5 | h5
    ·exact absurd h5 (by omega)
    ·exact absurd h5 (by omega)
    ·exact h5
   obtain ⟨a1, a2, a3⟩ := h.n3 s' h1 h3 (by omega) h6
   rw [mem_put, mem_put, mem_put, mem_put, mem_put]
   exact ⟨.inr a1, .inr (.inr a2), .inr (.inr a3)⟩
 ·rw [mem_put] at hx
  rcases hx with rfl | hx
  ·exact ⟨q, hq1, h2, rfl⟩
  ·exact h.n4 x hx
 ·have := jkp (q.v : Int) σv
  have := h.l1
  have := zfo hr hs h2
  omega
theorem SInv.skip {us : List T} {t : T} {k : Int} {σn σv : znl} (h : SInv us t k σn σv) (hm : k ∉ zem σn) : SInv us t (k - 1) σn σv := by
 refine ⟨h.o1, h.o2, h.n1, h.n2, fun s h1 h2 h3 h4 => ?_, h.n4, by have := h.l1; omega⟩
 by_cases e : (num us s : Int) = k
 ·exact absurd (e ▸ h4) hm
 ·exact h.n3 s h1 h2 (by omega) h4
theorem SInv.start {us : List T} {t : T} (ht : t ∈ zbn us) {k : Int} (hk : k = num us t) (h6 : I64 k) : SInv us t k (zvh k ([], 0)) ([], 0) := by
 subst hk
 refine ⟨(OkS.nil 0).put h6, .nil 0, mem_put.2 (.inl rfl), fun x hx => ?_, fun s h1 h2 h3 h4 => ?_, fun x hx => (by cases hx), by simp⟩
 ·rcases mem_put.1 hx with rfl | hx
  ·exact ⟨t, .refl t, ht, rfl⟩
  ·cases hx
 ·rcases mem_put.1 h4 with h | h
  ·omega
  ·cases h
theorem zuc (t : T) : (ziz t).length ≤ 1000 := by
 unfold ziz
 rw [List.length_map]
 exact Nat.le_trans (List.length_filter_le _ _) (by simp)
theorem jpe {P : Program} {sm : List Nat} {N : Nat} {τ : Fr} {H : zal} {f : FuncId} {args : List AV} {x : AV} {H1 : zal} {KK : AV → zal → Prop} (h : IcS P f args H fun x' H' => x' = x ∧ H' = H1) (hK : KK x H1) : kC P sm N H τ (.d (.val (.func (.func f) #[] #[]))) args true (tg KK) :=
 ji4 h fun _ _ ⟨a, b⟩ => by rw [a, b]; exact hK
theorem zep : (type_of% @zah) ∧ (type_of% @zbq) ∧ (type_of% @zbc) := ⟨@zah, @zbq, @zbc⟩
theorem zp8 (V : Nat) (us : List T) (rs : List Nat) (hr : RowOk V us) (hV : V ≤ 1000) (hul : us.length ≤ zed) (node : Int) : zbi Try.prog 25 [zfp (zdl us) rs, iD node] (.d (zay (zwc us node))) := by
 have hul0 := hul
 unfold zed at hul
 have hel := zbc us
 refine za8 (fn := Try.f25) (by kernel_rfl) Try.func25 rfl (Nat.le_of_ble_eq_true rfl) fun c hc hp => ?_
 refine zba (τ' := frL [(0, .d (zfp (zdl us) rs)), (1, .d (iD node))]) (zaa (zaa (zae _) rfl) rfl) ?_
 refine zab hp zad hc rfl fun K1 hK1 => ?_
 simp -dsimp -implicitDefEqProofs (disch := first | assumption | omega | (simp [maxLen, zep] <;> omega) | decide) only [q_r, zau, zb0, ↓reduceIte, D.one, iD, zau, zfp, zdp]
 refine hK1 _ _ ?_
 refine zaf fun K2 hK2 => ?_
 refine zab hp zad hc rfl fun K3 hK3 => ?_
 rcases (show node < 0 ∨ (0 ≤ node ∧ 2 + (us.length : Int) ≤ node) ∨ (0 ≤ node ∧ node < 2 + (us.length : Int)) by omega) with q | ⟨q, q'⟩ | ⟨q, q'⟩
 ·have q1 : decide (node < 0) = true := by simp; omega
  have q2 := q1
  have hx : zd5 us node = false := by unfold zd5; rw [decide_eq_false (by omega)]; rfl
  simp -dsimp -implicitDefEqProofs (disch := first | assumption | omega | (simp [maxLen, zep] <;> omega) | decide) only [q_r, ↓reduceIte, Nat.reduceEqDiff, q1]
  refine hK3 _ _ ?_
  refine zag rfl (fun ht => ?_) (fun ht => ?_)
  ·refine zab hp zad hc rfl fun K4 hK4 => ?_
   simp -dsimp -implicitDefEqProofs (disch := first | assumption | omega | (simp [maxLen, zep] <;> omega) | decide) only [q_r]
   refine hK4 _ _ ?_
   refine zao ?_
   show zaj _ _ = _
   simp (disch := first | assumption | omega | (simp [maxLen, zep] <;> omega) | decide) only [zaj, zct, za1, Nat.zero_add, D.fix, zat, ↓reduceIte, Option.map_some, List.length_cons, List.length_nil, zay]
   simp [zwc, hx]
  ·cases ht
 ·have q1 : decide (node < 0) = false := by simp; omega
  have q2 : decide (2 + ((zdl us).length : Int) ≤ node) = true := by simp [hel]; omega
  have hx : zd5 us node = false := by unfold zd5; rw [decide_eq_false (p := node < 2 + (us.length : Int)) (by omega)]; simp
  simp -dsimp -implicitDefEqProofs (disch := first | assumption | omega | (simp [maxLen, zep] <;> omega) | decide) only [q_r, zam, zac, zc1, zar, ↓reduceIte, Nat.reduceEqDiff, q1, q2, zbk, zcj, zck, zcm]
  refine hK3 _ _ ?_
  refine zag rfl (fun ht => ?_) (fun ht => ?_)
  ·refine zab hp zad hc rfl fun K5 hK5 => ?_
   simp -dsimp -implicitDefEqProofs (disch := first | assumption | omega | (simp [maxLen, zep] <;> omega) | decide) only [q_r]
   refine hK5 _ _ ?_
   refine zao ?_
   show zaj _ _ = _
   simp (disch := first | assumption | omega | (simp [maxLen, zep] <;> omega) | decide) only [zaj, zct, za1, Nat.zero_add, D.fix, zat, ↓reduceIte, Option.map_some, List.length_cons, List.length_nil, zay]
   simp [zwc, hx]
  ·cases ht
 ·have q1 : decide (node < 0) = false := by simp; omega
  have q2 : decide (2 + ((zdl us).length : Int) ≤ node) = false := by simp [hel]; omega
  have hx : zd5 us node = true := by unfold zd5; rw [decide_eq_true q, decide_eq_true q']; rfl
  have hnt : (num us (zb5 us node) : Int) = node := by unfold zb5; rw [ze1 hr (k := node.toNat) (by omega)]; omega
  have hti : zb5 us node ∈ zbn us := zlr (us := us) (k := node.toNat) (by omega)
  have hn64 : I64 node := by unfold I64; omega
  have ho0 : OkS ([], 0) := OkS.nil 0
  simp -dsimp -implicitDefEqProofs (disch := first | assumption | omega | (simp [maxLen, zep] <;> omega) | decide) only [q_r, zam, zac, zc1, zar, ↓reduceIte, Nat.reduceEqDiff, q1, q2, zbk, zcj, zck, zcm]
  refine hK3 _ _ ?_
  refine zag rfl (fun ht => ?_) (fun ht => ?_)
  ·cases ht
  ·refine zan (hK2 _ _ ?_)
   refine zab hp zad hc rfl fun K6 hK6 => ?_
   simp -dsimp -implicitDefEqProofs (disch := first | assumption | omega | (simp [maxLen, zep] <;> omega) | decide) only [q_r, zau, zb0, ↓reduceIte, Nat.reduceEqDiff, zau, zp6, zsh, znm zjw, zsi]
   refine hK6 _ _ ?_
   refine zab hp zad hc rfl fun K7 hK7 => ?_
   simp -dsimp -implicitDefEqProofs (disch := first | assumption | omega | (simp [maxLen, zep] <;> omega) | decide) only [q_r, zau, zb0, ↓reduceIte, Nat.reduceAdd, zau, zsi]
   refine hK7 _ _ ?_
   refine zaf fun K8 hK8 => ?_
   refine zab hp zad hc rfl fun K9 hK9 => ?_
   simp -dsimp -implicitDefEqProofs (disch := first | assumption | omega | (simp [maxLen, zep] <;> omega) | decide) only [q_r, ↓reduceIte, Nat.reduceEqDiff]
   refine hK9 _ _ ?_
   refine zaq ?_
   refine za4 hp (fun τ' H' mm => ∃ (k : Int) (σn : znl) (σv : znl), (SInv us (zb5 us node) k σn σv ∧ k ≤ node) ∧ mm = k.toNat ∧ H' = [.cells (avs (zdp (zdl us) rs)), zqx σn, zqx σv] ∧ τ' = frL [(2, .op 0 0), (5, .om 1), (6, .om 2), (7, .d (iD k))]) (node.toNat) ?_ ⟨node, _, _, ⟨SInv.start hti hnt.symm hn64, Int.le_refl _⟩, rfl, rfl, rfl⟩ ?_
   ·refine Rt.end (zaa (zaa (zaa (zaa (zae _) rfl) rfl) rfl) rfl) ?_
    first | rfl | (simp only [zay, zas, zbm, zbr, zbp, gcH, zbb, zc7, zc0, zcq, zi5, zap, zcb, gcV, zei, fzH, zen, zdc, zdf, zbw, Nat.reduceAdd, zga, fzV, zcp, za2, zav, List.map_cons, List.map_nil, List.getD_cons_zero, List.getD_cons_succ, ↓reduceIte, Nat.reduceEqDiff, Option.map_some, List.set_cons_zero, List.set_cons_succ, zbf, zax, Nat.mul_one, List.length_map, List.cons_append, List.nil_append, zfp, zdp, zpi, zp6, zsh, znm zjw, jd3, zl7, zpj zjw, zsi, zpk, zys]; first | done | rfl)
   rintro τ' H' mm ⟨k, σn, σv, ⟨hinv, hkn⟩, rfl, rfl, rfl⟩
   have ho1 := hinv.o1
   have ho2 := hinv.o2
   refine zaf fun K10 hK10 => ?_
   refine zab hp zad hc rfl fun K11 hK11 => ?_
   simp -dsimp -implicitDefEqProofs (disch := first | assumption | omega | (simp [maxLen, zep] <;> omega) | decide) only [q_r, ↓reduceIte, Nat.reduceEqDiff, iD, zdp]
   refine hK11 _ _ ?_
   refine zag rfl (fun ht => ?_) (fun ht => ?_)
   ·have hk2 : 2 ≤ k := by simpa using ht
    have hk64 : I64 k := by unfold I64; omega
    refine zan (hK10 _ _ ?_)
    refine zaf fun K12 hK12 => ?_
    have hJ12 : ∀ τ' H', (∃ τ1 H1, ∃ (σn' : znl) (σv' : znl), (SInv us (zb5 us node) (k - 1) σn' σv' ∧ 2 ≤ k) ∧ H1 = [.cells (avs (zdp (zdl us) rs)), zqx σn', zqx σv'] ∧ τ1 = frL [(2, .op 0 0), (5, .om 1), (6, .om 2), (7, .d (iD k))] ∧ Rt [] τ' H' τ1 H1) → K12 τ' H' := by
     rintro τ' H' ⟨_, _, σn', σv', ⟨hinv', hk2⟩, rfl, rfl, hrt⟩
     refine hK12 _ _ (zbx hp hrt ?_)
     clear hrt
     refine zbs hp zad hc rfl fun K13 hK13 => ?_
     simp -dsimp -implicitDefEqProofs (disch := first | assumption | omega | (simp [maxLen, zep] <;> omega) | decide) only [q_r, ↓reduceIte, Nat.reduceEqDiff, iD, zdp]
     refine hK13 _ _ ⟨_, _, _, ?_, ⟨k - 1, _, _, ⟨hinv', by omega⟩, rfl, rfl, rfl⟩, ?_⟩
     ·first | omega | (simp only [List.length_cons]; omega) | (dsimp only; omega)
     ·refine Rt.end (zaa (zaa (zaa (zaa (zae _) rfl) rfl) rfl) rfl) ?_
      first | rfl | (simp only [zay, zas, zbm, zbr, zbp, gcH, zbb, zc7, zc0, zcq, zi5, zap, zcb, gcV, zei, fzH, zen, zdc, zdf, zbw, Nat.reduceAdd, zga, fzV, zcp, za2, zav, List.map_cons, List.map_nil, List.getD_cons_zero, List.getD_cons_succ, ↓reduceIte, Nat.reduceEqDiff, Option.map_some, List.set_cons_zero, List.set_cons_succ, zbf, zax, Nat.mul_one, List.length_map, List.cons_append, List.nil_append, zfp, zdp, zpi, zp6, zsh, znm zjw, jd3, zl7, zpj zjw, zsi, zpk, zys]; first | done | rfl)
    refine zaq ?_
    refine zab hp zad hc rfl fun K14 hK14 => ?_
    simp -dsimp -implicitDefEqProofs (disch := first | assumption | omega | (simp [maxLen, zep] <;> omega) | decide) only [q_r, ↓reduceIte, Nat.reduceEqDiff, Nat.reduceAdd, jd3, zl7, zpj zjw]
    refine hK14 _ _ ?_
    refine zag rfl (fun ht => ?_) (fun ht => ?_)
    ·have hm : k ∈ zem σn := by simpa using ht
     obtain ⟨s, hsub, hsf, hks⟩ := hinv.n2 k hm
     have h2 : s.lf = false := by
      rcases zdj s with h | h
      ·have := zmi (us := us) h; omega
      ·exact h
     obtain ⟨v, lo, hi, rfl⟩ := zet h2
     have h3 := zfo hr hsf h2
     have hlt := zdn hsf
     subst hks
     have hx1 : ((num us (.node v lo hi) : Int) - 2).toNat = num us (.node v lo hi) - 2 := by omega
     have hg := zgp hr hsf h2
     have hcl : lo ∈ zbn us := (hr.chf hsf).1
     have hch : hi ∈ zbn us := (hr.chf hsf).2
     have hok := hr.okf hsf
     have hll := zdn hcl
     have hlh := zdn hch
     have i1 : I64 (v : Int) := jm2 (by have := hok.2.1; omega)
     have i2 : I64 (num us lo : Int) := jm2 (by omega)
     have i3 : I64 (num us hi : Int) := jm2 (by omega)
     have ho3 : OkS (zvh (num us lo : Int) σn) := ho1.put i2
     have htk : SInv us (zb5 us node) ((num us (.node v lo hi) : Int) - 1) (zvh (num us hi) (zvh (num us lo) σn)) (zvh (v : Int) σv) := hinv.take hr hul0 hV hsf h2 rfl hm
     refine zab hp zad hc rfl fun K15 hK15 => ?_
     simp -dsimp -implicitDefEqProofs (disch := first | assumption | omega | (simp [maxLen, zep] <;> omega) | decide) only [q_r, zau, zam, zac, ixO, zai, zb0, za6, ↓reduceIte, D.one, Value.oneCell', Nat.reduceEqDiff, iD, Nat.reduceAdd, zau, hx1, zme, hg, ndC, zhz, T.v, T.l, T.h, zbk, zcj, zck, zcm, zgn, zg4, znu]
     refine hK15 _ _ ?_
     refine zl8 zad hp hc mixed rfl [(0, []), (1, []), (2, []), (3, []), (4, []), (5, []), (6, []), (7, []), (8, []), (9, [5, 8]), (10, [8]), (11, [])] [[], [], [1], [], [], [4], [], [], [7], [0, 1, 2], [0, 1, 2, 3, 4, 5, 9], [0, 1, 2, 3, 4, 5, 6, 7, 8, 9, 10]] 0 (by kernel_rfl) fun K16 hK16 => ?_
     simp -dsimp -implicitDefEqProofs (disch := first | assumption | omega | (simp [maxLen, zep] <;> omega) | decide) only [q_r, zam, zac, ↓reduceIte, List.append_nil, List.replicate_zero, Nat.reduceEqDiff, Nat.reduceAdd, List.getD_cons_zero, List.getD_cons_succ, zpi, zsh, znm zjw, zb4, zci, zcn, zco, zdd]
     refine hK16 _ _ (hJ12 _ _ ⟨_, _, _, _, ⟨htk, hk2⟩, rfl, rfl, ?_⟩)
     refine Rt.trans (Rt.gc (keep := [0,1,2]) (by decide) (by decide) (by simp [])) ?_
     refine Rt.end (zaa (zaa (zaa (zaa (zae _) rfl) rfl) rfl) rfl) ?_
     first | rfl | (simp only [gcH, zbb, zcb, gcV, za2, zav, List.map_cons, List.map_nil, List.getD_cons_zero, List.getD_cons_succ, zdp, zpk]; first | done | rfl)
    ·have hm : k ∉ zem σn := by simpa using ht
     refine zan (hJ12 _ _ ⟨_, _, _, _, ⟨hinv.skip hm, hk2⟩, rfl, rfl, ?_⟩)
     refine Rt.end (zaa (zaa (zaa (zaa (zae _) rfl) rfl) rfl) rfl) ?_
     first | rfl | (simp only [zay, zas, zbm, zbr, zbp, gcH, zbb, zc7, zc0, zcq, zi5, zap, zcb, gcV, zei, fzH, zen, zdc, zdf, zbw, Nat.reduceAdd, zga, fzV, zcp, za2, zav, List.map_cons, List.map_nil, List.getD_cons_zero, List.getD_cons_succ, ↓reduceIte, Nat.reduceEqDiff, Option.map_some, List.set_cons_zero, List.set_cons_succ, zbf, zax, Nat.mul_one, List.length_map, List.cons_append, List.nil_append, zfp, zdp, zpi, zp6, zsh, znm zjw, jd3, zl7, zpj zjw, zsi, zpk, zys]; first | done | rfl)
   ·have hk2 : k < 2 := by simpa using ht
    have hlv := hinv.l1
    refine zbd (hK8 _ _ ?_)
    refine zab hp zad hc rfl fun K17 hK17 => ?_
    simp -dsimp -implicitDefEqProofs (disch := first | assumption | omega | (simp [maxLen, zep] <;> omega) | decide) only [q_r]
    refine hK17 _ _ ?_
    refine zaf fun K18 hK18 => ?_
    refine zbx hp (τ' := frL [(6, .om 0), (9, .os 1 1 0 0)]) (H' := [zqx σv, .cells []]) ?_ ?_
    ·refine Rt.trans (Rt.gc (keep := [2]) (by decide) (by decide) (by simp [])) ?_
     refine Rt.trans (Rt.nil 9 1 rfl) ?_
     refine Rt.end (zaa (zaa (zae _) rfl) rfl) ?_
     first | rfl | (simp only [gcH, List.map_cons, List.map_nil, List.getD_cons_zero, List.getD_cons_succ, List.cons_append, List.nil_append, zpk]; first | done | rfl)
    refine jbv (σ := σv) (id := 0) hp hc (ho2) ((by unfold maxLen; omega)) rfl Try.underlying103 js6 Try.underlying3 rfl (by kernel_rfl) (by decide) (by decide) (fun r ss τ' H' => (ss.Nodup ∧ ∀ x ∈ ss, x ∈ zem σv) ∧ H' = [zqx σv, .cells (avs (ss.map iD))] ∧ τ' = frL [(49, .d (.val (.pointer (some ⟨r, 0, none⟩)))), (9, .os 1 1 0 ss.length)]) ?_ (fun r => ⟨_, _, ⟨⟨List.nodup_nil, fun x hx => (by cases hx)⟩, rfl, rfl⟩, ?_⟩) ?_ ?_
    ·rintro r ss _ _ ⟨hsl, rfl, rfl⟩; exact ⟨rfl, rfl⟩
    ·refine Rt.end (zaa (zaa (zae _) rfl) rfl) ?_
     first | rfl | (simp only [zay, zas, zbm, zbr, zbp, gcH, zbb, zc7, zc0, zcq, zi5, zap, zcb, gcV, zei, fzH, zen, zdc, zdf, zbw, Nat.reduceAdd, zga, fzV, zcp, za2, zav, List.map_cons, List.map_nil, List.getD_cons_zero, List.getD_cons_succ, ↓reduceIte, Nat.reduceEqDiff, Option.map_some, List.set_cons_zero, List.set_cons_succ, zbf, zax, Nat.mul_one, List.length_map, List.cons_append, List.nil_append, zfp, zdp, zpi, zp6, zsh, znm zjw, jd3, zl7, zpj zjw, zsi, zpk, zys]; first | done | rfl)
    ·rintro r ss x _ _ c2 hc2 hp2 ⟨hsl, rfl, rfl⟩ hnew hmem
     simp only [zcw, List.map_cons, List.map_nil]
     have hsl2 : ss.length ≤ σv.1.length := by have := zp3 hsl.1 hsl.2; simpa [zem] using this
     refine zbs hp2 zad hc2 rfl fun K19 hK19 => ?_
     simp -dsimp -implicitDefEqProofs (disch := first | assumption | omega | (simp [maxLen, zep] <;> omega) | decide) only [q_r, zau, zb0, zic, ↓reduceIte, List.append_nil, List.replicate_zero, List.replicate_succ, Nat.reduceEqDiff, List.drop_zero, Nat.reduceAdd, zau, List.length_map, zgb]
     refine hK19 _ _ ⟨rfl, _, _, ⟨⟨List.nodup_append.2 ⟨hsl.1, by simp, fun a ha b hb => by simp at hb; subst hb; exact fun e => hnew (e ▸ ha)⟩, fun y hy => by rcases List.mem_append.1 hy with h | h; exact hsl.2 y h; simp at h; exact h ▸ hmem⟩, rfl, rfl⟩, ?_⟩
     refine Rt.trans (Rt.gc (keep := [0,3]) (by decide) (by decide) (by simp [])) ?_
     refine Rt.end (zaa (zaa (zae _) (by first | rfl | (simp [frL, gcV, zcp]; done) | simp [Fr.put, frL, gcV, fzV, zcp, iD, bD, uD, oD, zay, zas, zbm, zbr, zbp, zbq, zbc, *])) rfl) ?_
     simp only [gcH, zbb, zap, List.map_cons, List.map_nil, List.getD_cons_zero, List.getD_cons_succ, zpk]; simp [iD]
    ·rintro r ss _ _ ⟨hsl, rfl, rfl⟩ hperm
     simp only [zcw, List.map_cons, List.map_nil]
     have hsort : zny ss = ziz (zb5 us node) := jcc hV (hr.okf hti) (hperm.nodup_iff.2 ho2.keys) fun x => hperm.mem_iff.trans (hinv.vars hr hti hk2 x)
     have hlen : ss.length = (ziz (zb5 us node)).length := by rw [← hsort, zv9]
     have hsl' : ss.length ≤ 1000000 := by rw [hlen]; have := zuc (zb5 us node); omega
     refine (hK18 _ _ ?_)
     refine zab hp zad hc rfl fun K20 hK20 => ?_
     simp -dsimp -implicitDefEqProofs (disch := first | assumption | omega | (simp [maxLen, zep] <;> omega) | decide) only [q_r, ↓reduceIte, Nat.reduceEqDiff, Nat.reduceAdd]
     refine jpe (jh6 (l := ss) rfl hsl') ?_
     simp -dsimp -implicitDefEqProofs (disch := first | assumption | omega | (simp [maxLen, zep] <;> omega) | decide) only [q_r]
     refine hK20 _ _ ?_
     rw [hsort, hlen]
     refine zab hp zad hc rfl fun K21 hK21 => ?_
     simp -dsimp -implicitDefEqProofs (disch := first | assumption | omega | (simp [maxLen, zep] <;> omega) | decide) only [q_r, ↓reduceIte, Nat.reduceEqDiff]
     refine hK21 _ _ ?_
     refine zao ?_
     show zaj _ _ = _
     simp (disch := first | assumption | omega | (simp [maxLen, zep] <;> omega) | decide) only [zaj, zct, zce, zbt, zbl, zcg, Nat.reduceAdd, Nat.zero_add, zax, zpg, zat, ↓reduceIte, Option.map_some, Option.bind_some, Nat.mul_one, List.getElem?_cons_zero, List.getElem?_cons_succ, List.length_cons, List.length_nil, zay]
     simp [zwc, hx]
end Go.Proofs.Ytgfnpfchdlcoeaa
