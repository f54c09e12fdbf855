/- Of no program: objects that are no more needed are dropped, the others numbered anew. -/
import Derived.Test.YtfpcailbobjfnaaAJ
set_option linter.unusedVariables false
set_option linter.unusedSimpArgs false
namespace Go.Proofs.Ytfpcailbobjfnaa
open Go Go.RowKit
def posN : List Nat → Nat → Option Nat
  | [], _ => none
  | a :: l, x => if x = a then some 0 else (posN l x).map (· + 1)
theorem posN_get : ∀ {l : List Nat} {x j : Nat}, posN l x = some j → l[j]? = some x
  | [], _, _, h => by cases h
  | a :: l, x, j, h => by
    unfold posN at h
    split at h
    · rename_i e; cases h; rw [e]; rfl
    · obtain ⟨i, hi, rfl⟩ := Option.map_eq_some_iff.1 h
      simpa using posN_get hi
mutual
def gcV (keep : List Nat) : AV → AV
  | .any => .any
  | .d x => .d x
  | .os k id off n => match posN keep id with | some j => .os k j off n | none => .any
  | .op id off => match posN keep id with | some j => .op j off | none => .any
  | .om id => match posN keep id with | some j => .om j | none => .any
  | .agg cs => .agg (gcVs keep cs)
  | .tup cs => .tup (gcVs keep cs)
  | .clo fn fi ca => .clo fn (gcVs keep fi) (gcVs keep ca)
def gcVs (keep : List Nat) : List AV → List AV
  | [] => []
  | x :: l => gcV keep x :: gcVs keep l
end
def gcO (keep : List Nat) : AObj → AObj
  | .free => .free
  | .dead => .dead
  | .cells cs => .cells (gcVs keep cs)
  | .map es clock => .map (es.map fun e => (e.1, e.2.1, gcV keep e.2.2)) clock
def gcH (keep : List Nat) (H : AHeap) : AHeap := keep.map fun i => gcO keep (H.getD i .dead)
theorem gcVs_eq (keep : List Nat) : ∀ cs : List AV, gcVs keep cs = cs.map (gcV keep)
  | [] => rfl
  | x :: l => by rw [gcVs, gcVs_eq keep l]; rfl
theorem gcV_d (keep : List Nat) (x : D) : gcV keep (.d x) = .d x := by rw [gcV]
theorem gcVs_d (keep : List Nat) (ds : List D) : gcVs keep (ds.map .d) = ds.map .d := by
  rw [gcVs_eq, List.map_map]
  exact List.map_congr_left fun x _ => gcV_d keep x
theorem gcO_live (keep : List Nat) (o : AObj) : (gcO keep o).live = o.live := by cases o <;> rfl
section
variable {P : Program} {c : Cx} {τ : Fr} {a : Act} {w : World} {pl : List (Option (Nat × Nat))} {H : AHeap} {Q : Exit → Fr → AHeap → Prop}
def gcP (keep : List Nat) (pl : List (Option (Nat × Nat))) : List (Option (Nat × Nat)) := keep.map fun i => pl.getD i none
theorem gcP_get {keep : List Nat} {j i : Nat} (h : keep[j]? = some i) {p : Option (Nat × Nat)} (hp : pl[i]? = some p) : (gcP keep pl)[j]? = some p := by
  unfold gcP
  rw [List.getElem?_map, h, Option.map_some, List.getD_eq_getElem?_getD, hp]; rfl
theorem gcP_back {keep : List Nat} {j : Nat} {p : Nat × Nat} (h : (gcP keep pl)[j]? = some (some p)) : ∃ i, keep[j]? = some i ∧ pl[i]? = some (some p) := by
  unfold gcP at h
  rw [List.getElem?_map, Option.map_eq_some_iff] at h
  obtain ⟨i, hi, he⟩ := h
  refine ⟨i, hi, ?_⟩
  rw [List.getD_eq_getElem?_getD] at he
  cases hq : pl[i]? with
  | none => rw [hq] at he; cases he
  | some q => rw [hq] at he; exact congrArg some he
theorem gc_rd {keep : List Nat} {own own' : Nat → Prop} (hw : ∀ b, own' b → own b) {x : AV} {v : Value} (h : Rd w pl own x v) : Rd w (gcP keep pl) own' (gcV keep x) v := by
  have place : ∀ {id j b base : Nat}, posN keep id = some j → pl[id]? = some (some (b, base)) → (gcP keep pl)[j]? = some (some (b, base)) := fun hj hp => gcP_get (posN_get hj) hp
  have gets : ∀ {cs : List AV} {j : Nat} {y : AV}, (gcVs keep cs)[j]? = some y → ∃ x, cs[j]? = some x ∧ y = gcV keep x := fun {cs j y} h => by
    rw [gcVs_eq, List.getElem?_map, Option.map_eq_some_iff] at h
    obtain ⟨x, hx, rfl⟩ := h
    exact ⟨x, hx, rfl⟩
  induction h with
  | any v => rw [gcV]; exact .any v
  | d x v h => rw [gcV]; exact .d _ _ (h.mono (Nat.le_refl _) (fun _ _ _ => rfl) (fun b _ hb => hw b hb))
  | os k id off n cap b base sz t h1 h2 h3 h4 h5 =>
    rw [gcV]
    split
    · rename_i j hj; exact .os k j off n cap b base sz t (place hj h1) h2 h3 h4 h5
    · exact .any _
  | os0 k id off ad =>
    rw [gcV]
    split
    · exact .os0 _ _ _ _
    · exact .any _
  | op id off b base h1 =>
    rw [gcV]
    split
    · rename_i j hj; exact .op j off b base (place hj h1)
    · exact .any _
  | om id b base h1 =>
    rw [gcV]
    split
    · rename_i j hj; exact .om j b base (place hj h1)
    · exact .any _
  | agg cs vs hl _ ih =>
    rw [gcV]
    refine .agg _ _ (by rw [gcVs_eq]; simpa using hl) fun j y hj => ?_
    obtain ⟨x, hx, rfl⟩ := gets hj
    exact ih j x hx
  | tup cs vs hl _ ih =>
    rw [gcV]
    refine .tup _ _ (by rw [gcVs_eq]; simpa using hl) fun j y hj => ?_
    obtain ⟨x, hx, rfl⟩ := gets hj
    exact ih j x hx
  | clo fn fi ca vs us hl _ hl' _ ih ih' =>
    rw [gcV]
    refine .clo _ _ _ _ _ (by rw [gcVs_eq]; simpa using hl) (fun j y hj => ?_) (by rw [gcVs_eq]; simpa using hl') (fun j y hj => ?_)
    · obtain ⟨x, hx, rfl⟩ := gets hj
      exact ih j x hx
    · obtain ⟨x, hx, rfl⟩ := gets hj
      exact ih' j x hx
theorem R.gc (hp : c.pl0 = []) {keep : List Nat} (hn : keep.Nodup) (hb : ∀ i ∈ keep, i < H.length) (hR : R c τ H [] a w) : R c (fun t => gcV keep (τ t)) (gcH keep H) [] a w := by
  obtain ⟨pl, h⟩ := hR
  have back : ∀ {j : Nat} {o' : AObj}, (gcH keep H)[j]? = some o' → ∃ i o, keep[j]? = some i ∧ H[i]? = some o ∧ o' = gcO keep o := fun {j o'} hj => by
    unfold gcH at hj
    rw [List.getElem?_map, Option.map_eq_some_iff] at hj
    obtain ⟨i, hi, rfl⟩ := hj
    have hlt := hb i (List.mem_of_getElem? hi)
    exact ⟨i, H[i], hi, List.getElem?_eq_getElem hlt, by rw [List.getD_eq_getElem?_getD, List.getElem?_eq_getElem hlt]; rfl⟩
  have placed : ∀ {j : Nat} {o' : AObj} {p : Nat × Nat}, (gcH keep H)[j]? = some o' → o'.live = true → (gcP keep pl)[j]? = some (some p) → ∃ i o, keep[j]? = some i ∧ H[i]? = some o ∧ o.live = true ∧ pl[i]? = some (some p) := fun {j o' p} hj hl hpj => by
    obtain ⟨i, o, h1, h2, rfl⟩ := back hj
    obtain ⟨i', h3, h4⟩ := gcP_back hpj
    rw [h1] at h3; cases h3
    exact ⟨i, o, h1, h2, by rw [gcO_live] at hl; exact hl, h4⟩
  have hown : ∀ b, ownB c.E (gcH keep H) (gcP keep pl) b → ownB c.E H pl b := fun b hbo => by
    rcases hbo with hbo | ⟨j, o', e, h1, h2, h3⟩
    · exact .inl hbo
    · obtain ⟨i, o, _, k2, k3, k4⟩ := placed h1 h2 h3
      exact .inr ⟨i, o, e, k2, k3, k4⟩
  refine ⟨gcP keep pl, ⟨by simp [gcP, gcH], fun j o' hj => ?_, fun i j oi oj p q h1 h2 l1 l2 hne _ _ p1 p2 => ?_, fun i o p h1 l1 p1 => ?_, fun p hp => (by cases hp), fun i j ci cj p q hm => (by cases hm)⟩, h.stp, fun i o p h1 l1 p1 => ?_, h.ext, fun t => gc_rd hown (h.fr t), h.size, h.defs, fun i p hi => by rw [hp] at hi; simp at hi⟩
  · obtain ⟨i, o, h1, h2, rfl⟩ := back hj
    have ho := h.h.obj i o h2
    cases o with
    | free => exact gcP_get h1 ho
    | dead => trivial
    | cells cs =>
      rcases ho with ⟨k1, k2⟩ | ⟨b, base, arr, t, k1, k2, k3, k4⟩
      · exact .inl ⟨by subst k1; rfl, gcP_get h1 k2⟩
      · refine .inr ⟨b, base, arr, t, gcP_get h1 k1, k2, by rw [gcVs_eq]; simpa using k3, fun j y hj => ?_⟩
        rw [gcVs_eq, List.getElem?_map, Option.map_eq_some_iff] at hj
        obtain ⟨x, hx, rfl⟩ := hj
        exact ⟨gc_rd hown (k4 j x hx).1, (k4 j x hx).2⟩
    | map es clock =>
      obtain ⟨b, base, ms, k1, k2, k3, k4, k5⟩ := ho
      refine ⟨b, base, ms, gcP_get h1 k1, k2, by simpa using k3, by rw [List.map_map]; exact k4, fun j e k n x hj hx => ?_⟩
      rw [List.getElem?_map, Option.map_eq_some_iff] at hx
      obtain ⟨⟨k', n', x'⟩, hx', he⟩ := hx
      cases he
      obtain ⟨m1, m2, m3⟩ := k5 j e k' n' x' hj hx'
      exact ⟨m1, m2, gc_rd hown m3⟩
  · obtain ⟨i', o1, a1, a2, a3, a4⟩ := placed h1 l1 p1
    obtain ⟨j', o2, b1, b2, b3, b4⟩ := placed h2 l2 p2
    refine h.h.dis i' j' o1 o2 p q a2 b2 a3 b3 (fun e => ?_) (by simp) (by simp) a4 b4
    subst e
    have hnd := List.pairwise_iff_getElem.1 hn
    obtain ⟨m1, g1⟩ := List.getElem?_eq_some_iff.1 a1
    obtain ⟨m2, g2⟩ := List.getElem?_eq_some_iff.1 b1
    rcases Nat.lt_trichotomy i j with hl | hl | hl
    · exact hnd i j m1 m2 hl (g1.trans g2.symm)
    · exact hne hl
    · exact hnd j i m2 m1 hl (g2.trans g1.symm)
  · obtain ⟨i', o1, a1, a2, a3, a4⟩ := placed h1 l1 p1
    exact h.h.ext i' o1 p a2 a3 a4
  · obtain ⟨i', o1, a1, a2, a3, a4⟩ := placed h1 l1 p1
    exact h.own0 i' o1 p a2 a3 a4
theorem awp_gc {x : Code} (hp : c.pl0 = []) (keep : List Nat) (hn : keep.Nodup) (hb : ∀ i ∈ keep, i < H.length) (h : AWp P c x Q (fun t => gcV keep (τ t)) (gcH keep H)) : AWp P c x Q τ H := fun a w hR => h a w (hR.gc hp hn hb)
theorem calls_of_awp0 {f : FuncId} {fn : Func} {code : Code} {ds : List D} {Q : AV → AHeap → Prop} {E : Nat → Prop} {vals : Array Value} (hf : P.funcs[f]? = some fn) (hb : fn.body = some code) (hn : ds.length ≤ fn.ntmps) (h : ∀ c : Cx, c.nt = fn.ntmps → c.pl0 = [] → AWp P c code (PostA P fn Q) (startF ds) [])
    (hl : vals.size = ds.length) (hx : ∀ j x, ds[j]? = some x → RdD w E x (vals.getD j undef)) (hE : ∀ b, E b → b < w.heap.size) :
    Calls P f vals w fun e w' => ∃ v x H' a' pl τ', e = .returned v ∧ Q x H' ∧ Rd w' pl (ownB E H' pl) x v ∧ RelS ⟨E, w, fun _ => False, fn.ntmps, []⟩ τ' H' [] pl a' w' := by
  refine calls_of_wp hf hb ?_
  have hR : R ⟨E, w, fun _ => False, fn.ntmps, []⟩ (startF ds) [] [] { tmps := vals ++ Array.replicate (fn.ntmps - vals.size) undef, defers := [] } w := by
    refine ⟨[], ⟨rfl, fun id o ho => by simp at ho, fun i j oi oj p q h1 => by simp at h1, fun i o p h1 => by simp at h1, fun p hp => (by cases hp), fun i j ci cj p q hm => (by cases hm)⟩, Stp.refl _ _, fun id o p h1 => by simp at h1, hE, fun t => ?_, by simp; omega, rfl, fun i p hi => by simp at hi⟩
    simp only [frame_get]
    unfold startF
    rw [List.getD_eq_getElem?_getD, List.getElem?_map]
    cases hd : ds[t]? with
    | none =>
      have : vals.size ≤ t := by rw [hl]; exact List.getElem?_eq_none_iff.1 hd
      simp only [Array.getD, dif_neg (Nat.not_lt.2 this)]
      exact .d _ _ (.val _)
    | some x => exact .d _ _ ((hx t x hd).mono (Nat.le_refl _) (fun _ _ _ => rfl) (fun b _ hb => by
      rcases hb with hb | ⟨i, o, e, h1, _⟩
      · exact hb
      · simp at h1))
  refine wp_mono (h ⟨E, w, fun _ => False, fn.ntmps, []⟩ rfl rfl _ w hR) fun e a' w' ⟨τ', H', ⟨pl, h1⟩, h2⟩ => ?_
  cases e with
  | normal =>
    obtain ⟨xs, v, k1, k2, k3⟩ := results_run h1 fn h2
    exact ⟨h1.defs, v, k3, v, _, H', a', pl, τ', rfl, k1, k2, h1⟩
  | ret =>
    obtain ⟨xs, v, k1, k2, k3⟩ := results_run h1 fn h2
    exact ⟨h1.defs, v, k3, v, _, H', a', pl, τ', rfl, k1, k2, h1⟩
  | _ => exact h2.elim
/-- The contracts, out of the machine's run; objects may be dropped in it. -/
theorem pcalls_of0 {f : FuncId} {fn : Func} {code : Code} {ds : List D} {r : AV} (he : entO P f = true) (hf : P.funcs[f]? = some fn) (hb : fn.body = some code) (hn : ds.length ≤ fn.ntmps)
    (h : ∀ c : Cx, c.nt = fn.ntmps → c.pl0 = [] → AWp P c code (PostA P fn fun x H => closeA H x = some r) (startF ds) []) : PCalls P f ds r :=
  ⟨he, fun _ _ _ hl hx hE => (calls_of_awp0 hf hb hn h hl hx hE).mono fun _ _ ⟨v, _, _, _, _, _, h1, h2, h3, h4⟩ => ⟨v, h1, closeA_rd h4.h h2 h3, h4.stp.to_below⟩⟩
theorem rcalls_of0 {f : FuncId} {fn : Func} {code : Code} {ds : List D} {Q : AV → Prop} (he : entO P f = true) (hf : P.funcs[f]? = some fn) (hb : fn.body = some code) (hn : ds.length ≤ fn.ntmps)
    (h : ∀ c : Cx, c.nt = fn.ntmps → c.pl0 = [] → AWp P c code (PostA P fn fun x H => ∃ r, closeA H x = some r ∧ Q r) (startF ds) []) : RCalls P f ds Q :=
  ⟨he, fun _ _ _ hl hx hE => (calls_of_awp0 hf hb hn h hl hx hE).mono fun _ _ ⟨v, _, _, _, _, _, h1, ⟨r, h2, h5⟩, h3, h4⟩ => ⟨v, r, h1, h5, closeA_rd h4.h h2 h3, h4.stp.to_below⟩⟩
theorem ncalls_of0 {f : FuncId} {fn : Func} {code : Code} {ds : List D} {r : AV} (he : entO P f = true) (hf : P.funcs[f]? = some fn) (hb : fn.body = some code) (hn : ds.length ≤ fn.ntmps)
    (h : ∀ c : Cx, c.nt = fn.ntmps → c.pl0 = [] → AWp P c code (PostA P fn fun x H => closeN H x = some r) (startF ds) []) : NCalls P f ds r :=
  ⟨he, fun w O _ hl hx hE => (calls_of_awp0 hf hb hn h hl hx hE).mono fun _ w' ⟨v, _, _, _, _, _, h1, h2, h3, h4⟩ => ⟨v, h1, closeN_rd h4.h (fun id o p k1 k2 k3 hE' => by
    rcases hE' with hE' | hE'
    · exact h4.h.ext id o p k1 k2 k3 hE'
    · rcases h4.own0 id o p k1 k2 k3 with h | h
      · exact h
      · simp only at h; omega) h2 h3, h4.stp.to_below⟩⟩
/-- A state behind a round: as the law wants it, once some objects are dropped. -/
def GcI (I : Fr → AHeap → Nat → Prop) (τ : Fr) (H : AHeap) (n : Nat) : Prop := I τ H n ∨ ∃ keep : List Nat, keep.Nodup ∧ (∀ i ∈ keep, i < H.length) ∧ I (fun t => gcV keep (τ t)) (gcH keep H) n
theorem awp_loop_gc {x : Code} (hp : c.pl0 = []) (I : Fr → AHeap → Nat → Prop) {n0 : Nat} (h0 : I τ H n0) (round : ∀ τ H n, I τ H n → AWp P c x (thenA (fun τ' H' => ∃ n', n' < n ∧ GcI I τ' H' n') Q) τ H) : AWp P c (.loop x) Q τ H := by
  have key : ∀ τ H n, GcI I τ H n → AWp P c x (thenA (fun τ' H' => ∃ n', n' < n ∧ GcI I τ' H' n') Q) τ H := fun τ H n h => by
    rcases h with h | ⟨keep, h1, h2, h3⟩
    · exact round τ H n h
    · exact awp_gc hp keep h1 h2 (round _ _ n h3)
  exact awp_loop (GcI I) (.inl h0) key
theorem gcH_nil (H : AHeap) : gcH [] H = [] := rfl
end
section
variable {P : Program} {fr : List FuncId} {ops l : List Oper} {τ : Fr} {H : AHeap} {d : Option Tmp} {ty : TypeId} {pos : String} {af : Array Edge} {K : Fr → AHeap → Prop} {t : TypeId}
theorem uT_box {y : Operand} : runT P fr ops (⟨d, .box t y, ty, pos, af, none⟩ :: l) τ H K = ∃ cs, asCells (evalA τ y) = some cs ∧ runT P fr ops l (τ.put d (.op H.length 0)) (H ++ [.cells cs]) K := rT_box.trans (t_box (K := fun x H' => runT P fr ops l (τ.put d x) H' K))
theorem uT_alloc : runT P fr ops (⟨d, .alloc t, ty, pos, af, none⟩ :: l) τ H K = ∃ zs, zaO P t = some zs ∧ runT P fr ops l (τ.put d (.op H.length 0)) (H ++ [.cells (zs.map .d)]) K := rT_alloc.trans (t_alloc (K := fun x H' => runT P fr ops l (τ.put d x) H' K))
theorem uT_make {y z : Operand} : runT P fr ops (⟨d, .makeSlice t y z, ty, pos, af, none⟩ :: l) τ H K = MakeK P t (evalA τ y) (evalA τ z) fun s n cs => runT P fr ops l (τ.put d (.os s H.length 0 n)) (H ++ [.cells cs]) K := rT_make.trans (t_make (K := fun x H' => runT P fr ops l (τ.put d x) H' K))
theorem u_app {s y : Operand} {t' : TypeId} (ht : t' = t) (h : AppT P t (evalA τ s) (evalA τ y) H fun x H' => runT P fr ops l (τ.put d x) H' K) : runT P fr ops (⟨d, .call ⟨.builtin .append, #[s, y], #[t, t']⟩, ty, pos, af, none⟩ :: l) τ H K := by
  rw [rT_app]; exact t_app ht h
theorem uT_store {p y : Operand} : runT P fr ops (⟨d, .store t p y, ty, pos, af, none⟩ :: l) τ H K = StoreK P t (evalA τ p) (evalA τ y) H [] 0 fun H' => runT P fr ops l (τ.put d (.d (.val undef))) H' K := rT_store.trans (d_store (KK := fun H' => runT P fr ops l (τ.put d (.d (.val undef))) H' K))
variable {KV : Value → Prop} {a b : Bool}
theorem b_beq2 : (∃ r, binV P .eql t (.bool a) (.bool b) = some r ∧ KV r) = (isBoolT P t = true ∧ KV (.bool (a == b))) := by
  cases h : isBoolT P t <;> simp [binV, h]
theorem b_bne2 : (∃ r, binV P .neq t (.bool a) (.bool b) = some r ∧ KV r) = (isBoolT P t = true ∧ KV (.bool (a != b))) := by
  cases h : isBoolT P t <;> simp [binV, h, bne]
theorem bs_k {n : Nat} {ps : List (Nat × AV)} {KK : Nat → List AV → Prop} : BsK P t n ps KK = ∃ q, mkO P t = some q ∧ n * q.1 ≤ 16777216 ∧ ∃ cs, fillA (fun i => some (i * q.1, q.1)) (reps n q.2.1) ps = some cs ∧ KK q.1 cs := rfl
theorem reps_def {n : Nat} {zs : List D} : reps n zs = match zs with | [z] => List.replicate n (.d z) | zs => (List.replicate n (zs.map AV.d)).flatten := rfl
theorem fill_nil {pf : Nat → Option (Nat × Nat)} {cs : List AV} : fillA pf cs [] = some cs := rfl
theorem fill_cons {pf : Nat → Option (Nat × Nat)} {cs : List AV} {i : Nat} {x : AV} {ps : List (Nat × AV)} : fillA pf cs ((i, x) :: ps) = match pf i with
    | none => none
    | some (off, size) => match asCells x with
      | none => none
      | some l => if l.length ≠ size ∨ off + l.length > cs.length then none else fillA pf (setMany cs off l) ps := rfl
theorem as_d {v : Value} (h : v.oneCell' = true) : asCells (.d (.val v)) = some [.d (.val v)] := by
  unfold asCells
  simp [AV.one, D.one, h]
theorem as_int {k : IntKind} {n : Int} : asCells (.d (.val (.int k n))) = some [.d (.val (.int k n))] := rfl
theorem as_bool {b : Bool} : asCells (.d (.val (.bool b))) = some [.d (.val (.bool b))] := rfl
theorem as_fs {cs : List D} {n : Nat} : asCells (.d (.fs cs n)) = some [.d (.fs cs n)] := rfl
theorem as_fp {cs : List D} {n : Nat} : asCells (.d (.fp cs n)) = some [.d (.fp cs n)] := rfl
theorem as_os {k id off n : Nat} : asCells (.os k id off n) = some [.os k id off n] := rfl
theorem as_op {id off : Nat} : asCells (.op id off) = some [.op id off] := rfl
theorem as_om {id : Nat} : asCells (.om id) = some [.om id] := rfl
theorem as_nil {n c : Nat} : asCells (.d (.val (.slice none n c))) = some [.d (.val (.slice none n c))] := rfl
theorem as_agg {cs : List AV} : asCells (.agg cs) = if cs.all AV.one then some cs else none := rfl
theorem as_dagg {cs : List D} : asCells (.d (.agg cs)) = if cs.all D.one then some (cs.map .d) else none := rfl
theorem many_nil {cs : List AV} {i : Nat} : setMany cs i [] = cs := rfl
theorem many_cons {cs l : List AV} {i : Nat} {x : AV} : setMany cs i (x :: l) = setMany (cs.set i x) (i + 1) l := rfl
end
end Go.Proofs.Ytfpcailbobjfnaa
