/- Of no program: regions in the order of the text, and the other pieces of code. -/
import Derived.Test.YtfpcailbobjfnaaA16
set_option linter.unusedVariables false
set_option linter.unusedSimpArgs false
namespace Go.Proofs.Ytfpcailbobjfnaa
open Go Go.RowKit
section
variable {P : Program} {c : Cx} {τ : Fr} {a : Act} {w w' : World} {pl pl' : List (Option (Nat × Nat))} {H H' : AHeap} {sh sh' : List (Nat × Nat)}
/-- Which operations lay objects (1; an append: 3), which write (2; a map: 4). -/
def kOf (fr : List FuncId) : Op → Nat
  | .box .. | .alloc _ | .makeSlice .. | .buildSlice .. | .makeMap .. => 1
  | .call { callee := .builtin .append, .. } => 3
  | .call { callee := .value (.func f), .. } => if fr.contains f then 1 else 0
  | .store .. => 2
  | .mapUpdate .. | .insert .. | .mapEntry .. | .entryStore .. => 4
  | _ => 0
def guardV (want : Bool) : AV → Option Bool
  | .d (.val (.bool b)) => some (b == want)
  | .d (.val (.tuple _)) => some false
  | _ => none
def guardA (ops : List Oper) (τ : Fr) (o : Oper) : Option Bool :=
  match o.guard with
  | none => some true
  | some (j, want) => match (ops[j]?).bind (·.dst) with
    | none => some false
    | some d => guardV want (τ d)
theorem guardA_wanted (h : RelS c τ H sh pl a w) {ops : List Oper} {o : Oper} {b : Bool} (hg : guardA ops τ o = some b) : Region.wanted o (yielded ops.toArray a.tmps) = b := by
  unfold guardA at hg
  unfold Region.wanted
  split at hg
  · rename_i e; cases hg; rw [e]
  · rename_i j want e
    rw [e]
    simp only
    unfold yielded
    rw [List.getElem?_toArray]
    split at hg
    · rename_i e2; cases hg; rw [e2]; rfl
    · rename_i d e2
      rw [e2]
      simp only [Option.bind_some]
      have hx := h.fr d
      unfold guardV at hg
      split at hg
      · rename_i b' e3
        cases hg
        rw [e3] at hx
        have hv : a.tmps.getD d undef = .bool b' := by generalize a.tmps.getD d undef = z at hx; cases hx with | d _ _ hx => cases hx; rfl
        by_cases hd : d < a.tmps.size
        · rw [Array.getD, dif_pos hd] at hv
          rw [Array.getElem?_eq_getElem hd]
          have hv' : a.tmps[d] = .bool b' := hv
          rw [hv']
          cases b' <;> cases want <;> rfl
        · rw [Array.getD, dif_neg hd] at hv
          cases hv
      · rename_i u e3
        cases hg
        rw [e3] at hx
        have hv : a.tmps.getD d undef = .tuple u := by generalize a.tmps.getD d undef = z at hx; cases hx with | d _ _ hx => cases hx; rfl
        by_cases hd : d < a.tmps.size
        · rw [Array.getD, dif_pos hd] at hv
          rw [Array.getElem?_eq_getElem hd]
          have hv' : a.tmps[d] = .tuple u := hv
          rw [hv']; rfl
        · rw [Array.getElem?_eq_none (Nat.le_of_not_lt hd)]; rfl
      · cases hg
/-- What is shown of a piece of code: from every frame and world that the abstract state speaks of, it comes to one of which Q speaks. -/
def AWp (P : Program) (c : Cx) (code : Code) (Q : Exit → Fr → AHeap → Prop) (τ : Fr) (H : AHeap) : Prop :=
  ∀ a w, R c τ H [] a w → code.wp P (fun e a' w' => ∃ τ' H', R c τ' H' [] a' w' ∧ Q e τ' H') a w
/-! ### A function -/
def retV : List AV → AV
  | [x] => x
  | xs => .tup xs
def ResA (P : Program) (τ : Fr) (H : AHeap) : List ResultVar → (List AV → Prop) → Prop
  | [], K => K []
  | .tmp t :: l, K => ResA P τ H l fun xs => K (τ t :: xs)
  | .cell t ty :: l, K => ∃ x, LoadQ P H H.length ty (τ t) x ∧ ResA P τ H l fun xs => K (x :: xs)
def PostA (P : Program) (fn : Func) (Q : AV → AHeap → Prop) : Exit → Fr → AHeap → Prop
  | .normal, τ, H | .ret, τ, H => ResA P τ H fn.results.toList fun xs => Q (retV xs) H
  | _, _, _ => False
theorem ResA_mono {K K' : List AV → Prop} : ∀ (l : List ResultVar) (τ : Fr) (H : AHeap), (∀ xs, K xs → K' xs) → ResA P τ H l K → ResA P τ H l K'
  | [], _, _, h, hk => h _ hk
  | .tmp t :: l, τ, H, h, hk => ResA_mono (K := fun xs => K (τ t :: xs)) (K' := fun xs => K' (τ t :: xs)) l τ H (fun _ hh => h _ hh) hk
  | .cell t ty :: l, τ, H, h, ⟨x, hx, hk⟩ => ⟨x, hx, ResA_mono (K := fun xs => K (x :: xs)) (K' := fun xs => K' (x :: xs)) l τ H (fun _ hh => h _ hh) hk⟩
theorem ResA_run (h : RelS c τ H sh pl a w) : ∀ (l : List ResultVar) (K : List AV → Prop), ResA P τ H l K → ∃ (xs : List AV) (vs : List Value), K xs ∧ vs.length = xs.length ∧ (∀ j x, xs[j]? = some x → Rd w pl (ownB c.E H pl) x (vs.getD j undef)) ∧
    (l.mapM (m := Sem) fun | .tmp t => pure (a.tmps.getD t undef) | .cell p t => do loadVar t (← asAddr (a.tmps.getD p undef))).run P w = .ok vs w
  | [], K, hk => ⟨[], [], hk, rfl, fun j x hj => by simp at hj, by simp⟩
  | .tmp t :: l, K, hk => by
    obtain ⟨xs, vs, h1, h2, h3, h4⟩ := ResA_run h l _ hk
    refine ⟨τ t :: xs, a.tmps.getD t undef :: vs, h1, by simp [h2], fun j x hj => ?_, ?_⟩
    · cases j with
      | zero => cases hj; exact h.fr t
      | succ j => exact h3 j x hj
    · rw [List.mapM_cons]
      simp only [Sem.run_bind, Sem.run_pure, Result.andThen_ok, h4]
  | .cell p t :: l, K, hk => by
    obtain ⟨x, hx, hk⟩ := hk
    obtain ⟨xs, vs, h1, h2, h3, h4⟩ := ResA_run h l _ hk
    obtain ⟨u, hu, hr⟩ := hx.run (P := P) h.h (h.fr p)
    refine ⟨x :: xs, u :: vs, h1, by simp [h2], fun j y hj => ?_, ?_⟩
    · cases j with
      | zero => cases hj; exact hr
      | succ j => exact h3 j y hj
    · have hl : (do loadVar t (← asAddr (a.tmps.getD p undef)) : Sem Value).run P w = .ok u w := by
        have hp := h.fr p
        have key : ∀ z, Rd w pl (ownB c.E H pl) (τ p) z → (Instr.loadAt t z).run P w = .ok u w → (do loadVar t (← asAddr z) : Sem Value).run P w = .ok u w := by
          intro z hz hrun
          unfold LoadQ at hx
          split at hx
          · rename_i e; rw [e] at hz; cases hz with | d _ _ hz => cases hz; exact hrun
          · rename_i e; rw [e] at hz; cases hz; exact hrun
          · exact hx.elim
        exact key _ hp hu
      rw [List.mapM_cons]
      simp only [Sem.run_bind] at hl
      simp only [Sem.run_bind, hl, Result.andThen_ok, h4, Sem.run_pure]
theorem results_run (h : RelS c τ H sh pl a w) (fn : Func) {K : List AV → Prop} (hk : ResA P τ H fn.results.toList K) : ∃ (xs : List AV) (v : Value), K xs ∧ Rd w pl (ownB c.E H pl) (retV xs) v ∧ (results fn a.tmps).run P w = .ok v w := by
  obtain ⟨xs, vs, h1, h2, h3, h4⟩ := ResA_run h _ K hk
  refine ⟨xs, if h : vs.toArray.size = 1 then vs.toArray[0] else .tuple vs.toArray, h1, ?_, ?_⟩
  · match xs, vs, h2, h3 with
    | [x], [v], _, h3 => exact h3 0 x rfl
    | [], [], _, h3 => exact .tup _ _ rfl fun j x hj => by simp at hj
    | x :: y :: xs, v :: u :: vs, h2, h3 =>
      rw [dif_neg (by simp)]
      exact .tup _ _ (by simpa using h2) fun j z hj => by simpa using h3 j z hj
  · unfold results
    rw [Array.mapM_eq_mapM_toList]
    simp only [Sem.run_bind, Sem.run_map, Sem.run_pure]
    erw [h4]
    rfl
/-- The frame at a call. -/
def startV (xs : List AV) : Fr := fun t => xs.getD t (.d (.val undef))
def startF (ds : List D) : Fr := fun t => (ds.map AV.d).getD t (.d (.val undef))
theorem frame_get (vals : Array Value) (n t : Nat) : (vals ++ Array.replicate n undef).getD t undef = vals.getD t undef := by
  rw [Array.getD_eq_getD_getElem?, Array.getD_eq_getD_getElem?, Array.getElem?_append]
  split
  · rfl
  · rename_i h
    rw [Array.getElem?_eq_none (xs := vals) (by omega)]
    by_cases hn : t - vals.size < n
    · simp [hn]
    · simp [hn]
/-- A call whose arguments may hold the caller's own objects, and that may write them and lay new ones. -/
theorem callV_of_awp {f : FuncId} {fn : Func} {code : Code} {xs : List AV} {Q : AV → AHeap → Prop} {E : Nat → Prop} {vals : Array Value} (hf : P.funcs[f]? = some fn) (hb : fn.body = some code) (hn : xs.length ≤ fn.ntmps) (h : ∀ c : Cx, c.nt = fn.ntmps → AWp P c code (PostA P fn Q) (startV xs) H)
    (hl : vals.size = xs.length) (hx : ∀ j x, xs[j]? = some x → Rd w pl (ownB E H pl) x (vals.getD j undef)) (hh : RelH E w pl H []) (hE : ∀ b, E b → b < w.heap.size) :
    Calls P f vals w fun e w' => ∃ v x H' a' pl' τ', e = .returned v ∧ Q x H' ∧ Rd w' pl' (ownB E H' pl') x v ∧ RelS ⟨E, w, ownL H pl, fn.ntmps, pl⟩ τ' H' [] pl' a' w' := by
  refine calls_of_wp hf hb ?_
  have hR : R ⟨E, w, ownL H pl, fn.ntmps, pl⟩ (startV xs) H [] { tmps := vals ++ Array.replicate (fn.ntmps - vals.size) undef, defers := [] } w := by
    refine ⟨pl, hh, Stp.refl _ _, fun id o p h1 h2 h3 => .inl ⟨id, o, p.2, h1, h2, h3⟩, hE, fun t => ?_, by simp; omega, rfl, fun i p hi => hi⟩
    simp only [frame_get]
    unfold startV
    rw [List.getD_eq_getElem?_getD]
    cases hd : xs[t]? with
    | none =>
      have : vals.size ≤ t := by rw [hl]; exact List.getElem?_eq_none_iff.1 hd
      simp only [Array.getD, dif_neg (Nat.not_lt.2 this)]
      exact .d _ _ (.val _)
    | some x => exact hx t x hd
  refine wp_mono (h ⟨E, w, ownL H pl, fn.ntmps, pl⟩ rfl _ w hR) fun e a' w' ⟨τ', H', ⟨pl', h1⟩, h2⟩ => ?_
  cases e with
  | normal =>
    obtain ⟨xs, v, k1, k2, k3⟩ := results_run h1 fn h2
    exact ⟨h1.defs, v, k3, v, _, H', a', pl', τ', rfl, k1, k2, h1⟩
  | ret =>
    obtain ⟨xs, v, k1, k2, k3⟩ := results_run h1 fn h2
    exact ⟨h1.defs, v, k3, v, _, H', a', pl', τ', rfl, k1, k2, h1⟩
  | _ => exact h2.elim
theorem calls_of_awp {f : FuncId} {fn : Func} {code : Code} {ds : List D} {Q : AV → AHeap → Prop} {E : Nat → Prop} {vals : Array Value} (hf : P.funcs[f]? = some fn) (hb : fn.body = some code) (hn : ds.length ≤ fn.ntmps) (h : ∀ c : Cx, c.nt = fn.ntmps → AWp P c code (PostA P fn Q) (startF ds) [])
    (hl : vals.size = ds.length) (hx : ∀ j x, ds[j]? = some x → RdD w E x (vals.getD j undef)) (hE : ∀ b, E b → b < w.heap.size) :
    Calls P f vals w fun e w' => ∃ v x H' a' pl τ', e = .returned v ∧ Q x H' ∧ Rd w' pl (ownB E H' pl) x v ∧ RelS ⟨E, w, fun _ => False, fn.ntmps, []⟩ τ' H' [] pl a' w' := by
  have hown : ∀ b, ownB E [] [] b → E b := fun b hb => by
    rcases hb with hb | ⟨i, o, e, h1, _⟩
    · exact hb
    · simp at h1
  have hnot : ∀ b, ¬ ownL [] [] b := fun b ⟨i, o, e, h1, _⟩ => by simp at h1
  refine (callV_of_awp (w := w) (pl := []) (H := []) (xs := ds.map .d) hf hb (by simpa using hn) h (by simpa using hl) (fun j x hj => ?_) ⟨rfl, fun id o ho => by simp at ho, fun i j oi oj p q h1 => by simp at h1, fun i o p h1 => by simp at h1, fun p hp => (by cases hp), fun i j ci cj p q hm => (by cases hm)⟩ hE).mono fun e w' ⟨v, x, H', a', pl', τ', k1, k2, k3, k4⟩ =>
    ⟨v, x, H', a', pl', τ', k1, k2, k3, k4.h, k4.stp.mono (fun b _ hb => (hnot b hb).elim), fun id o p h1 h2 h3 => (k4.own0 id o p h1 h2 h3).imp (fun h => (hnot _ h).elim) (fun h => h), k4.ext, k4.fr, k4.size, k4.defs, k4.keep⟩
  rw [List.getElem?_map, Option.map_eq_some_iff] at hj
  obtain ⟨y, hy, rfl⟩ := hj
  exact .d _ _ ((hx j y hy).mono (Nat.le_refl _) (fun _ _ _ => rfl) (fun b _ hb => hown b hb))
/-- A call carried out within the caller's own objects. -/
def IcK (P : Program) (f : FuncId) (xs : List AV) (H : AHeap) (K : AV → AHeap → Prop) : Prop :=
  entO P f = true ∧ ∃ fn code, P.funcs[f]? = some fn ∧ fn.body = some code ∧ xs.length ≤ fn.ntmps ∧ ∀ c : Cx, c.nt = fn.ntmps → AWp P c code (PostA P fn K) (startV xs) H
def InlK (P : Program) (op : Op) (τ : Fr) (H : AHeap) (K : AV → AHeap → Prop) : Prop :=
  match op with
  | .call { callee := .value f, args := args, argTypes := _ } => ∃ n fi ca, calleeOf (evalA τ f) = some (n, fi, ca) ∧ (IcK P n (fi ++ args.toList.map (evalA τ) ++ ca) H K ∨ ∃ ds Q, AV.toD.toDs (fi ++ args.toList.map (evalA τ) ++ ca) = some ds ∧ RCalls P n ds Q ∧ ∀ x, Q x → K x H)
  | _ => False
def isCallV : Op → Bool
  | .call { callee := .value _, .. } => true
  | _ => false
theorem InlK_not {op : Op} {K : AV → AHeap → Prop} (h : isCallV op = false) : ¬ InlK P op τ H K := by
  unfold InlK
  split
  · cases h
  · exact fun h => h
theorem InlK_sound (h : RelS c τ H [] pl a w) {o : Oper} {K0 : AV → AHeap → Prop} (hq : InlK P o.op τ H K0) {K : Act → World → Prop} {Q : Exit → Act → World → Prop}
    (hK : ∀ x v H' w' pl', K0 x H' → RelS c τ H' [] pl' a w' → Rd w' pl' (ownB c.E H' pl') x v → K (a.put o.dst v) w') : o.wp P a w K Q := by
  unfold InlK at hq
  split at hq
  · rename_i f args ts e
    obtain ⟨n, fi, ca, hc, hq⟩ := hq
    obtain ⟨vs, us, hv, h1, h2⟩ := calleeOf_rd hc (h.eval f)
    have hall := (h1.append (h.args args)).append h2
    rcases hq with hq | ⟨ds, Qr, hds, hp, hk⟩
    case inr =>
      refine wp_enter (call_run e hv hp.1) ?_
      obtain ⟨l1, l2⟩ := toDs_rd w pl (ownB c.E H pl) _ ds _ hds hall.2
      exact (hp.2 w (ownB c.E H pl) _ (by rw [hall.1, l1]) l2 h.own_lt).mono fun e w' ⟨v, r, he, hq, hr, hb⟩ => ⟨v, he, hK r v H w' pl (hk r hq) (h.below hb) (hr.mono (Nat.le_refl _) (fun _ _ _ => rfl) (fun _ _ h => h) (fun _ _ h => h) (fun i p hp => by simp at hp))⟩
    obtain ⟨he, fn, code, hf, hb, hn, hw⟩ := hq
    refine wp_enter (call_run e hv he) ((callV_of_awp hf hb hn hw hall.1 hall.2 h.h h.lt).mono fun e w' ⟨v, x, H', a', pl', τ', k1, k2, k3, k4⟩ => ⟨v, k1, hK x v H' w' pl' k2 (h.step k4.stp k4.keep (fun b ⟨i, o, q, b1, b2, b3⟩ => ?_) k4.h) k3⟩)
    exact k4.own0 i o _ b1 b2 b3
  · exact hq.elim
/-- One operation in the order of the text. -/
def coreT (P : Program) (fr : List FuncId) (o : Oper) (τ : Fr) (H : AHeap) (K : Fr → AHeap → Prop) : Prop :=
  match kOf fr o.op with
  | 0 => (∃ x, OpQ P H.length H (evalA τ) o.op x ∧ K (τ.put o.dst x) H) ∨ InlK P o.op τ H fun x H' => K (τ.put o.dst x) H'
  | 2 => ∃ H', OpD P (evalA τ) o.op H [] 0 H' ∧ K (τ.put o.dst (.d (.val undef))) H'
  | 4 => ∃ x H', OpM P (evalA τ) o.op H [] x H' ∧ K (τ.put o.dst x) H'
  | _ => ∃ x H', OpA P false H.length (evalA τ) o.op (H ++ [.free]) [] x H' [] ∧ K (τ.put o.dst x) H'
def runT (P : Program) (fr : List FuncId) (ops : List Oper) : List Oper → Fr → AHeap → (Fr → AHeap → Prop) → Prop
  | [], τ, H, K => K τ H
  | o :: l, τ, H, K => ∃ b, guardA ops τ o = some b ∧ (b = true → coreT P fr o τ H fun τ' H' => runT P fr ops l τ' H' K) ∧ (b = false → runT P fr ops l (τ.put o.dst (.d (.val undef))) H K)
def dstOk (nt : Nat) (l : List Oper) : Bool := l.all fun o => match o.dst with | some d => decide (d < nt) | none => true
theorem runT_sound {fr : List FuncId} {ops : List Oper} {K : Fr → AHeap → Prop} {Q : Exit → Act → World → Prop} (hK : ∀ τ H a w, K τ H → R c τ H [] a w → Q .normal a w) :
    ∀ (l : List Oper) (τ : Fr) (H : AHeap) (a : Act) (w : World), dstOk c.nt l = true → runT P fr ops l τ H K → R c τ H [] a w → wpList P ops.toArray Q l a w
  | [], τ, H, a, w, _, h, hR => hK τ H a w h hR
  | o :: l, τ, H, a, w, hd, h, ⟨pl, hR⟩ => by
    obtain ⟨b, hg, ht, hf⟩ := h
    have hw := guardA_wanted hR hg
    simp only [dstOk, List.all_cons, Bool.and_eq_true] at hd
    have hdo : ∀ d, o.dst = some d → d < c.nt := fun d e => by have := hd.1; rw [e] at this; simpa using this
    unfold wpList
    cases b with
    | false =>
      rw [if_neg (by rw [hw]; decide)]
      exact runT_sound hK l _ _ _ _ hd.2 (hf rfl) ⟨pl, hR.put _ hdo (.d _ _ (.val _))⟩
    | true =>
      rw [if_pos hw]
      left
      have ht := ht rfl
      unfold coreT at ht
      split at ht
      · rcases ht with ⟨x, hq, hk⟩ | hq
        · exact OpQ_sound hR hq fun v w' h1 h2 => runT_sound hK l _ _ _ _ hd.2 hk ⟨pl, h1.put _ hdo h2⟩
        · exact InlK_sound hR hq fun x v H' w' pl' hk h1 h2 => runT_sound hK l _ _ _ _ hd.2 hk ⟨pl', h1.put _ hdo h2⟩
      · obtain ⟨H', hq, hk⟩ := ht
        exact OpD_sound hR hq fun w' pl' h1 => runT_sound hK l _ _ _ _ hd.2 hk ⟨pl', h1.put _ hdo (.d _ _ (.val _))⟩
      · obtain ⟨x, H', hq, hk⟩ := ht
        exact OpM_sound hR hq fun v w' h1 h2 => runT_sound hK l _ _ _ _ hd.2 hk ⟨pl, h1.put _ hdo h2⟩
      · obtain ⟨x, H', hq, hk⟩ := ht
        exact OpA_sound hR.reserve (by rw [List.getElem?_append_right (Nat.le_refl _)]; simp) (fun p hp => by cases hp) hq fun v w' pl' h1 h2 => runT_sound hK l _ _ _ _ hd.2 hk ⟨pl', h1.put _ hdo h2⟩
variable {Q Q' : Exit → Fr → AHeap → Prop}
theorem awp_mono {code : Code} (h : AWp P c code Q τ H) (hq : ∀ e τ H, Q e τ H → Q' e τ H) : AWp P c code Q' τ H := fun a w hR =>
  wp_mono (h a w hR) fun _ _ _ ⟨τ', H', h1, h2⟩ => ⟨τ', H', h1, hq _ _ _ h2⟩
theorem awp_region {fr : List FuncId} {id : Nat} {l : List Oper} (hd : dstOk c.nt l = true) (h : runT P fr l l τ H (Q .normal)) : AWp P c (.region id l.toArray false) Q τ H := fun a w hR =>
  wp_region_lit (runT_sound (K := Q .normal) (fun τ' H' a' w' hk hR' => ⟨τ', H', hR', hk⟩) l τ H a w hd h hR)
theorem awp_skip (h : Q .normal τ H) : AWp P c .skip Q τ H := fun _ _ hR => wp_skip ⟨τ, H, hR, h⟩
theorem awp_exit {id : Nat} (h : Q (.exit id) τ H) : AWp P c (.exit id) Q τ H := fun _ _ hR => wp_exit ⟨τ, H, hR, h⟩
theorem awp_ret (h : Q .ret τ H) : AWp P c .ret Q τ H := fun _ _ hR => wp_ret ⟨τ, H, hR, h⟩
def thenA (next : Fr → AHeap → Prop) (Q : Exit → Fr → AHeap → Prop) : Exit → Fr → AHeap → Prop
  | .normal, τ, H => next τ H
  | e, τ, H => Q e τ H
theorem awp_seq {x y : Code} (h : AWp P c x (thenA (AWp P c y Q) Q) τ H) : AWp P c (.seq x y) Q τ H := fun a w hR =>
  wp_seq (wp_mono (h a w hR) fun e _ _ ⟨τ', H', h1, h2⟩ => by
    cases e with
    | normal => exact h2 _ _ h1
    | _ => exact ⟨τ', H', h1, h2⟩)
def inBlockA (id : Nat) (Q : Exit → Fr → AHeap → Prop) : Exit → Fr → AHeap → Prop
  | .exit id', τ, H => if id' = id then Q .normal τ H else Q (.exit id') τ H
  | e, τ, H => Q e τ H
theorem awp_block {id : Nat} {x : Code} (h : AWp P c x (inBlockA id Q) τ H) : AWp P c (.block id x) Q τ H := fun a w hR =>
  wp_block (wp_mono (h a w hR) fun e _ _ ⟨τ', H', h1, h2⟩ => by
    cases e with
    | exit id' =>
      simp only [inBlockA] at h2
      simp only [Exit.inBlock]
      split
      · rename_i hi; rw [if_pos hi] at h2; exact ⟨τ', H', h1, h2⟩
      · rename_i hi; rw [if_neg hi] at h2; exact ⟨τ', H', h1, h2⟩
    | _ => exact ⟨τ', H', h1, h2⟩)
theorem awp_cond {o : Operand} {x y : Code} {t : Bool} (ht : evalA τ o = .d (.val (.bool t))) (h1 : t = true → AWp P c x Q τ H) (h2 : t = false → AWp P c y Q τ H) : AWp P c (.cond o x y) Q τ H := fun a w hR => by
  obtain ⟨pl, hS⟩ := hR
  have hv := hS.eval o
  rw [ht] at hv
  have he : a.eval o = .bool t := by generalize a.eval o = z at hv; cases hv with | d _ _ hv => cases hv; rfl
  exact wp_cond_split he (fun e => h1 e a w ⟨pl, hS⟩) (fun e => h2 e a w ⟨pl, hS⟩)
theorem least {p : Nat → Prop} (h : ∃ n, p n) : ∃ n, p n ∧ ∀ m, p m → n ≤ m := by
  obtain ⟨n, hn⟩ := h
  induction n using Nat.strongRecOn with
  | _ n ih =>
    by_cases hm : ∃ m, m < n ∧ p m
    · obtain ⟨m, h1, h2⟩ := hm; exact ih m h1 h2
    · exact ⟨n, hn, fun m hpm => Nat.le_of_not_lt fun hlt => hm ⟨m, hlt, hpm⟩⟩
open Classical in
theorem awp_loop {x : Code} (I : Fr → AHeap → Nat → Prop) {n0 : Nat} (h0 : I τ H n0) (round : ∀ τ H n, I τ H n → AWp P c x (thenA (fun τ' H' => ∃ n', n' < n ∧ I τ' H' n') Q) τ H) : AWp P c (.loop x) Q τ H := fun a w hR => by
  let J : Act → World → Nat → Prop := fun a w n => ∃ τ H, I τ H n ∧ R c τ H [] a w
  refine wp_loop (fun a w => ∃ n, J a w n) (fun a w => if h : ∃ n, J a w n then Classical.choose (least h) else 0) ⟨n0, τ, H, h0, hR⟩ fun a w hI => ?_
  obtain ⟨hJ, hmin⟩ := Classical.choose_spec (least hI)
  rw [dif_pos hI]
  generalize Classical.choose (least hI) = n at hJ hmin
  obtain ⟨τ1, H1, h1, h2⟩ := hJ
  refine wp_mono (round τ1 H1 n h1 a w h2) fun e a' w' ⟨τ', H', h3, h4⟩ => ?_
  cases e with
  | normal =>
    obtain ⟨n', hlt, hI'⟩ := h4
    have hJ' : J a' w' n' := ⟨τ', H', hI', h3⟩
    refine ⟨⟨n', hJ'⟩, ?_⟩
    rw [dif_pos ⟨n', hJ'⟩]
    exact Nat.lt_of_le_of_lt ((Classical.choose_spec (least (⟨n', hJ'⟩ : ∃ n, J a' w' n))).2 n' hJ') hlt
  | _ => exact ⟨τ', H', h3, h4⟩

/-- A result as data. -/
def closeA (H : AHeap) : AV → Option AV
  | .tup xs => (deepL (lookH H H.length) 9 xs).map fun ys => .tup (ys.map .d)
  | x => (deep (lookH H H.length) 9 x).map .d
theorem closeA_rd {E : Nat → Prop} (hr : RelH E w pl H sh) {x r : AV} {v : Value} (h : closeA H x = some r) (hv : Rd w pl (ownB E H pl) x v) : Rd w [] E r v := by
  unfold closeA at h
  split at h
  · obtain ⟨ys, hy, rfl⟩ := Option.map_eq_some_iff.1 h
    cases hv with | tup _ vs hl hx =>
    obtain ⟨h1, h2⟩ := (deep_rd hr H.length 9).2 _ ys _ hy hx
    refine .tup _ _ (by simp; omega) fun j x hj => ?_
    rw [List.getElem?_map, Option.map_eq_some_iff] at hj
    obtain ⟨y, hy, rfl⟩ := hj
    exact .d _ _ (h2 j y hy)
  · obtain ⟨y, hy, rfl⟩ := Option.map_eq_some_iff.1 h
    exact .d _ _ ((deep_rd hr H.length 9).1 _ y v hy hv)
theorem Stp.to_below {w w' : World} (h : Stp (fun _ => False) w w') : Below w.heap.size w w' := ⟨h.os, h.tape, h.output, h.size, fun b hb => h.block b hb (fun h => h)⟩
/-- A contract, out of the machine's run. -/
theorem pcalls_of {f : FuncId} {fn : Func} {code : Code} {ds : List D} {r : AV} (he : entO P f = true) (hf : P.funcs[f]? = some fn) (hb : fn.body = some code) (hn : ds.length ≤ fn.ntmps)
    (h : ∀ c : Cx, c.nt = fn.ntmps → AWp P c code (PostA P fn fun x H => closeA H x = some r) (startF ds) []) : PCalls P f ds r :=
  ⟨he, fun _ _ _ hl hx hE => (calls_of_awp hf hb hn h hl hx hE).mono fun _ _ ⟨v, _, _, _, _, _, h1, h2, h3, h4⟩ => ⟨v, h1, closeA_rd h4.h h2 h3, h4.stp.to_below⟩⟩
theorem rcalls_of {f : FuncId} {fn : Func} {code : Code} {ds : List D} {Q : AV → Prop} (he : entO P f = true) (hf : P.funcs[f]? = some fn) (hb : fn.body = some code) (hn : ds.length ≤ fn.ntmps)
    (h : ∀ c : Cx, c.nt = fn.ntmps → AWp P c code (PostA P fn fun x H => ∃ r, closeA H x = some r ∧ Q r) (startF ds) []) : RCalls P f ds Q :=
  ⟨he, fun _ _ _ hl hx hE => (calls_of_awp hf hb hn h hl hx hE).mono fun _ _ ⟨v, _, _, _, _, _, h1, ⟨r, h2, h5⟩, h3, h4⟩ => ⟨v, r, h1, h5, closeA_rd h4.h h2 h3, h4.stp.to_below⟩⟩
/-- A result as data, new throughout. -/
def closeN (H : AHeap) : AV → Option AV
  | .tup xs => (newL (lookH H H.length) 9 xs).map fun ys => .tup (ys.map .d)
  | x => (newD (lookH H H.length) 9 x).map .d
theorem closeN_rd {E E' : Nat → Prop} (hr : RelH E w pl H sh) (hE' : ∀ (id : Nat) (o : AObj) (p : Nat × Nat), H[id]? = some o → o.live = true → pl[id]? = some (some p) → ¬ E' p.1) {x r : AV} {v : Value} (h : closeN H x = some r) (hv : Rd w pl (ownB E H pl) x v) : Rd w [] E' r v := by
  unfold closeN at h
  split at h
  · obtain ⟨ys, hy, rfl⟩ := Option.map_eq_some_iff.1 h
    cases hv with | tup _ vs hl hx =>
    obtain ⟨h1, h2⟩ := (new_rd hr hE' H.length 9).2 _ ys _ hy hx
    refine .tup _ _ (by simp; omega) fun j x hj => ?_
    rw [List.getElem?_map, Option.map_eq_some_iff] at hj
    obtain ⟨y, hy, rfl⟩ := hj
    exact .d _ _ (h2 j y hy)
  · obtain ⟨y, hy, rfl⟩ := Option.map_eq_some_iff.1 h
    exact .d _ _ ((new_rd hr hE' H.length 9).1 _ y v hy hv)
theorem ncalls_of {f : FuncId} {fn : Func} {code : Code} {ds : List D} {r : AV} (he : entO P f = true) (hf : P.funcs[f]? = some fn) (hb : fn.body = some code) (hn : ds.length ≤ fn.ntmps)
    (h : ∀ c : Cx, c.nt = fn.ntmps → AWp P c code (PostA P fn fun x H => closeN H x = some r) (startF ds) []) : NCalls P f ds r :=
  ⟨he, fun w O _ hl hx hE => (calls_of_awp hf hb hn h hl hx hE).mono fun _ w' ⟨v, _, _, _, _, _, h1, h2, h3, h4⟩ => ⟨v, h1, closeN_rd h4.h (fun id o p k1 k2 k3 hE' => by
    rcases hE' with hE' | hE'
    · exact h4.h.ext id o p k1 k2 k3 hE'
    · rcases h4.own0 id o p k1 k2 k3 with h | h
      · exact h
      · simp only at h; omega) h2 h3, h4.stp.to_below⟩⟩
theorem NCalls.pure {f : FuncId} {ds : List D} {r : AV} (h : NCalls P f ds r) : PCalls P f ds r :=
  ⟨h.1, fun w O vals hl hx hE => (h.2 w O vals hl hx hE).mono fun _ _ ⟨v, h1, h2, h3⟩ => ⟨v, h1, h2.mono (Nat.le_refl _) (fun _ _ _ => rfl) (fun _ _ h => .inl h) (fun _ _ h => h) (fun i p hp => by simp at hp), h3⟩⟩
end
end Go.Proofs.Ytfpcailbobjfnaa
