/- Of no program: objects that are no more needed are dropped, the others numbered anew. -/
import Derived.Test.YtapjobndmmkanaaAJ
set_option linter.unusedVariables false
set_option linter.unusedSimpArgs false
namespace Go.Proofs.Ytapjobndmmkanaa
open Go Go.RowKit
def posN : List Nat → Nat → Option Nat
 | [], _ => none
 | a :: l, x => if x = a then some 0 else (posN l x).map (· + 1)
theorem znx : ∀ {l : List Nat} {x j : Nat}, posN l x = some j → l[j]? = some x
 | [], _, _, h => by cases h
 | a :: l, x, j, h => by
  unfold posN at h
  split at h
  ·rename_i e; cases h; rw [e]; rfl
  ·obtain ⟨i, hi, rfl⟩ := Option.map_eq_some_iff.1 h
   simpa using znx hi
mutual
def gcV (keep : List Nat) : AV → AV
 | .any => .any
 | .d x => .d x
 | .os k id off n => match posN keep id with | some j => .os k j off n | none => .any
 | .op id off => match posN keep id with | some j => .op j off | none => .any
 | .om id => match posN keep id with | some j => .om j | none => .any
 | .agg cs => .agg (gcVs keep cs)
 | .tup cs => .tup (gcVs keep cs)
 | .clo fn fi ca => .clo fn (gcVs keep fi) (gcVs keep ca)
def gcVs (keep : List Nat) : List AV → List AV
 | [] => []
 | x :: l => gcV keep x :: gcVs keep l
end
def gcO (keep : List Nat) : AObj → AObj
 | .free => .free
 | .dead => .dead
 | .cells cs => .cells (gcVs keep cs)
 | .map es clock => .map (es.map fun e => (e.1, e.2.1, gcV keep e.2.2)) clock
 | .loop b r fr => .loop b r (gcVs keep fr)
def gcH (keep : List Nat) (H : zag) : zag := keep.map fun i => gcO keep (H.getD i .dead)
theorem zda (keep : List Nat) : ∀ cs : List AV, gcVs keep cs = cs.map (gcV keep)
 | [] => rfl
 | x :: l => by rw [gcVs, zda keep l]; rfl
theorem zz8 (keep : List Nat) (x : D) : gcV keep (.d x) = .d x := by rw [gcV]
theorem jbk (keep : List Nat) (ds : List D) : gcVs keep (ds.map .d) = ds.map .d := by
 rw [zda, List.map_map]
 exact List.map_congr_left fun x _ => zz8 keep x
theorem zve (keep : List Nat) (o : AObj) : (gcO keep o).live = o.live := by cases o <;> rfl
section
variable {P : Program} {c : Cx} {τ : Fr} {a : Act} {w : World} {pl : List (Option (Nat × Nat))} {H : zag} {Q : Exit → Fr → zag → Prop}
def gcP (keep : List Nat) (pl : List (Option (Nat × Nat))) : List (Option (Nat × Nat)) := keep.map fun i => pl.getD i none
theorem zep {keep : List Nat} {j i : Nat} (h : keep[j]? = some i) {p : Option (Nat × Nat)} (hp : pl[i]? = some p) : (gcP keep pl)[j]? = some p := by
 unfold gcP
 rw [List.getElem?_map, h, Option.map_some, List.getD_eq_getElem?_getD, hp]; rfl
theorem zvf {keep : List Nat} {j : Nat} {p : Nat × Nat} (h : (gcP keep pl)[j]? = some (some p)) : ∃ i, keep[j]? = some i ∧ pl[i]? = some (some p) := by
 unfold gcP at h
 rw [List.getElem?_map, Option.map_eq_some_iff] at h
 obtain ⟨i, hi, he⟩ := h
 refine ⟨i, hi, ?_⟩
 rw [List.getD_eq_getElem?_getD] at he
 cases hq : pl[i]? with
 | none => rw [hq] at he; cases he
 | some q => rw [hq] at he; exact congrArg some he
theorem zvg {keep : List Nat} {own own' : Nat → Prop} (hw : ∀ b, own' b → own b) {x : AV} {v : Value} (h : Rd w pl own x v) : Rd w (gcP keep pl) own' (gcV keep x) v := by
 have place : ∀ {id j b base : Nat}, posN keep id = some j → pl[id]? = some (some (b, base)) → (gcP keep pl)[j]? = some (some (b, base)) := fun hj hp => zep (znx hj) hp
 have gets : ∀ {cs : List AV} {j : Nat} {y : AV}, (gcVs keep cs)[j]? = some y → ∃ x, cs[j]? = some x ∧ y = gcV keep x := fun {cs j y} h => by
  rw [zda, List.getElem?_map, Option.map_eq_some_iff] at h
  obtain ⟨x, hx, rfl⟩ := h
  exact ⟨x, hx, rfl⟩
 induction h with
 | any v => rw [gcV]; exact .any v
 | d x v h => rw [gcV]; exact .d _ _ (h.mono (Nat.le_refl _) (fun _ _ _ => rfl) (fun b _ hb => hw b hb))
 | os k id off n cap b base sz t h1 h2 h3 h4 h5 =>
  rw [gcV]
  split
  ·rename_i j hj; exact .os k j off n cap b base sz t (place hj h1) h2 h3 h4 h5
  ·exact .any _
 | os0 k id off ad =>
  rw [gcV]
  split
  ·exact .os0 _ _ _ _
  ·exact .any _
 | op id off b base h1 =>
  rw [gcV]
  split
  ·rename_i j hj; exact .op j off b base (place hj h1)
  ·exact .any _
 | om id b base h1 =>
  rw [gcV]
  split
  ·rename_i j hj; exact .om j b base (place hj h1)
  ·exact .any _
 | agg cs vs hl _ ih =>
  rw [gcV]
  refine .agg _ _ (by rw [zda]; simpa using hl) fun j y hj => ?_
  obtain ⟨x, hx, rfl⟩ := gets hj
  exact ih j x hx
 | tup cs vs hl _ ih =>
  rw [gcV]
  refine .tup _ _ (by rw [zda]; simpa using hl) fun j y hj => ?_
  obtain ⟨x, hx, rfl⟩ := gets hj
  exact ih j x hx
 | clo fn fi ca vs us hl _ hl' _ ih ih' =>
  rw [gcV]
  refine .clo _ _ _ _ _ (by rw [zda]; simpa using hl) (fun j y hj => ?_) (by rw [zda]; simpa using hl') (fun j y hj => ?_)
  ·obtain ⟨x, hx, rfl⟩ := gets hj
   exact ih j x hx
  ·obtain ⟨x, hx, rfl⟩ := gets hj
   exact ih' j x hx
theorem R.gc {m : List Nat} (hp : Kp c m) {keep : List Nat} (hk : ∀ i ∈ m, keep[i]? = some i) (hn : keep.Nodup) (hb : ∀ i ∈ keep, i < H.length) (hR : R c τ H [] a w) : R c (fun t => gcV keep (τ t)) (gcH keep H) [] a w := by
 obtain ⟨pl, h⟩ := hR
 have back : ∀ {j : Nat} {o' : AObj}, (gcH keep H)[j]? = some o' → ∃ i o, keep[j]? = some i ∧ H[i]? = some o ∧ o' = gcO keep o := fun {j o'} hj => by
  unfold gcH at hj
  rw [List.getElem?_map, Option.map_eq_some_iff] at hj
  obtain ⟨i, hi, rfl⟩ := hj
  have hlt := hb i (List.mem_of_getElem? hi)
  exact ⟨i, H[i], hi, List.getElem?_eq_getElem hlt, by rw [List.getD_eq_getElem?_getD, List.getElem?_eq_getElem hlt]; rfl⟩
 have placed : ∀ {j : Nat} {o' : AObj} {p : Nat × Nat}, (gcH keep H)[j]? = some o' → o'.live = true → (gcP keep pl)[j]? = some (some p) → ∃ i o, keep[j]? = some i ∧ H[i]? = some o ∧ o.live = true ∧ pl[i]? = some (some p) := fun {j o' p} hj hl hpj => by
  obtain ⟨i, o, h1, h2, rfl⟩ := back hj
  obtain ⟨i', h3, h4⟩ := zvf hpj
  rw [h1] at h3; cases h3
  exact ⟨i, o, h1, h2, by rw [zve] at hl; exact hl, h4⟩
 have hown : ∀ b, za8 c.E (gcH keep H) (gcP keep pl) b → za8 c.E H pl b := fun b hbo => by
  rcases hbo with hbo | ⟨j, o', e, h1, h2, h3⟩
  ·exact .inl hbo
  ·obtain ⟨i, o, _, k2, k3, k4⟩ := placed h1 h2 h3
   exact .inr ⟨i, o, e, k2, k3, k4⟩
 refine ⟨gcP keep pl, ⟨by simp [gcP, gcH], fun j o' hj => ?_, fun i j oi oj p q h1 h2 l1 l2 hne _ _ p1 p2 => ?_, fun i o p h1 l1 p1 => ?_, fun p hp => (by cases hp), fun i j ci cj p q hm => (by cases hm)⟩, h.stp, fun i o p h1 l1 p1 => ?_, h.ext, fun t => zvg hown (h.fr t), h.size, h.defs.sub (fun b ⟨j, o', e, h1, h2, h3⟩ => let ⟨i, o, _, k2, k3, k4⟩ := placed h1 h2 h3; ⟨i, o, e, k2, k3, k4⟩), fun i p hi => by
  exact zep (hk i (hp i p hi)) (h.keep i p hi)⟩
 ·obtain ⟨i, o, h1, h2, rfl⟩ := back hj
  have ho := h.h.obj i o h2
  cases o with
  | free => exact zep h1 ho
  | dead => trivial
  | cells cs =>
   rcases ho with ⟨k1, k2⟩ | ⟨b, base, arr, t, k1, k2, k3, k4⟩
   ·exact .inl ⟨by subst k1; rfl, zep h1 k2⟩
   ·refine .inr ⟨b, base, arr, t, zep h1 k1, k2, by rw [zda]; simpa using k3, fun j y hj => ?_⟩
    rw [zda, List.getElem?_map, Option.map_eq_some_iff] at hj
    obtain ⟨x, hx, rfl⟩ := hj
    exact ⟨zvg hown (k4 j x hx).1, (k4 j x hx).2⟩
  | map es clock =>
   obtain ⟨b, base, ms, k1, k2, k3, k4, k5⟩ := ho
   refine ⟨b, base, ms, zep h1 k1, k2, by simpa using k3, by rw [List.map_map]; exact k4, fun j e k n x hj hx => ?_⟩
   rw [List.getElem?_map, Option.map_eq_some_iff] at hx
   obtain ⟨⟨k', n', x'⟩, hx', he⟩ := hx
   cases he
   obtain ⟨m1, m2, m3⟩ := k5 j e k' n' x' hj hx'
   exact ⟨m1, m2, zvg hown m3⟩
  | loop b r fr =>
   obtain ⟨base, k1, k2, k3⟩ := ho
   refine ⟨base, zep h1 k1, k2, fun j y hj => ?_⟩
   rw [zda, List.getElem?_map, Option.map_eq_some_iff] at hj
   obtain ⟨x, hx, rfl⟩ := hj
   exact zvg hown (k3 j x hx)
 ·obtain ⟨i', o1, a1, a2, a3, a4⟩ := placed h1 l1 p1
  obtain ⟨j', o2, b1, b2, b3, b4⟩ := placed h2 l2 p2
  refine h.h.dis i' j' o1 o2 p q a2 b2 a3 b3 (fun e => ?_) (by simp) (by simp) a4 b4
  subst e
  have hnd := List.pairwise_iff_getElem.1 hn
  obtain ⟨m1, g1⟩ := List.getElem?_eq_some_iff.1 a1
  obtain ⟨m2, g2⟩ := List.getElem?_eq_some_iff.1 b1
  rcases Nat.lt_trichotomy i j with hl | hl | hl
  ·exact hnd i j m1 m2 hl (g1.trans g2.symm)
  ·exact hne hl
  ·exact hnd j i m2 m1 hl (g2.trans g1.symm)
 ·obtain ⟨i', o1, a1, a2, a3, a4⟩ := placed h1 l1 p1
  exact h.h.ext i' o1 p a2 a3 a4
 ·obtain ⟨i', o1, a1, a2, a3, a4⟩ := placed h1 l1 p1
  exact h.own0 i' o1 p a2 a3 a4
theorem ze1 {f : FuncId} {fn : Func} {code : Code} {ds : List D} {Q : AV → zag → Prop} {E : Nat → Prop} {vals : Array Value} (hf : P.funcs[f]? = some fn) (hb : fn.body = some code) (hn : ds.length ≤ fn.ntmps) (h : ∀ c : Cx, c.nt = fn.ntmps → Kp c [] → Top c → AWp P c code (zdv P fn Q) (startF ds) [])
  (hl : vals.size = ds.length) (hx : ∀ j x, ds[j]? = some x → RdD w E x (vals.getD j undef)) (hE : ∀ b, E b → b < w.heap.size) :
  Calls P f vals w fun e w' => ∃ v x H' a' pl τ', e = .returned v ∧ Q x H' ∧ Rd w' pl (za8 E H' pl) x v ∧ RelS ⟨E, w, fun _ => False, fn.ntmps, [], none, w.heap.size⟩ τ' H' [] pl a' w' := by
 have hR : R ⟨E, w, fun _ => False, fn.ntmps, [], none, w.heap.size⟩ (startF ds) [] [] { tmps := vals ++ Array.replicate (fn.ntmps - vals.size) undef, defers := [] } w := by
  refine ⟨[], ⟨rfl, fun id o ho => by simp at ho, fun i j oi oj p q h1 => by simp at h1, fun i o p h1 => by simp at h1, fun p hp => (by cases hp), fun i j ci cj p q hm => (by cases hm)⟩, Stp.refl _ _, fun id o p h1 => by simp at h1, hE, fun t => ?_, by simp; omega, Dfk.nil, fun i p hi => by simp at hi⟩
  simp only [zg2]
  unfold startF
  rw [List.getD_eq_getElem?_getD, List.getElem?_map]
  cases hd : ds[t]? with
  | none =>
   have : vals.size ≤ t := by rw [hl]; exact List.getElem?_eq_none_iff.1 hd
   simp only [Array.getD, dif_neg (Nat.not_lt.2 this)]
   exact .d _ _ (.val _)
  | some x => exact .d _ _ ((hx t x hd).mono (Nat.le_refl _) (fun _ _ _ => rfl) (fun b _ hb => by
   rcases hb with hb | ⟨i, o, e, h1, _⟩
   ·exact hb
   ·simp at h1))
 exact zdw (c := ⟨E, w, fun _ => False, fn.ntmps, [], none, w.heap.size⟩) rfl (Nat.le_refl _) hf hb (h _ rfl (Kp.none rfl) ⟨rfl, Nat.le_refl _⟩ _ w hR) fun τ' H' pl' a' w' x v h1 k1 k2 => ⟨v, x, H', a', pl', τ', rfl, k1, k2, h1⟩
theorem zp5 {f : FuncId} {fn : Func} {code : Code} {ds : List D} {r : AV} (he : zkl P f = true) (hf : P.funcs[f]? = some fn) (hb : fn.body = some code) (hn : ds.length ≤ fn.ntmps)
  (h : ∀ c : Cx, c.nt = fn.ntmps → Kp c [] → Top c → AWp P c code (zdv P fn fun x H => closeA H x = some r) (startF ds) []) : zbh P f ds r :=
 ⟨he, fun _ _ _ hl hx hE => (ze1 hf hb hn h hl hx hE).mono fun _ _ ⟨v, _, _, _, _, _, h1, h2, h3, h4⟩ => ⟨v, h1, zg4 h4.h h2 h3, h4.stp.to_below⟩⟩
theorem zp6 {f : FuncId} {fn : Func} {code : Code} {ds : List D} {Q : AV → Prop} (he : zkl P f = true) (hf : P.funcs[f]? = some fn) (hb : fn.body = some code) (hn : ds.length ≤ fn.ntmps)
  (h : ∀ c : Cx, c.nt = fn.ntmps → Kp c [] → Top c → AWp P c code (zdv P fn fun x H => ∃ r, closeA H x = some r ∧ Q r) (startF ds) []) : zgw P f ds Q :=
 ⟨he, fun _ _ _ hl hx hE => (ze1 hf hb hn h hl hx hE).mono fun _ _ ⟨v, _, _, _, _, _, h1, ⟨r, h2, h5⟩, h3, h4⟩ => ⟨v, r, h1, h5, zg4 h4.h h2 h3, h4.stp.to_below⟩⟩
theorem zbv {f : FuncId} {fn : Func} {code : Code} {ds : List D} {r : AV} (he : zkl P f = true) (hf : P.funcs[f]? = some fn) (hb : fn.body = some code) (hn : ds.length ≤ fn.ntmps)
  (h : ∀ c : Cx, c.nt = fn.ntmps → Kp c [] → AWp P c code (zdv P fn fun x H => closeA H x = some r) (startF ds) []) : zbh P f ds r := zp5 he hf hb hn fun c h1 h2 _ => h c h1 h2
theorem zp7 {f : FuncId} {fn : Func} {code : Code} {ds : List D} {Q : AV → Prop} (he : zkl P f = true) (hf : P.funcs[f]? = some fn) (hb : fn.body = some code) (hn : ds.length ≤ fn.ntmps)
  (h : ∀ c : Cx, c.nt = fn.ntmps → Kp c [] → AWp P c code (zdv P fn fun x H => ∃ r, closeA H x = some r ∧ Q r) (startF ds) []) : zgw P f ds Q := zp6 he hf hb hn fun c h1 h2 _ => h c h1 h2
end
section
variable {P : Program} {fr : List FuncId} {ops l : List Oper} {τ : Fr} {H : zag} {d : Option Tmp} {ty : TypeId} {pos : String} {af : Array Edge} {K : Fr → zag → Prop} {t : TypeId}
variable {KV : Value → Prop} {a b : Bool}
theorem zny {n : Nat} {zs : List D} : zfg n zs = match zs with | [z] => List.replicate n (.d z) | zs => (List.replicate n (zs.map AV.d)).flatten := rfl
theorem znz {pf : Nat → Option (Nat × Nat)} {cs : List AV} : zf5 pf cs [] = some cs := rfl
theorem zk8 {pf : Nat → Option (Nat × Nat)} {cs : List AV} {i : Nat} {x : AV} {ps : List (Nat × AV)} : zf5 pf cs ((i, x) :: ps) = match pf i with
  | none => none
  | some (off, size) => match zbl x with
   | none => none
   | some l => if l.length ≠ size ∨ off + l.length > cs.length then none else zf5 pf (zbz cs off l) ps := rfl
theorem zw4 {k : IntKind} {n : Int} : zbl (.d (.val (.int k n))) = some [.d (.val (.int k n))] := rfl
theorem zr7 {b : Bool} : zbl (.d (.val (.bool b))) = some [.d (.val (.bool b))] := rfl
theorem jbl {cs : List D} {n : Nat} : zbl (.d (.fs cs n)) = some [.d (.fs cs n)] := rfl
theorem jbm {cs : List D} {n : Nat} : zbl (.d (.fp cs n)) = some [.d (.fp cs n)] := rfl
theorem jbn {k id off n : Nat} : zbl (.os k id off n) = some [.os k id off n] := rfl
theorem jbo {id off : Nat} : zbl (.op id off) = some [.op id off] := rfl
theorem jbp {id : Nat} : zbl (.om id) = some [.om id] := rfl
theorem zw5 {n c : Nat} : zbl (.d (.val (.slice none n c))) = some [.d (.val (.slice none n c))] := rfl
theorem zw6 {cs : List AV} : zbl (.agg cs) = if cs.all AV.one then some cs else none := rfl
theorem zr8 {cs : List D} : zbl (.d (.agg cs)) = if cs.all D.one then some (cs.map .d) else none := rfl
theorem zn0 {cs : List AV} {i : Nat} : zbz cs i [] = cs := rfl
theorem zk9 {cs l : List AV} {i : Nat} {x : AV} : zbz cs i (x :: l) = zbz (cs.set i x) (i + 1) l := rfl
end
end Go.Proofs.Ytapjobndmmkanaa

/- Of no program: a run that simp carries out, each step in its turn. -/
set_option linter.unusedVariables false
set_option linter.unusedSimpArgs false
namespace Go.Proofs.Ytapjobndmmkanaa
open Go Go.RowKit
def zmt {α : Type} (o : Option α) (K : α → Prop) : Prop := ∃ x, o = some x ∧ K x
theorem zb5 {α : Type} {x : α} {K : α → Prop} : zmt (some x) K = K x := by simp [zmt]
def GK (g : Option Bool) (A B : Prop) : Prop := match g with | some true => A | some false => B | none => False
inductive Tg.{u} {α : Sort u} (a : α) : Type where
 | mk
def tg.{u} {α : Sort u} (a : α) : Tg a := .mk
def oK {α : Type} {K : α → Prop} (o : Option α) (_ : Tg K) : Prop := zmt o K
theorem zr9 {α : Type} {x : α} {K : α → Prop} : oK (some x) (tg K) = K x := zb5
def gK {A B : Prop} (g : Option Bool) (_ : Tg A) (_ : Tg B) : Prop := GK g A B
theorem jfr {A B : Prop} : gK (some true) (tg A) (tg B) = A := rfl
theorem jfs {A B : Prop} : gK (some false) (tg A) (tg B) = B := rfl
def zsa (P : Program) (sm : List Nat) (N : Nat) (H : zag) (τ : Fr) (f : AV) (xs : List AV) (inl : Bool) (KK : AV → zag → Prop) : Prop :=
 (∃ x, zpw P N H f xs x ∧ KK x H) ∨ (inl = true ∧ ∃ n fi ca, zcu f = some (n, fi, ca) ∧ (IcS P n (fi ++ xs ++ ca) H KK ∨ (∃ ds Q, AV.toD.toDs (fi ++ xs ++ ca) = some ds ∧ zgw P n ds Q ∧ ∀ x, Q x → KK x H) ∨ ScK P sm n (fi ++ xs ++ ca) τ H KK)) ∨
  inl = true ∧ ∃ l, f = .d (.val (.func (.yield l) #[] #[])) ∧ YcK P sm l xs τ H KK
def kC {KK : AV → zag → Prop} (P : Program) (sm : List Nat) (N : Nat) (H : zag) (τ : Fr) (f : AV) (xs : List AV) (inl : Bool) (_ : Tg KK) : Prop := zsa P sm N H τ f xs inl KK
def cT (P : Program) (KT : TypeId → Bool) (sm : List Nat) (op : Op) (ρ : Operand → AV) (H : zag) (KK : AV → zag → Prop) : Prop :=
 match kOf [] op with
 | 0 => if zbx op then (match op with
   | .call { callee := .value f, args := args, .. } => zsa P sm H.length H (fun t => ρ (.tmp t)) (ρ f) (args.toList.map ρ) true KK
   | _ => False) else zmt (opF P H.length H KT ρ op) fun x => KK x H
 | 2 => (match op with
  | .store t p y => zmt (storeF P t (ρ p) (ρ y) H [] 0) fun H' => KK (.d (.val undef)) H'
  | _ => False)
 | 4 => zmt (zee P KT ρ op H []) fun p => KK p.1 p.2
 | _ => zmt (layF P H.length ρ op H) fun p => KK p.1 (deadH H p.2.2 ++ [p.2.1])
def sT (P : Program) (KT : TypeId → Bool) (sm : List Nat) (ops : List Oper) : List Oper → Fr → zag → (Fr → zag → Prop) → Prop
 | [], τ, H, K => K τ H
 | o :: l, τ, H, K => GK (zbm ops τ o) (cT P KT sm o.op (zaq τ) H fun x H' => sT P KT sm ops l (τ.put o.dst x) H' K) (sT P KT sm ops l (τ.put o.dst (.d (.val undef))) H K)
def cE (P : Program) (KT : TypeId → Bool) (N r : Nat) (fresh : Bool) (m : List (Nat × Nat)) (o : Oper) (ρ : Operand → AV) (H : zag) (sh : List (Nat × Nat)) (KK : AV → zag → List (Nat × Nat) → Prop) : Prop :=
 match kOf [] o.op with
 | 0 => if zbx o.op then (match o.op with
   | .call { callee := .value f, args := args, .. } => zsa P [] N H (fun t => ρ (.tmp t)) (ρ f) (args.toList.map ρ) false fun x _ => KK x H sh
   | _ => False) else zmt (opF P N H KT ρ o.op) fun x => KK x H sh
 | 2 => (match o.op with
  | .store t p y => zmt (storeF P t (ρ p) (ρ y) H sh (if fresh then N else 0)) fun H' => KK (.d (.val undef)) H' sh
  | _ => False)
 | 4 => zmt (zee P KT ρ o.op H sh) fun p => KK p.1 p.2 sh
 | _ => zmt (layEF P N r (zmq m o.after.toList) ρ o.op H sh) fun p => KK p.1 p.2.1 p.2.2
def sE (P : Program) (KT : TypeId → Bool) (ops : List Oper) (N : Nat) : Nat → Nat → List (Nat × Nat) → List Oper → Fr → zag → List (Nat × Nat) → (Fr → zag → List (Nat × Nat) → Prop) → Prop
 | _, _, _, [], τ, H, sh, K => K τ H sh
 | i, r, m, o :: l, τ, H, sh, K => GK (zbm ops τ o)
   (cE P KT N r (zcq ops o) m o (zaq τ) H sh fun x H' sh' => sE P KT ops N (i + 1) (if lays [] o then r + 1 else r) (if lays [] o then (i, r) :: m else m) l (τ.put o.dst x) H' sh' K)
   (sE P KT ops N (i + 1) (if lays [] o then r + 1 else r) (if lays [] o then (i, r) :: m else m) l (τ.put o.dst (.d (.val undef))) H sh K)
section
variable {P : Program} {KT : TypeId → Bool} {τ : Fr} {H : zag}
theorem ze2 {α : Type} {o : Option α} {K K' : α → Prop} (hK : ∀ x, K x → K' x) (h : zmt o K) : zmt o K' := by
 obtain ⟨x, h1, h2⟩ := h; exact ⟨x, h1, hK x h2⟩
theorem zp8 {sm : List Nat} {N : Nat} {τ : Fr} {f : AV} {xs : List AV} {inl : Bool} {K K' : AV → zag → Prop} (hK : ∀ x H', K x H' → K' x H') (h : zsa P sm N H τ f xs inl K) : zsa P sm N H τ f xs inl K' := by
 rcases h with ⟨x, h1, h2⟩ | ⟨h0, n, fi, ca, h1, h2⟩ | ⟨h0, l, h1, m, S, T, K0, a1, a2, a3, a4, a5, a6, a7, a8⟩
 case inr.inr => exact .inr (.inr ⟨h0, l, h1, m, S, T, K0, a1, a2, a3, a4, a5, a6, a7, fun x S' hx => ⟨(a8 x S' hx).1, hK _ _ (a8 x S' hx).2⟩⟩)
 ·exact .inl ⟨x, h1, hK _ _ h2⟩
 ·refine .inr (.inl ⟨h0, n, fi, ca, h1, ?_⟩)
  rcases h2 with h2 | ⟨ds, Q, h2, h3, h4⟩ | ⟨m, S, T, K0, a1, a2, a3, a4, a5, a6, a7, a8⟩
  ·exact .inl (h2.mono hK)
  ·exact .inr (.inl ⟨ds, Q, h2, h3, fun x hx => hK _ _ (h4 x hx)⟩)
  ·exact .inr (.inr ⟨m, S, T, K0, a1, a2, a3, a4, a5, a6, a7, fun x S' hx => ⟨(a8 x S' hx).1, hK _ _ (a8 x S' hx).2⟩⟩)
theorem zz9 {sm : List Nat} {op : Op} {ρ : Operand → AV} {K K' : AV → zag → Prop} (hK : ∀ x H', K x H' → K' x H') (h : cT P KT sm op ρ H K) : cT P KT sm op ρ H K' := by
 unfold cT at h ⊢
 split at h
 ·split at h
  ·rename_i hc
   rw [if_pos hc]
   split at h
   ·exact zp8 hK h
   ·exact h.elim
  ·rename_i hc
   rw [if_neg hc]
   exact ze2 (fun x => hK x H) h
 ·split at h
  ·exact ze2 (fun x => hK _ x) h
  ·exact h.elim
 ·exact ze2 (fun p => hK p.1 p.2) h
 ·exact ze2 (fun p => hK p.1 _) h
theorem zp9 {N r : Nat} {fresh : Bool} {m : List (Nat × Nat)} {o : Oper} {sh : List (Nat × Nat)} {K K' : AV → zag → List (Nat × Nat) → Prop} (hK : ∀ x H' sh', K x H' sh' → K' x H' sh') (h : zf8 P [] N r fresh m o τ H sh K) : zf8 P [] N r fresh m o τ H sh K' := by
 unfold zf8 at h ⊢
 split at h
 ·obtain ⟨x, h1, h2⟩ := h; exact ⟨x, h1, hK _ _ _ h2⟩
 ·obtain ⟨x, h1, h2⟩ := h; exact ⟨x, h1, hK _ _ _ h2⟩
 ·obtain ⟨x, y, h1, h2⟩ := h; exact ⟨x, y, h1, hK _ _ _ h2⟩
 ·obtain ⟨a1, a2, a3, x, H', sh', h1, h2⟩ := h; exact ⟨a1, a2, a3, x, H', sh', h1, hK _ _ _ h2⟩
end
section
variable {P : Program} {KT : TypeId → Bool} {c : Cx} {τ : Fr} {H : zag} {Q : Exit → Fr → zag → Prop} {ops : List Oper}
theorem zgi {g : Option Bool} {A B : Prop} (h : GK g A B) : ∃ b, g = some b ∧ (b = true → A) ∧ (b = false → B) := by
 unfold GK at h
 split at h
 ·exact ⟨true, rfl, fun _ => h, fun e => by cases e⟩
 ·exact ⟨false, rfl, (fun e => by cases e), fun _ => h⟩
 ·exact h.elim
theorem je3 {sm : List Nat} (hKT : ∀ k, KT k = true → Maps.Keyed P k) {o : Oper} {K : Fr → zag → Prop} (h : cT P KT sm o.op (zaq τ) H fun x H' => K (τ.put o.dst x) H') : zpy P [] sm o τ H K := by
 unfold cT at h
 unfold zpy
 split at h
 ·rename_i hk
  simp only [hk]
  split at h
  ·split at h
   ·rename_i f args ts e
    rw [e]
    rcases h with ⟨x, hq, hx⟩ | ⟨_, n, fi, ca, hc, hq⟩ | ⟨_, l, hl, hq⟩
    ·exact .inl ⟨x, hq, hx⟩
    ·exact .inr (.inl ⟨n, fi, ca, hc, hq⟩)
    ·exact .inr (.inr ⟨l, hl, hq⟩)
   ·exact h.elim
  ·obtain ⟨x, hx, hK⟩ := h
   exact .inl ⟨x, znt hKT hx, hK⟩
 ·rename_i hk
  simp only [hk]
  split at h
  ·rename_i t p y e
   obtain ⟨H1, hH, hK⟩ := h
   rw [e]
   exact ⟨_, zdz hH, hK⟩
  ·exact h.elim
 ·rename_i hk
  simp only [hk]
  obtain ⟨p, hp, hK⟩ := h
  exact ⟨p.1, p.2, zha hKT hp, hK⟩
 ·rename_i hk0 hk2 hk4
  obtain ⟨⟨x, ob, dd⟩, hl, hK⟩ := h
  have hlay := zi5 hl (K := fun x H' => K (τ.put o.dst x) H') hK
  rcases zi4 hk0 hk2 hk4 with hk | hk
  ·simp only [hk]; exact hlay
  ·simp only [hk]; exact hlay
theorem zvh {sm : List Nat} (hKT : ∀ k, KT k = true → Maps.Keyed P k) {K : Fr → zag → Prop} : ∀ {os : List Oper} {τ : Fr} {H : zag}, sT P KT sm ops os τ H K → zwu P [] sm ops os τ H K
 | [], _, _, h => h
 | o :: os, τ, H, h => by
  obtain ⟨b, hg, ht, hf⟩ := zgi h
  refine ⟨b, hg, fun e => je3 hKT ?_, fun e => zvh hKT (hf e)⟩
  have := ht e
  exact zz9 (fun x H' hh => zvh hKT hh) this
theorem jbq (hKT : ∀ k, KT k = true → Maps.Keyed P k) {N r : Nat} {fresh : Bool} {m : List (Nat × Nat)} {o : Oper} {sh : List (Nat × Nat)} {K : AV → zag → List (Nat × Nat) → Prop} (h : cE P KT N r fresh m o (zaq τ) H sh K) : zf8 P [] N r fresh m o τ H sh K := by
 unfold cE at h
 unfold zf8
 split at h
 ·rename_i hk
  simp only [hk]
  split at h
  ·split at h
   ·rename_i f args ts e
    rw [e]
    rcases h with ⟨x, hq, hx⟩ | ⟨e, _⟩ | ⟨e, _⟩
    ·exact ⟨x, hq, hx⟩
    ·cases e
    ·cases e
   ·exact h.elim
  ·obtain ⟨x, hx, hK⟩ := h
   exact ⟨x, znt hKT hx, hK⟩
 ·rename_i hk
  simp only [hk]
  split at h
  ·rename_i t p y e
   obtain ⟨H1, hH, hK⟩ := h
   rw [e]
   exact ⟨_, zdz hH, hK⟩
  ·exact h.elim
 ·rename_i hk
  simp only [hk]
  obtain ⟨p, hp, hK⟩ := h
  exact ⟨p.1, p.2, zha hKT hp, hK⟩
 ·rename_i hk0 hk2 hk4
  obtain ⟨⟨x, H', sh'⟩, hl, hK⟩ := h
  have := zr2 hl hK
  rcases zi4 hk0 hk2 hk4 with hk | hk
  ·simp only [hk]; exact this
  ·simp only [hk]; exact this
theorem zvi (hKT : ∀ k, KT k = true → Maps.Keyed P k) {N : Nat} {K : Fr → zag → List (Nat × Nat) → Prop} : ∀ {os : List Oper} {i r : Nat} {m : List (Nat × Nat)} {τ : Fr} {H : zag} {sh : List (Nat × Nat)}, sE P KT ops N i r m os τ H sh K → zzz P [] ops N i r m os τ H sh K
 | [], _, _, _, _, _, _, h => h
 | o :: os, i, r, m, τ, H, sh, h => by
  obtain ⟨b, hg, ht, hf⟩ := zgi h
  exact ⟨b, hg, fun e => zp9 (fun x H' sh' hh => zvi hKT hh) (jbq hKT (ht e)), fun e => zvi hKT (hf e)⟩
theorem zah {sm : List Nat} (hc0 : Kp c sm) (hKT : ∀ k, KT k = true → Maps.Keyed P k) {id : Nat} {l : List Oper} {y : Code} {n : Nat} (hn : c.nt = n) (hd : zde n l = true) (h : ∀ K : Fr → zag → Prop, (∀ τ H, AWp P c y Q τ H → K τ H) → sT P KT sm l l τ H K) : AWp P c (.seq (.region id l.toArray false) y) Q τ H :=
 zrg (fr := []) hc0 hn hd fun K hK => zvh hKT (h K hK)
theorem zba {sm : List Nat} (hc0 : Kp c sm) (hKT : ∀ k, KT k = true → Maps.Keyed P k) {id : Nat} {l : List Oper} {n : Nat} (hn : c.nt = n) (hd : zde n l = true) (h : ∀ K : Fr → zag → Prop, (∀ τ H, Q .normal τ H → K τ H) → sT P KT sm l l τ H K) : AWp P c (.region id l.toArray false) Q τ H :=
 jeu (fr := []) hc0 hn hd fun K hK => zvh hKT (h K hK)
theorem zb3 (hKT : ∀ k, KT k = true → Maps.Keyed P k) {id : Nat} {l : List Oper} {y : Code} {n : Nat} (hn : c.nt = n) (hm : P.follows .mixedOrders = true) (hd : zde n l = true) {q : Nat} (hq : l.countP (lays []) = q) (hB : zuu [] l l.length 0 (Array.replicate l.length false) = true)
  (h : ∀ K : Fr → zag → Prop, (∀ τ H, AWp P c y Q τ H → K τ H) → sE P KT l H.length 0 0 [] l τ (H ++ List.replicate q .free) [] fun τ' H' sh' => K τ' (killAll sh' H')) : AWp P c (.seq (.region id l.toArray true) y) Q τ H :=
 zrj (fr := []) hn hm hd hq hB fun K hK => zvi hKT (h K hK)
theorem zla (hKT : ∀ k, KT k = true → Maps.Keyed P k) {id : Nat} {l : List Oper} {n : Nat} (hn : c.nt = n) (hm : P.follows .mixedOrders = true) (hd : zde n l = true) {q : Nat} (hq : l.countP (lays []) = q) (hB : zuu [] l l.length 0 (Array.replicate l.length false) = true)
  (h : ∀ K : Fr → zag → Prop, (∀ τ H, Q .normal τ H → K τ H) → sE P KT l H.length 0 0 [] l τ (H ++ List.replicate q .free) [] fun τ' H' sh' => K τ' (killAll sh' H')) : AWp P c (.region id l.toArray true) Q τ H :=
 jbb (fr := []) hn hm hd hq hB fun K hK => zvi hKT (h K hK)
end
section
variable {P : Program} {KT : TypeId → Bool} {sm : List Nat} {ops l : List Oper} {τ : Fr} {H : zag} {sh : List (Nat × Nat)} {N i r : Nat} {m : List (Nat × Nat)} {d : Option Tmp} {op : Op} {ty : TypeId} {pos : String} {af : Array Edge} {K : Fr → zag → Prop} {KD : Fr → zag → List (Nat × Nat) → Prop}
theorem zw7 : sT P KT sm ops [] τ H K = K τ H := rfl
theorem zw8 : sE P KT ops N i r m [] τ H sh KD = KD τ H sh := rfl
theorem jft {j : Nat} {want : Bool} : sT P KT sm ops (⟨d, op, ty, pos, af, some (j, want)⟩ :: l) τ H K = gK (zbm ops τ ⟨d, op, ty, pos, af, some (j, want)⟩) (tg (sT P KT sm ops (⟨d, op, ty, pos, af, none⟩ :: l) τ H K)) (tg (sT P KT sm ops l (τ.put d (.d (.val undef))) H K)) := rfl
theorem zsb {y : Operand} : sT P KT sm ops (⟨d, .move y, ty, pos, af, none⟩ :: l) τ H K = (sT P KT sm ops l (τ.put d (zaq τ y)) H K) := by simp [sT, sE, zbm, GK, cT, cE, kOf, zbx, opF, zb5, lays]
theorem zsc {y : Operand} : sE P KT ops N i r m (⟨d, .move y, ty, pos, af, none⟩ :: l) τ H sh KD = (sE P KT ops N (i + 1) r m l (τ.put d (zaq τ y)) H sh KD) := by simp [sT, sE, zbm, GK, cT, cE, kOf, zbx, opF, zb5, lays]
theorem zlb {y : Operand} : sT P KT sm ops (⟨d, .assign y, ty, pos, af, none⟩ :: l) τ H K = (sT P KT sm ops l (τ.put d (zaq τ y)) H K) := by simp [sT, sE, zbm, GK, cT, cE, kOf, zbx, opF, zb5, lays]
theorem zlc {y : Operand} : sE P KT ops N i r m (⟨d, .assign y, ty, pos, af, none⟩ :: l) τ H sh KD = (sE P KT ops N (i + 1) r m l (τ.put d (zaq τ y)) H sh KD) := by simp [sT, sE, zbm, GK, cT, cE, kOf, zbx, opF, zb5, lays]
theorem zsd {c a b : Operand} : sT P KT sm ops (⟨d, .pick c a b, ty, pos, af, none⟩ :: l) τ H K = (oK (match zaq τ c with | .d (.val (.bool t)) => some (if t then zaq τ a else zaq τ b) | _ => none) <| tg fun x => sT P KT sm ops l (τ.put d x) H K) := rfl
theorem zse {c a b : Operand} : sE P KT ops N i r m (⟨d, .pick c a b, ty, pos, af, none⟩ :: l) τ H sh KD = (oK (match zaq τ c with | .d (.val (.bool t)) => some (if t then zaq τ a else zaq τ b) | _ => none) <| tg fun x => sE P KT ops N (i + 1) r m l (τ.put d x) H sh KD) := rfl
theorem zsf {t : TypeId} {y : Operand} : sT P KT sm ops (⟨d, .load t y, ty, pos, af, none⟩ :: l) τ H K = (oK (loadF P H.length H t (zaq τ y)) <| tg fun x => sT P KT sm ops l (τ.put d x) H K) := rfl
theorem zsg {t : TypeId} {y : Operand} : sE P KT ops N i r m (⟨d, .load t y, ty, pos, af, none⟩ :: l) τ H sh KD = (oK (loadF P N H t (zaq τ y)) <| tg fun x => sE P KT ops N (i + 1) r m l (τ.put d x) H sh KD) := rfl
theorem jbr {t : TypeId} {y : Operand} {f : Nat} : sT P KT sm ops (⟨d, .fieldAddr t y f, ty, pos, af, none⟩ :: l) τ H K = (oK (fieldAddrF P t f (zaq τ y)) <| tg fun x => sT P KT sm ops l (τ.put d x) H K) := rfl
theorem jbs {t : TypeId} {y : Operand} {f : Nat} : sE P KT ops N i r m (⟨d, .fieldAddr t y f, ty, pos, af, none⟩ :: l) τ H sh KD = (oK (fieldAddrF P t f (zaq τ y)) <| tg fun x => sE P KT ops N (i + 1) r m l (τ.put d x) H sh KD) := rfl
theorem zn1 {t : TypeId} {y : Operand} {f : Nat} : sT P KT sm ops (⟨d, .field t y f, ty, pos, af, none⟩ :: l) τ H K = (oK (fieldF P t f (zaq τ y)) <| tg fun x => sT P KT sm ops l (τ.put d x) H K) := rfl
theorem zn2 {t : TypeId} {y : Operand} {f : Nat} : sE P KT ops N i r m (⟨d, .field t y f, ty, pos, af, none⟩ :: l) τ H sh KD = (oK (fieldF P t f (zaq τ y)) <| tg fun x => sE P KT ops N (i + 1) r m l (τ.put d x) H sh KD) := rfl
theorem jbt {t : TypeId} {y z : Operand} : sT P KT sm ops (⟨d, .indexAddr t y z, ty, pos, af, none⟩ :: l) τ H K = (oK (indexAddrF P t (zaq τ y) (zaq τ z)) <| tg fun x => sT P KT sm ops l (τ.put d x) H K) := rfl
theorem jbu {t : TypeId} {y z : Operand} : sE P KT ops N i r m (⟨d, .indexAddr t y z, ty, pos, af, none⟩ :: l) τ H sh KD = (oK (indexAddrF P t (zaq τ y) (zaq τ z)) <| tg fun x => sE P KT ops N (i + 1) r m l (τ.put d x) H sh KD) := rfl
theorem zn3 {t : TypeId} {y z : Operand} : sT P KT sm ops (⟨d, .index t y z, ty, pos, af, none⟩ :: l) τ H K = (oK (indexF P t (zaq τ y) (zaq τ z)) <| tg fun x => sT P KT sm ops l (τ.put d x) H K) := rfl
theorem zn4 {t : TypeId} {y z : Operand} : sE P KT ops N i r m (⟨d, .index t y z, ty, pos, af, none⟩ :: l) τ H sh KD = (oK (indexF P t (zaq τ y) (zaq τ z)) <| tg fun x => sE P KT ops N (i + 1) r m l (τ.put d x) H sh KD) := rfl
theorem zn5 {t : TypeId} {y : Operand} {lo hi : Option Operand} : sT P KT sm ops (⟨d, .slice t y lo hi none, ty, pos, af, none⟩ :: l) τ H K = (oK (sliceF P H.length H t (zaq τ y) (lo.map (zaq τ)) (hi.map (zaq τ))) <| tg fun x => sT P KT sm ops l (τ.put d x) H K) := rfl
theorem zn6 {t : TypeId} {y : Operand} {lo hi : Option Operand} : sE P KT ops N i r m (⟨d, .slice t y lo hi none, ty, pos, af, none⟩ :: l) τ H sh KD = (oK (sliceF P N H t (zaq τ y) (lo.map (zaq τ)) (hi.map (zaq τ))) <| tg fun x => sE P KT ops N (i + 1) r m l (τ.put d x) H sh KD) := rfl
theorem zw9 {op : BinOp} {t t' : TypeId} {y z : Operand} : sT P KT sm ops (⟨d, .binOp op t y z t', ty, pos, af, none⟩ :: l) τ H K = (oK (zvd P op t (zaq τ y) (zaq τ z)) <| tg fun x => sT P KT sm ops l (τ.put d x) H K) := rfl
theorem zxa {op : BinOp} {t t' : TypeId} {y z : Operand} : sE P KT ops N i r m (⟨d, .binOp op t y z t', ty, pos, af, none⟩ :: l) τ H sh KD = (oK (zvd P op t (zaq τ y) (zaq τ z)) <| tg fun x => sE P KT ops N (i + 1) r m l (τ.put d x) H sh KD) := rfl
theorem jbv {op : UnOp} {t : TypeId} {y : Operand} : sT P KT sm ops (⟨d, .unOp op t y, ty, pos, af, none⟩ :: l) τ H K = (oK (unF op (zaq τ y)) <| tg fun x => sT P KT sm ops l (τ.put d x) H K) := rfl
theorem jbw {op : UnOp} {t : TypeId} {y : Operand} : sE P KT ops N i r m (⟨d, .unOp op t y, ty, pos, af, none⟩ :: l) τ H sh KD = (oK (unF op (zaq τ y)) <| tg fun x => sE P KT ops N (i + 1) r m l (τ.put d x) H sh KD) := rfl
theorem zsh {s t : TypeId} {y : Operand} : sT P KT sm ops (⟨d, .convert s t y, ty, pos, af, none⟩ :: l) τ H K = (oK (convF P s t (zaq τ y)) <| tg fun x => sT P KT sm ops l (τ.put d x) H K) := rfl
theorem zsi {s t : TypeId} {y : Operand} : sE P KT ops N i r m (⟨d, .convert s t y, ty, pos, af, none⟩ :: l) τ H sh KD = (oK (convF P s t (zaq τ y)) <| tg fun x => sE P KT ops N (i + 1) r m l (τ.put d x) H sh KD) := rfl
theorem zn7 {t : TypeId} {ps : Array (Nat × Operand)} : sT P KT sm ops (⟨d, .build t ps, ty, pos, af, none⟩ :: l) τ H K = (oK (buildF P t (ps.toList.map fun p => (p.1, zaq τ p.2))) <| tg fun x => sT P KT sm ops l (τ.put d x) H K) := rfl
theorem zn8 {t : TypeId} {ps : Array (Nat × Operand)} : sE P KT ops N i r m (⟨d, .build t ps, ty, pos, af, none⟩ :: l) τ H sh KD = (oK (buildF P t (ps.toList.map fun p => (p.1, zaq τ p.2))) <| tg fun x => sE P KT ops N (i + 1) r m l (τ.put d x) H sh KD) := rfl
theorem zif {y : Operand} {ix : Nat} : sT P KT sm ops (⟨d, .extract y ix, ty, pos, af, none⟩ :: l) τ H K = (oK (match zaq τ y with | .tup vs => vs[ix]? | _ => none) <| tg fun x => sT P KT sm ops l (τ.put d x) H K) := rfl
theorem zig {y : Operand} {ix : Nat} : sE P KT ops N i r m (⟨d, .extract y ix, ty, pos, af, none⟩ :: l) τ H sh KD = (oK (match zaq τ y with | .tup vs => vs[ix]? | _ => none) <| tg fun x => sE P KT ops N (i + 1) r m l (τ.put d x) H sh KD) := rfl
theorem zsj {y : Operand} : sT P KT sm ops (⟨d, .nilCheck y, ty, pos, af, none⟩ :: l) τ H K = (oK (if nilOk (zaq τ y) then some (zaq τ y) else none) <| tg fun x => sT P KT sm ops l (τ.put d x) H K) := rfl
theorem zsk {y : Operand} : sE P KT ops N i r m (⟨d, .nilCheck y, ty, pos, af, none⟩ :: l) τ H sh KD = (oK (if nilOk (zaq τ y) then some (zaq τ y) else none) <| tg fun x => sE P KT ops N (i + 1) r m l (τ.put d x) H sh KD) := rfl
theorem zld {t : TypeId} {y z : Operand} {ok : Bool} : sT P KT sm ops (⟨d, .lookup t y z ok, ty, pos, af, none⟩ :: l) τ H K = (oK (zc1 P H.length H KT t (zaq τ y) (zaq τ z) ok) <| tg fun x => sT P KT sm ops l (τ.put d x) H K) := rfl
theorem zle {t : TypeId} {y z : Operand} {ok : Bool} : sE P KT ops N i r m (⟨d, .lookup t y z ok, ty, pos, af, none⟩ :: l) τ H sh KD = (oK (zc1 P N H KT t (zaq τ y) (zaq τ z) ok) <| tg fun x => sE P KT ops N (i + 1) r m l (τ.put d x) H sh KD) := rfl
theorem jbx {fn : Fn} {fi ca : Array Operand} : sT P KT sm ops (⟨d, .makeFunc fn fi ca, ty, pos, af, none⟩ :: l) τ H K = (sT P KT sm ops l (τ.put d (.clo fn (fi.toList.map (zaq τ)) (ca.toList.map (zaq τ)))) H K) := by simp [sT, sE, zbm, GK, cT, cE, kOf, zbx, opF, zb5, lays]
theorem jby {fn : Fn} {fi ca : Array Operand} : sE P KT ops N i r m (⟨d, .makeFunc fn fi ca, ty, pos, af, none⟩ :: l) τ H sh KD = (sE P KT ops N (i + 1) r m l (τ.put d (.clo fn (fi.toList.map (zaq τ)) (ca.toList.map (zaq τ)))) H sh KD) := by simp [sT, sE, zbm, GK, cT, cE, kOf, zbx, opF, zb5, lays]
theorem zxb {args : Array Operand} {ts : Array TypeId} : sT P KT sm ops (⟨d, .call ⟨.builtin .len, args, ts⟩, ty, pos, af, none⟩ :: l) τ H K = (oK (builtinF P .len ts.toList (args.toList.map (zaq τ))) <| tg fun x => sT P KT sm ops l (τ.put d x) H K) := rfl
theorem zxc {args : Array Operand} {ts : Array TypeId} : sE P KT ops N i r m (⟨d, .call ⟨.builtin .len, args, ts⟩, ty, pos, af, none⟩ :: l) τ H sh KD = (oK (builtinF P .len ts.toList (args.toList.map (zaq τ))) <| tg fun x => sE P KT ops N (i + 1) r m l (τ.put d x) H sh KD) := rfl
theorem zxd {args : Array Operand} {ts : Array TypeId} : sT P KT sm ops (⟨d, .call ⟨.builtin .max, args, ts⟩, ty, pos, af, none⟩ :: l) τ H K = (oK (builtinF P .max ts.toList (args.toList.map (zaq τ))) <| tg fun x => sT P KT sm ops l (τ.put d x) H K) := rfl
theorem zxe {args : Array Operand} {ts : Array TypeId} : sE P KT ops N i r m (⟨d, .call ⟨.builtin .max, args, ts⟩, ty, pos, af, none⟩ :: l) τ H sh KD = (oK (builtinF P .max ts.toList (args.toList.map (zaq τ))) <| tg fun x => sE P KT ops N (i + 1) r m l (τ.put d x) H sh KD) := rfl
theorem zxf {args : Array Operand} {ts : Array TypeId} : sT P KT sm ops (⟨d, .call ⟨.builtin .min, args, ts⟩, ty, pos, af, none⟩ :: l) τ H K = (oK (builtinF P .min ts.toList (args.toList.map (zaq τ))) <| tg fun x => sT P KT sm ops l (τ.put d x) H K) := rfl
theorem zxg {args : Array Operand} {ts : Array TypeId} : sE P KT ops N i r m (⟨d, .call ⟨.builtin .min, args, ts⟩, ty, pos, af, none⟩ :: l) τ H sh KD = (oK (builtinF P .min ts.toList (args.toList.map (zaq τ))) <| tg fun x => sE P KT ops N (i + 1) r m l (τ.put d x) H sh KD) := rfl
theorem zn9 {f : FuncId} {args : Array Operand} {ts : Array TypeId} : sT P KT sm ops (⟨d, .call ⟨.value (.func f), args, ts⟩, ty, pos, af, none⟩ :: l) τ H K = (kC P sm H.length H τ ((zaq τ (.func f))) (args.toList.map (zaq τ)) true <| tg fun x H' => sT P KT sm ops l (τ.put d x) H' K) := rfl
theorem zoa {f : FuncId} {args : Array Operand} {ts : Array TypeId} : sE P KT ops N i r m (⟨d, .call ⟨.value (.func f), args, ts⟩, ty, pos, af, none⟩ :: l) τ H sh KD = (kC P [] N H τ ((zaq τ (.func f))) (args.toList.map (zaq τ)) false <| tg fun x _ => sE P KT ops N (i + 1) r m l (τ.put d x) H sh KD) := rfl
theorem zob {f : Nat} {args : Array Operand} {ts : Array TypeId} : sT P KT sm ops (⟨d, .call ⟨.value (.tmp f), args, ts⟩, ty, pos, af, none⟩ :: l) τ H K = (kC P sm H.length H τ ((zaq τ (.tmp f))) (args.toList.map (zaq τ)) true <| tg fun x H' => sT P KT sm ops l (τ.put d x) H' K) := rfl
theorem zoc {f : Nat} {args : Array Operand} {ts : Array TypeId} : sE P KT ops N i r m (⟨d, .call ⟨.value (.tmp f), args, ts⟩, ty, pos, af, none⟩ :: l) τ H sh KD = (kC P [] N H τ ((zaq τ (.tmp f))) (args.toList.map (zaq τ)) false <| tg fun x _ => sE P KT ops N (i + 1) r m l (τ.put d x) H sh KD) := rfl
theorem zxh {t : TypeId} {y : Operand} : sT P KT sm ops (⟨d, .box t y, ty, pos, af, none⟩ :: l) τ H K = (oK (layF P H.length (zaq τ) (.box t y) H) <| tg fun p => sT P KT sm ops l (τ.put d p.1) (deadH H p.2.2 ++ [p.2.1]) K) := rfl
theorem zxi {t : TypeId} {y : Operand} : sE P KT ops N i r m (⟨d, .box t y, ty, pos, af, none⟩ :: l) τ H sh KD = (oK (layEF P N r (zmq m af.toList) (zaq τ) (.box t y) H sh) <| tg fun p => sE P KT ops N (i + 1) (r + 1) ((i, r) :: m) l (τ.put d p.1) p.2.1 p.2.2 KD) := rfl
theorem zod {t : TypeId} : sT P KT sm ops (⟨d, .alloc t, ty, pos, af, none⟩ :: l) τ H K = (oK (layF P H.length (zaq τ) (.alloc t) H) <| tg fun p => sT P KT sm ops l (τ.put d p.1) (deadH H p.2.2 ++ [p.2.1]) K) := rfl
theorem zoe {t : TypeId} : sE P KT ops N i r m (⟨d, .alloc t, ty, pos, af, none⟩ :: l) τ H sh KD = (oK (layEF P N r (zmq m af.toList) (zaq τ) (.alloc t) H sh) <| tg fun p => sE P KT ops N (i + 1) (r + 1) ((i, r) :: m) l (τ.put d p.1) p.2.1 p.2.2 KD) := rfl
theorem zsl {t : TypeId} {y z : Operand} : sT P KT sm ops (⟨d, .makeSlice t y z, ty, pos, af, none⟩ :: l) τ H K = (oK (layF P H.length (zaq τ) (.makeSlice t y z) H) <| tg fun p => sT P KT sm ops l (τ.put d p.1) (deadH H p.2.2 ++ [p.2.1]) K) := rfl
theorem zsn {t : TypeId} {y z : Operand} : sE P KT ops N i r m (⟨d, .makeSlice t y z, ty, pos, af, none⟩ :: l) τ H sh KD = (oK (layEF P N r (zmq m af.toList) (zaq τ) (.makeSlice t y z) H sh) <| tg fun p => sE P KT ops N (i + 1) (r + 1) ((i, r) :: m) l (τ.put d p.1) p.2.1 p.2.2 KD) := rfl
theorem jbz {t : TypeId} {n : Nat} {ps : Array (Nat × Operand)} : sT P KT sm ops (⟨d, .buildSlice t n ps, ty, pos, af, none⟩ :: l) τ H K = (oK (layF P H.length (zaq τ) (.buildSlice t n ps) H) <| tg fun p => sT P KT sm ops l (τ.put d p.1) (deadH H p.2.2 ++ [p.2.1]) K) := rfl
theorem jb0 {t : TypeId} {n : Nat} {ps : Array (Nat × Operand)} : sE P KT ops N i r m (⟨d, .buildSlice t n ps, ty, pos, af, none⟩ :: l) τ H sh KD = (oK (layEF P N r (zmq m af.toList) (zaq τ) (.buildSlice t n ps) H sh) <| tg fun p => sE P KT ops N (i + 1) (r + 1) ((i, r) :: m) l (τ.put d p.1) p.2.1 p.2.2 KD) := rfl
theorem zxj {args : Array Operand} {ts : Array TypeId} : sT P KT sm ops (⟨d, .call ⟨.builtin .append, args, ts⟩, ty, pos, af, none⟩ :: l) τ H K = (oK (layF P H.length (zaq τ) (.call ⟨.builtin .append, args, ts⟩) H) <| tg fun p => sT P KT sm ops l (τ.put d p.1) (deadH H p.2.2 ++ [p.2.1]) K) := rfl
theorem zxk {args : Array Operand} {ts : Array TypeId} : sE P KT ops N i r m (⟨d, .call ⟨.builtin .append, args, ts⟩, ty, pos, af, none⟩ :: l) τ H sh KD = (oK (layEF P N r (zmq m af.toList) (zaq τ) (.call ⟨.builtin .append, args, ts⟩) H sh) <| tg fun p => sE P KT ops N (i + 1) (r + 1) ((i, r) :: m) l (τ.put d p.1) p.2.1 p.2.2 KD) := rfl
theorem jb1 {t : TypeId} {y : Option Operand} : sT P KT sm ops (⟨d, .makeMap t y, ty, pos, af, none⟩ :: l) τ H K = (oK (layF P H.length (zaq τ) (.makeMap t y) H) <| tg fun p => sT P KT sm ops l (τ.put d p.1) (deadH H p.2.2 ++ [p.2.1]) K) := rfl
theorem jb2 {t : TypeId} {y : Option Operand} : sE P KT ops N i r m (⟨d, .makeMap t y, ty, pos, af, none⟩ :: l) τ H sh KD = (oK (layEF P N r (zmq m af.toList) (zaq τ) (.makeMap t y) H sh) <| tg fun p => sE P KT ops N (i + 1) (r + 1) ((i, r) :: m) l (τ.put d p.1) p.2.1 p.2.2 KD) := rfl
theorem zof {t : TypeId} {y z : Operand} : sT P KT sm ops (⟨d, .store t y z, ty, pos, af, none⟩ :: l) τ H K = (oK (storeF P t (zaq τ y) (zaq τ z) H [] 0) <| tg fun H' => sT P KT sm ops l (τ.put d (.d (.val undef))) H' K) := rfl
theorem zog {t : TypeId} {y z : Operand} : sE P KT ops N i r m (⟨d, .store t y z, ty, pos, af, none⟩ :: l) τ H sh KD = (oK (storeF P t (zaq τ y) (zaq τ z) H sh (if zcq ops ⟨d, .store t y z, ty, pos, af, none⟩ then N else 0)) <| tg fun H' => sE P KT ops N (i + 1) r m l (τ.put d (.d (.val undef))) H' sh KD) := rfl
theorem jb3 {t : TypeId} {y z u : Operand} : sT P KT sm ops (⟨d, .mapUpdate t y z u, ty, pos, af, none⟩ :: l) τ H K = (oK (zee P KT (zaq τ) (.mapUpdate t y z u) H []) <| tg fun p => sT P KT sm ops l (τ.put d p.1) p.2 K) := rfl
theorem jb4 {t : TypeId} {y z u : Operand} : sE P KT ops N i r m (⟨d, .mapUpdate t y z u, ty, pos, af, none⟩ :: l) τ H sh KD = (oK (zee P KT (zaq τ) (.mapUpdate t y z u) H sh) <| tg fun p => sE P KT ops N (i + 1) r m l (τ.put d p.1) p.2 sh KD) := rfl
theorem zxl {t : TypeId} {y z u : Operand} : sT P KT sm ops (⟨d, .insert t y z u, ty, pos, af, none⟩ :: l) τ H K = (oK (zee P KT (zaq τ) (.insert t y z u) H []) <| tg fun p => sT P KT sm ops l (τ.put d p.1) p.2 K) := rfl
theorem zxm {t : TypeId} {y z u : Operand} : sE P KT ops N i r m (⟨d, .insert t y z u, ty, pos, af, none⟩ :: l) τ H sh KD = (oK (zee P KT (zaq τ) (.insert t y z u) H sh) <| tg fun p => sE P KT ops N (i + 1) r m l (τ.put d p.1) p.2 sh KD) := rfl
theorem jb5 {t : TypeId} {y z : Operand} : sT P KT sm ops (⟨d, .mapEntry t y z, ty, pos, af, none⟩ :: l) τ H K = (oK (zee P KT (zaq τ) (.mapEntry t y z) H []) <| tg fun p => sT P KT sm ops l (τ.put d p.1) p.2 K) := rfl
theorem jb6 {t : TypeId} {y z : Operand} : sE P KT ops N i r m (⟨d, .mapEntry t y z, ty, pos, af, none⟩ :: l) τ H sh KD = (oK (zee P KT (zaq τ) (.mapEntry t y z) H sh) <| tg fun p => sE P KT ops N (i + 1) r m l (τ.put d p.1) p.2 sh KD) := rfl
theorem jb7 {t : TypeId} {y z u : Operand} : sT P KT sm ops (⟨d, .entryStore t y z u, ty, pos, af, none⟩ :: l) τ H K = (oK (zee P KT (zaq τ) (.entryStore t y z u) H []) <| tg fun p => sT P KT sm ops l (τ.put d p.1) p.2 K) := rfl
theorem jb8 {t : TypeId} {y z u : Operand} : sE P KT ops N i r m (⟨d, .entryStore t y z u, ty, pos, af, none⟩ :: l) τ H sh KD = (oK (zee P KT (zaq τ) (.entryStore t y z u) H sh) <| tg fun p => sE P KT ops N (i + 1) r m l (τ.put d p.1) p.2 sh KD) := rfl
theorem zxn {args : Array Operand} {ts : Array TypeId} : sT P KT sm ops (⟨d, .call ⟨.builtin .delete, args, ts⟩, ty, pos, af, none⟩ :: l) τ H K = (oK (zee P KT (zaq τ) (.call ⟨.builtin .delete, args, ts⟩) H []) <| tg fun p => sT P KT sm ops l (τ.put d p.1) p.2 K) := rfl
theorem zxo {args : Array Operand} {ts : Array TypeId} : sE P KT ops N i r m (⟨d, .call ⟨.builtin .delete, args, ts⟩, ty, pos, af, none⟩ :: l) τ H sh KD = (oK (zee P KT (zaq τ) (.call ⟨.builtin .delete, args, ts⟩) H sh) <| tg fun p => sE P KT ops N (i + 1) r m l (τ.put d p.1) p.2 sh KD) := rfl
theorem zxp {args : Array Operand} {ts : Array TypeId} : sT P KT sm ops (⟨d, .call ⟨.builtin .clear, args, ts⟩, ty, pos, af, none⟩ :: l) τ H K = (oK (zee P KT (zaq τ) (.call ⟨.builtin .clear, args, ts⟩) H []) <| tg fun p => sT P KT sm ops l (τ.put d p.1) p.2 K) := rfl
theorem zxq {args : Array Operand} {ts : Array TypeId} : sE P KT ops N i r m (⟨d, .call ⟨.builtin .clear, args, ts⟩, ty, pos, af, none⟩ :: l) τ H sh KD = (oK (zee P KT (zaq τ) (.call ⟨.builtin .clear, args, ts⟩) H sh) <| tg fun p => sE P KT ops N (i + 1) r m l (τ.put d p.1) p.2 sh KD) := rfl
theorem jgc {j : Nat} {want : Bool} (hl : lays [] ⟨d, op, ty, pos, af, none⟩ = false) : sE P KT ops N i r m (⟨d, op, ty, pos, af, some (j, want)⟩ :: l) τ H sh KD = gK (zbm ops τ ⟨d, op, ty, pos, af, some (j, want)⟩) (tg (sE P KT ops N i r m (⟨d, op, ty, pos, af, none⟩ :: l) τ H sh KD)) (tg (sE P KT ops N (i + 1) r m l (τ.put d (.d (.val undef))) H sh KD)) := by
 have h1 : lays [] ⟨d, op, ty, pos, af, some (j, want)⟩ = false := hl
 have h2 : zcq ops ⟨d, op, ty, pos, af, some (j, want)⟩ = zcq ops ⟨d, op, ty, pos, af, none⟩ := rfl
 show _ = GK _ _ _
 simp only [sE, h1, hl, h2, Bool.false_eq_true, if_false]; rfl
theorem je4 {j : Nat} {want : Bool} (hl : lays [] ⟨d, op, ty, pos, af, none⟩ = true) : sE P KT ops N i r m (⟨d, op, ty, pos, af, some (j, want)⟩ :: l) τ H sh KD = gK (zbm ops τ ⟨d, op, ty, pos, af, some (j, want)⟩) (tg (sE P KT ops N i r m (⟨d, op, ty, pos, af, none⟩ :: l) τ H sh KD)) (tg (sE P KT ops N (i + 1) (r + 1) ((i, r) :: m) l (τ.put d (.d (.val undef))) H sh KD)) := by
 have h1 : lays [] ⟨d, op, ty, pos, af, some (j, want)⟩ = true := hl
 have h2 : zcq ops ⟨d, op, ty, pos, af, some (j, want)⟩ = zcq ops ⟨d, op, ty, pos, af, none⟩ := rfl
 show _ = GK _ _ _
 simp only [sE, h1, hl, h2, if_true]; rfl
theorem jb9 {j : Nat} {want : Bool} : sE P KT ops N i r m (⟨d, op, ty, pos, af, some (j, want)⟩ :: l) τ H sh KD = gK (zbm ops τ ⟨d, op, ty, pos, af, some (j, want)⟩) (tg (sE P KT ops N i r m (⟨d, op, ty, pos, af, none⟩ :: l) τ H sh KD)) (tg (sE P KT ops N (i + 1) (if lays [] ⟨d, op, ty, pos, af, none⟩ then r + 1 else r) (if lays [] ⟨d, op, ty, pos, af, none⟩ then (i, r) :: m else m) l (τ.put d (.d (.val undef))) H sh KD)) := by
 cases hl : lays [] ⟨d, op, ty, pos, af, none⟩ with
 | false => rw [jgc hl]; rfl
 | true => rw [je4 hl]; rfl
theorem zdf {f : FuncId} {args : List AV} {ds : List D} {x : AV} {inl : Bool} {KK : AV → zag → Prop} (hp : zbh P f ds x) (hd : AV.toD.toDs args = some ds) (hK : KK x H) : kC P sm N H τ (.d (.val (.func (.func f) #[] #[]))) args inl (tg KK) := .inl (zz4 hp hd hK)
theorem zih {f : FuncId} {args : List AV} {ds : List D} {v : Value} {inl : Bool} {KK : AV → zag → Prop} (hp : zbh P f ds (.d (.val v))) (hd : zcd (zcv H N) 9 args = some ds) (hK : KK (.d (.val v)) H) : kC P sm N H τ (.d (.val (.func (.func f) #[] #[]))) args inl (tg KK) := .inl (zvc (KA := fun x => KK x H) hp hd hK)
theorem jca {f : FuncId} {args : List AV} {ds : List D} {Q : AV → Prop} {KK : AV → zag → Prop} (hp : zgw P f ds Q) (hd : AV.toD.toDs args = some ds) (hK : ∀ x, Q x → KK x H) : kC P sm N H τ (.d (.val (.func (.func f) #[] #[]))) args true (tg KK) :=
 .inr (.inl ⟨rfl, f, [], [], rfl, .inr (.inl ⟨ds, Q, by simpa using hd, hp, hK⟩)⟩)
theorem je5 {f : FuncId} {args : List AV} {S T : zag} {K0 KK : AV → zag → Prop} {ks : List Nat} (h : ScS P ks f args S K0) (hH : H = S ++ T) (hm : sm.all (okI ks S.length) = true) (hτ : ∀ t, (τ t).allI (okI ks S.length) = true) (ha : AV.allIs (ltI S.length) args = true)
  (hS : ∀ o ∈ S, o.allI (ltI S.length) = true) (hT : ∀ o ∈ T, o.allI (okI ks S.length) = true) (hK : ∀ x S', K0 x S' → S'.length = S.length ∧ KK x (S' ++ T)) : kC P sm N H τ (.d (.val (.func (.func f) #[] #[]))) args true (tg KK) :=
 .inr (.inl ⟨rfl, f, [], [], rfl, .inr (.inr ⟨ks, S, T, K0, hH, hm, hτ, by simpa using ha, hS, hT, by simpa using h, hK⟩)⟩)
theorem jaa {p : Nat → Bool} {l : List (Nat × AV)} (h : AV.allIs p (l.map (·.2)) = true) (t : Nat) : (frL l t).allI p = true := by
 induction l with
 | nil => rfl
 | cons a l ih =>
  obtain ⟨d, x⟩ := a
  rw [List.map_cons, AV.allIs, Bool.and_eq_true] at h
  rw [zfk]
  split
  ·exact h.1
  ·exact ih h.2
end
end Go.Proofs.Ytapjobndmmkanaa

/- Of no program: what simp needs to carry out the run: values, conditions. -/
set_option linter.unusedVariables false
set_option linter.unusedSimpArgs false
namespace Go.Proofs.Ytapjobndmmkanaa
open Go Go.RowKit
section
variable {P : Program} {t : TypeId} {a b : Int} {kk : IntKind}
theorem ifp {α : Type} {c : Prop} [Decidable c] {x y : α} (h : c) : (if c then x else y) = x := if_pos h
theorem ifn {α : Type} {c : Prop} [Decidable c] {x y : α} (h : ¬ c) : (if c then x else y) = y := if_neg h
theorem zxr {op : BinOp} {u v : Value} : zvd P op t (.d (.val u)) (.d (.val v)) = (zc2 P op t u v).map fun r => .d (.val r) := rfl
theorem jcb (h1 : -9223372036854775808 ≤ a + b) (h2 : a + b < 9223372036854775808) : zc2 P .add t (.int .i64 a) (.int .i64 b) = some (.int .i64 (a + b)) := by simp [zc2, zhz, jba h1 h2]
theorem jcc (h1 : -9223372036854775808 ≤ a - b) (h2 : a - b < 9223372036854775808) : zc2 P .sub t (.int .i64 a) (.int .i64 b) = some (.int .i64 (a - b)) := by simp [zc2, zhz, jba h1 h2]
theorem jcd (h1 : -9223372036854775808 ≤ a * b) (h2 : a * b < 9223372036854775808) : zc2 P .mul t (.int .i64 a) (.int .i64 b) = some (.int .i64 (a * b)) := by simp [zc2, zhz, jba h1 h2]
theorem jce (h1 : 0 ≤ a) (h2 : 0 < b) (h3 : a < 9223372036854775808) : zc2 P .quo t (.int .i64 a) (.int .i64 b) = some (.int .i64 (a / b)) := by
 have := jev (P := P) (t := t) (KV := fun r => r = .int .i64 (a / b)) h1 h2 h3
 obtain ⟨r, hr, e⟩ := this.mpr rfl
 rw [hr, e]
theorem jcf (h1 : 0 ≤ a) (h2 : 0 < b) : zc2 P .rem t (.int kk a) (.int kk b) = some (.int kk (a % b)) := by
 obtain ⟨r, hr, e⟩ := (jew (P := P) (t := t) (kk := kk) (KV := fun r => r = .int kk (a % b)) h1 h2).mpr rfl
 rw [hr, e]
theorem jcg : zc2 P .eql t (.int kk a) (.int kk b) = some (.bool (a == b)) := by simp [zc2, zhz, zzs]
theorem jch : zc2 P .neq t (.int kk a) (.int kk b) = some (.bool (a != b)) := by simp [zc2, zhz, zzs]
theorem jci : zc2 P .lss t (.int kk a) (.int kk b) = some (.bool (decide (a < b))) := by simp [zc2, zhz, zzs]
theorem jcj : zc2 P .leq t (.int kk a) (.int kk b) = some (.bool (decide (a ≤ b))) := by simp [zc2, zhz, zzs]
theorem jck : zc2 P .gtr t (.int kk a) (.int kk b) = some (.bool (decide (b < a))) := by simp [zc2, zhz, zzs]
theorem jcl : zc2 P .geq t (.int kk a) (.int kk b) = some (.bool (decide (b ≤ a))) := by simp [zc2, zhz, zzs]
theorem zxs {a b : Bool} : zc2 P .eql t (.bool a) (.bool b) = if zei P t = true then some (.bool (a == b)) else none := rfl
theorem zxt {a b : Bool} : zc2 P .neq t (.bool a) (.bool b) = if zei P t = true then some (.bool (a != b)) else none := rfl
theorem jcm (h : 0 ≤ b) : zc2 P .shl t (.int .i64 a) (.int kk b) = some (.int .i64 (IntKind.i64.wrap (a * 2 ^ min b.toNat 64))) := by simp [zc2, zhz, show ¬ b < 0 by omega, IntKind.bits]
theorem jcn (h : 0 ≤ b) : zc2 P .shr t (.int .i64 a) (.int kk b) = some (.int .i64 (a.fdiv (2 ^ min b.toNat 64))) := by simp [zc2, zhz, show ¬ b < 0 by omega, IntKind.bits]
theorem jco : zc2 P .and t (.int .i64 a) (.int .i64 b) = some (.int .i64 (zpu .and .i64 a b)) := by simp [zc2, zhz]
theorem jfu : zc2 P .or t (.int .i64 a) (.int .i64 b) = some (.int .i64 (zpu .or .i64 a b)) := by simp [zc2, zhz]
theorem jcp : zc2 P .xor t (.int .i64 a) (.int .i64 b) = some (.int .i64 (zpu .xor .i64 a b)) := by simp [zc2, zhz]
theorem jcq {b : Bool} : unF .not (.d (.val (.bool b))) = some (.d (.val (.bool (!b)))) := rfl
end
end Go.Proofs.Ytapjobndmmkanaa
