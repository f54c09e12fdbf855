/- Of no program: loops over the elements of a set, in whatever order they come. -/
import Derived.Test.YtignimmnnccblaaAV
import Derived.Maps.RangeWalk
set_option linter.unusedVariables false
set_option linter.unusedSimpArgs false
namespace Go.Proofs.Ytignimmnnccblaa
open Go Go.RowKit Go.Maps
open Go.WideElems (Fit rd rg rg_of)
def zev : Value → Option (DataW Unit × List MemPlace)
 | .bool true => some (.lit (.bool true), [])
 | _ => none
def Met (D0 : DataW Unit) (left : Lit → Bool) (ss : List Int) : Prop := ss.Nodup ∧ ∀ x, x ∈ ss ↔ (has D0 (.int .i64 x) = true ∧ left (.int .i64 x) = false)
theorem Met.start (D0 : DataW Unit) : Met D0 (has D0) [] := ⟨List.nodup_nil, fun x => by cases has D0 (.int .i64 x) <;> simp⟩
theorem Met.step {D0 : DataW Unit} {left : Lit → Bool} {ss : List Int} (h : Met D0 left ss) {x : Int} {y : DataW Unit} (hlk : left (.int .i64 x) = true) (hat : ∀ zd, D0.atKey (.int .i64 x) zd = y) :
  x ∉ ss ∧ has D0 (.int .i64 x) = true ∧ Met D0 (fun z => left z && !z.sameKey (.int .i64 x)) (ss ++ [x]) := by
 have hhas : has D0 (.int .i64 x) = true := has_true_of_atKey hat
 have hnew : x ∉ ss := fun hx => by have := ((h.2 x).1 hx).2; rw [hlk] at this; cases this
 refine ⟨hnew, hhas, List.nodup_append.2 ⟨h.1, by simp, fun a ha b hb => by simp at hb; subst hb; exact fun e => hnew (e ▸ ha)⟩, fun y => ?_⟩
 by_cases hy : y = x
 ·subst hy; simp [hhas, Lit.sameKey]
 ·simp [h.2 y, hy, Lit.sameKey]
section
variable {P : Program} {kt : TypeId}
theorem jpe {n : Int} (hn : I64 n) : (Lit.int .i64 n).wf = true := by
 obtain ⟨h1, h2⟩ := hn
 simp [Lit.wf]
 exact ⟨h1, by omega⟩
set_option maxRecDepth 100000 in
theorem jfu (hu : P.underlying kt = some (.int .i64)) {w : World} {b : Nat} {σ : zle} (hσ : OkS σ) (hl : σ.1.length ≤ maxLen) (hg : w.heap[b]? = some (.map (zq7 (jcf σ.1)) σ.2)) :
  ∃ D0 : DataW Unit, w.ownsMap P kt zev b σ.1.length D0 ∧ Maps.size D0 = σ.1.length ∧ ∀ x, has D0 (.int .i64 x) = true ↔ x ∈ zdp σ := by
 have hms : (zq7 (jcf σ.1)).toList = σ.1.map fun p => (⟨.int .i64 p.1, .bool true, p.2⟩ : MapEntry) := by simp [zq7, jcf, Function.comp_def]
 have hrd : ∀ p ∈ σ.1, rd (H := Unit) P kt zev ⟨.int .i64 p.1, .bool true, p.2⟩ = some (.int .i64 p.1, .lit (.bool true)) := fun p hp => by
  have hw := jpe (hσ.i64 p hp)
  simp [Go.WideElems.rd, keyOf, mapKey, hu, hw, zev]
 have hF : Fit (H := Unit) P kt zev (zq7 (jcf σ.1)) σ.2 := by
  refine ⟨by simp [zq7, jcf]; exact hl, ⟨fun x hx => ?_, ?_, ?_⟩, fun x hx => ?_⟩
  ·rw [hms] at hx
   obtain ⟨p, hp, rfl⟩ := List.mem_map.1 hx
   exact hσ.old p hp
  ·rw [hms, List.map_map]; exact hσ.born
  ·rw [hms, List.map_map]
   have : (List.map ((fun x : MapEntry => x.key) ∘ fun p : Int × Nat => (⟨.int .i64 p.1, .bool true, p.2⟩ : MapEntry)) σ.1) = (zdp σ).map (Value.int .i64) := by simp [zdp, Function.comp_def]
   rw [this]
   exact List.pairwise_map.2 (hσ.keys.imp fun hne e => hne (by injection e))
  ·rw [hms] at hx
   obtain ⟨p, hp, rfl⟩ := List.mem_map.1 hx
   exact ⟨_, hrd p hp⟩
 have hD : ((zq7 (jcf σ.1)).toList.map (rg (H := Unit) P kt zev)) = σ.1.map fun p => (Lit.int .i64 p.1, DataW.lit (.bool true)) := by
  rw [hms, List.map_map]
  exact List.map_congr_left fun p hp => by
   show rg (H := Unit) P kt zev ⟨.int .i64 p.1, .bool true, p.2⟩ = _
   unfold Go.WideElems.rg
   rw [hrd p hp]; rfl
 refine ⟨_, ⟨_, _, hg, hF, by simp [zq7, jcf], rfl⟩, ?_, fun x => ?_⟩
 ·rw [hD]
  simp [Maps.size, length_sorted]
 ·rw [hD, has_eq, List.any_eq_true]
  constructor
  ·rintro ⟨q, hq, hs⟩
   obtain ⟨p, hp, rfl⟩ := List.mem_map.1 (mem_sorted.1 hq)
   have : p.1 = x := by simpa [Lit.sameKey] using hs
   exact this ▸ List.mem_map_of_mem hp
  ·intro hx
   obtain ⟨p, hp, rfl⟩ := List.mem_map.1 hx
   exact ⟨_, mem_sorted.2 (List.mem_map_of_mem hp), by simp [Lit.sameKey]⟩
end
section
variable {P : Program} {c c1 : Cx} {τ τ' : Fr} {a a' : Act} {w w' w1 : World} {pl pl' : List (Option (Nat × Nat))} {H H' : zar} {r : Nat} {ks : List Nat}
theorem zhg {w w' : World} {row : Option Nat} (hg : w.grownBy w' row) (hr : ∀ k, row = some k → w.shape? k = none) : ∀ b s, w.shape? b = some s → w'.shape? b = some s := fun b s hs => by
 have hlt := zi1 hs
 have : w'.heap[b]? = w.heap[b]? := hg.block b hlt fun e => by rw [hr b e.symm] at hs; cases hs
 exact (zdi this).trans hs
def itC (c : Cx) (H : zar) (pl : List (Option (Nat × Nat))) (ks : List Nat) (r : Nat) (w : World) : Cx := ⟨fun k => c.E k ∨ k = r, w, fun k => zgs H pl k ∨ k = r, c.nt, zpd ks pl⟩
theorem RelS.iter (h : RelS c τ H [] pl a w) (hg : w.grownBy w1 none) (hr : w.heap.size ≤ r) (hr1 : r < w1.heap.size) (ks : List Nat) : RelS (itC c H pl ks r w1) τ H [] pl a w1 := by
 have hb : Below w.heap.size w w1 := ⟨hg.os, hg.tape, hg.output, hg.size, fun b hb => hg.block b hb (by simp)⟩
 have h1 := h.below hb
 have hown : ∀ b, b < w.heap.size → zbx (itC c H pl ks r w1).E H pl b → zbx c.E H pl b := fun b hlt hb => by
  rcases hb with (hb | hb) | hb
  ·exact .inl hb
  ·omega
  ·exact .inr hb
 refine ⟨⟨h.h.len, fun id o ho => (h.h.obj id o ho).mono hg.size (fun b hb _ => hg.block b hb (by simp)) hown (zhg hg fun k hk => by cases hk) (fun _ _ h => h) (fun h => h) (fun hl b e he => hg.block b (h.h.block_lt ho hl he) (by simp)), h.h.dis, fun i o p h1 l1 p1 => ?_, h.h.shl, h.h.shr⟩,
  Stp.refl _ _, fun id o p h1 h2 h3 => .inl (.inl ⟨id, o, p.2, h1, h2, h3⟩), fun b hb => ?_, fun t => (h.fr t).mono hg.size (fun b hb _ => hg.block b hb (by simp)) hown (zhg hg fun k hk => by cases hk) (fun _ _ h => h), h.size, h.defs, fun i p hi => (zg2 hi).2⟩
 ·rintro (he | he)
  ·exact h.h.ext i o p h1 l1 p1 he
  ·have := h.h.block_lt h1 l1 p1; omega
 ·show b < w1.heap.size
  rcases hb with hb | hb
  ·exact Nat.lt_of_lt_of_le (h.own_lt b (.inl hb)) hg.size
  ·omega
theorem RelS.moved (h : RelS c τ H [] pl a w) (hg : w.grownBy w' (some r)) (hE : c.E r) (hO : c.O0 r) (hs : w.shape? r = none) : RelS c τ H [] pl a w' := by
 have hsh := zhg hg fun k hk => by cases hk; exact hs
 have hblk : ∀ b, b < w.heap.size → ¬ zbx c.E H pl b → w'.heap[b]? = w.heap[b]? := fun b hb hn => hg.block b hb fun e => by cases e; exact hn (.inl hE)
 have hob : ∀ (i : Nat) (o : AObj) (b e : Nat), H[i]? = some o → o.live = true → pl[i]? = some (some (b, e)) → w'.heap[b]? = w.heap[b]? := fun i o b e h1 h2 h3 => hg.block b (h.h.block_lt h1 h2 h3) fun he => by
  cases he; exact h.h.ext i o _ h1 h2 h3 hE
 exact ⟨⟨h.h.len, fun id o ho => (h.h.obj id o ho).mono hg.size hblk (fun _ _ h => h) hsh (fun _ _ h => h) (fun h => h) (fun hl b e he => hob id o b e ho hl he), h.h.dis, h.h.ext, h.h.shl, h.h.shr⟩,
  h.stp.trans (O' := fun k => k = r) ⟨hg.os, hg.tape, hg.output, hg.size, fun b hb hn => hg.block b hb fun e => by cases e; exact hn rfl, hsh⟩ (fun b _ hb => hb ▸ hO),
  h.own0, h.ext, fun t => (h.fr t).mono hg.size hblk (fun _ _ h => h) hsh (fun _ _ h => h), h.size, h.defs, h.keep⟩
def jsf (c : Cx) (H : zar) (pl : List (Option (Nat × Nat))) (ks : List Nat) (w : World) : Cx := ⟨c.E, w, zgs H pl, c.nt, zpd ks pl⟩
theorem jcj : Kp (jsf c H pl ks w) ks := fun i p hi => (zg2 hi).1
theorem RelS.sub (h : RelS c τ H [] pl a w) (ks : List Nat) : RelS (jsf c H pl ks w) τ H [] pl a w :=
 ⟨h.h, Stp.refl _ _, fun id o p h1 h2 h3 => .inl ⟨id, o, p.2, h1, h2, h3⟩, fun b hb => h.own_lt b (.inl hb), h.fr, h.size, h.defs, fun i p hi => (zg2 hi).2⟩
theorem RelS.sup (h : RelS c τ H [] pl a w) (k : RelS (jsf c H pl ks w) τ' H' [] pl' a' w') (hk : Kp c ks) : RelS c τ' H' [] pl' a' w' := by
 refine ⟨k.h, h.stp.trans k.stp (fun b hb ho => ?_), fun id o p h1 h2 h3 => ?_, h.ext, k.fr, k.size, k.defs, fun i p hi => k.keep i p (zmc (hk i p hi) (h.keep i p hi))⟩
 ·obtain ⟨i, o, e, h1, h2, h3⟩ := ho
  rcases h.own0 i o _ h1 h2 h3 with h | h
  ·exact h
  ·simp only at h; omega
 ·rcases k.own0 id o p h1 h2 h3 with ⟨i, o', e, k1, k2, k3⟩ | hge
  ·exact h.own0 i o' (p.1, e) k1 k2 k3
  ·exact .inr (Nat.le_trans h.stp.size hge)
theorem RelS.back (h : RelS c τ H [] pl a w) (hg : w.grownBy w1 none) (hr : w.heap.size ≤ r) (hp : Kp c []) (k : RelS (itC c H pl ks r w1) τ' H' [] pl' a' w') : RelS c τ' H' [] pl' a' w' := by
 have hown : ∀ b, zbx c.E H' pl' b → zbx (itC c H pl ks r w1).E H' pl' b := fun b hb => hb.imp_left .inl
 refine ⟨⟨k.h.len, fun id o ho => (k.h.obj id o ho).mono (Nat.le_refl _) (fun _ _ _ => rfl) (fun b _ hb => hown b hb) (fun _ _ h => h) (fun _ _ h => h) (fun h => h) (fun _ _ _ _ => rfl), k.h.dis, fun i o p h1 l1 p1 he => k.h.ext i o p h1 l1 p1 (.inl he), k.h.shl, k.h.shr⟩,
  h.stp.trans (w2 := w') (O' := fun b => (zgs H pl b ∨ b = r)) ⟨k.stp.os.trans hg.os, k.stp.tape.trans hg.tape, k.stp.output.trans hg.output, Nat.le_trans hg.size k.stp.size, fun b hb hn => (k.stp.block b (Nat.lt_of_lt_of_le hb hg.size) hn).trans (hg.block b hb (by simp)), fun b s hs => k.stp.shape b s (zhg hg (fun k hk => by cases hk) b s hs)⟩ (fun b hb ho => ?_),
  fun id o p h1 h2 h3 => ?_, h.ext, fun t => (k.fr t).mono (Nat.le_refl _) (fun _ _ _ => rfl) (fun b _ hb => hown b hb) (fun _ _ h => h) (fun _ _ h => h), k.size, k.defs, fun i p hi => (by cases hp i p hi)⟩
 ·rcases ho with ⟨i, o, e, h1, h2, h3⟩ | ho
  ·rcases h.own0 i o _ h1 h2 h3 with h | h
   ·exact h
   ·simp only at h; omega
  ·have := h.stp.size; omega
 ·rcases k.own0 id o p h1 h2 h3 with (⟨i, o', e, k1, k2, k3⟩ | hb) | hge
  ·exact h.own0 i o' (p.1, e) k1 k2 k3
  ·exact absurd (.inr hb) (k.h.ext id o p h1 h2 h3)
  ·exact .inr (Nat.le_trans h.stp.size (Nat.le_trans hg.size hge))
theorem jck {id : Nat} {σ : zle} {N : Nat} (h : RelS c τ H [] pl a w) (hid : H[id]? = some (zny σ)) : ∃ b base, pl[id]? = some (some (b, base)) ∧ w.heap[b]? = some (.map (zq7 (jcf σ.1)) σ.2) := by
 obtain ⟨b, base, ms, k1, k2, k3⟩ := h.h.obj id _ hid
 refine ⟨b, base, k1, ?_⟩
 have hm : (zea H H.length).m id = some (jcf σ.1, σ.2) := by
  rw [zfo (List.getElem?_eq_some_iff.1 hid).1, hid]; exact jfs
 obtain ⟨_, _, _, h1, _⟩ := zpa h.h hm k1
 exact h1
end
section
variable {P : Program} {c : Cx} {τ : Fr} {H : zar} {Q : Exit → Fr → zar → Prop}
theorem zsi {o : Oper} {ops rest : List Oper} {Q : Exit → Act → World → Prop} {a : Act} {w : World} {it : Operand} {r : Nat} {v : Value} (hg : o.guard = none) (hop : o.op = .entry it) (hit : a.eval it = .pointer (some ⟨r, 0, none⟩)) (hen : (Instr.entry (.pointer (some ⟨r, 0, none⟩))).run P w = .ok v w)
  (hK : wpList P ops.toArray Q rest (a.put o.dst v) w) : wpList P ops.toArray Q (o :: rest) a w := by
 refine wpList_plain hg fun K' hK' => ?_
 unfold Oper.wp
 simp [execOp, hop, hit, hen, Result.andThen]
 exact hK' _ _ hK
theorem zg6 {o : Oper} {ops rest : List Oper} {Q : Exit → Act → World → Prop} {a : Act} {w : World} {v : Value} (hg : o.guard = none) (hrun : (execOp a.eval o).run P w = .ok (.value v) w)
  (hK : wpList P ops.toArray Q rest (a.put o.dst v) w) : wpList P ops.toArray Q (o :: rest) a w := by
 refine wpList_plain hg fun K' hK' => ?_
 unfold Oper.wp
 rw [hrun]
 exact hK' _ _ hK
theorem zhh {a : Act} {t : Nat} {v : Value} (h : t < a.tmps.size) : (a.put (some t) v).eval (.tmp t) = v := by
 simp [Act.eval, Act.put, Array.getD, h]
theorem jcl {a : Act} {t u : Nat} {v : Value} (h : t ≠ u) : (a.put (some u) v).eval (.tmp t) = a.eval (.tmp t) := by
 simp [Act.eval, Act.put, Array.getD_eq_getD_getElem?, Array.getElem?_setIfInBounds_ne (Ne.symm h)]
theorem zhi {a : Act} {t : Option Nat} {v : Value} : (a.put t v).tmps.size = a.tmps.size := by
 cases t <;> simp [Act.put]
theorem Rd.val_eq {w : World} {pl : List (Option (Nat × Nat))} {own : Nat → Prop} {u v : Value} (h : Rd w pl own (.d (.val u)) v) : v = u := by
 cases h with | d _ _ h => cases h; rfl
theorem jcm {kt : TypeId} {R : Value → Option (DataW Unit × List MemPlace)} {w w' : World} {b r n : Nat} {D : DataW Unit} {left : Lit → Bool} {cnt : Nat} (h : w.ranges P kt R b r n D left cnt) (hb : w'.heap[b]? = w.heap[b]?) (hr : w'.heap[r]? = w.heap[r]?) : w'.ranges P kt R b r n D left cnt := by
 obtain ⟨es, clock, since, seen, c0, h1, F, hs, hD, h2, rest⟩ := h
 exact ⟨es, clock, since, seen, c0, hb.trans h1, F, hs, hD, hr.trans h2, rest⟩
theorem jcn {w : World} {pl : List (Option (Nat × Nat))} {own : Nat → Prop} (l : List Value) : Rd w pl own (.tup (l.map fun v => .d (.val v))) (.tuple l.toArray) := by
 refine .tup _ _ (by simp) fun j x hj => ?_
 rw [List.getElem?_map, Option.map_eq_some_iff] at hj
 obtain ⟨v, hv, rfl⟩ := hj
 have : l.toArray.getD j undef = v := by simp [Array.getD_eq_getD_getElem?, hv]
 rw [this]; exact .d _ _ (.val _)
set_option maxRecDepth 100000 in
theorem zyv {σ : zle} {id n : Nat} (hp : Kp c []) (hn : c.nt = n) (hσ : OkS σ) (hl : σ.1.length ≤ maxLen) (hid : H[id]? = some (zny σ)) {T kt et : TypeId} (hT : P.underlying T = some (.map kt et)) (hK : Keyed P kt) (hu : P.underlying kt = some (.int .i64))
  {tq tm ti tn tk te tx tv ra rn re B C : Nat} {y1 y2 y3 y4 y5 y6 y7 : TypeId} {p1 p2 p3 p4 p5 p6 p7 : String} {f1 f2 f3 f4 f5 f6 f7 : Array Edge} {body : Code} (hτ : τ tq = .om id)
  (hb : decide (tm < n) && (decide (ti < n) && (decide (tn < n) && (decide (tk < n) && (decide (te < n) && (decide (tx < n) && decide (tv < n)))))) = true)
  (hne : ([tm, tn, tk, te, tx, tv].contains ti) = false) (hne2 : (tn != tk && (tn != te && te != tx)) = true)
  (I : Nat → List Int → Fr → zar → Prop) (hI : ∀ r ss τ' H', I r ss τ' H' → H'[id]? = some (zny σ) ∧ τ' ti = .d (.val (.pointer (some ⟨r, 0, none⟩))))
  (h0 : ∀ r, ∃ τ1 H1, I r [] τ1 H1 ∧ Rt [id] ((τ.put (some tm) (.om id)).put (some ti) (.d (.val (.pointer (some ⟨r, 0, none⟩))))) H τ1 H1)
  (round : ∀ r ss x τ' H' (c' : Cx), c'.nt = n → Kp c' [id] → I r ss τ' H' → x ∉ ss → x ∈ zdp σ →
   AWp P c' body (fun e τ3 H3 => e = .normal ∧ ∃ τ4 H4, I r (ss ++ [x]) τ4 H4 ∧ Rt [id] τ3 H3 τ4 H4)
    (((((τ'.put (some tn) (.tup ([.bool true, .int .i64 x, .bool true].map fun v => .d (.val v)))).put (some tk) (.d (.val (.bool true)))).put (some te) (.tup ([.int .i64 x, .bool true].map fun v => .d (.val v)))).put (some tx) (.d (.val (.int .i64 x)))).put (some tv) (.d (.val (.int .i64 x)))) H')
  (hrest : ∀ r ss τ' H', I r ss τ' H' → ss.Perm (zdp σ) → Q .normal ((τ'.put (some tn) (.tup ([.bool false].map fun v => .d (.val v)))).put (some tk) (.d (.val (.bool false)))) H') :
  AWp P c (.seq (.region ra [⟨some tm, .move (.tmp tq), y1, p1, f1, none⟩, ⟨some ti, .range T (.tmp tm), y2, p2, f2, none⟩].toArray false)
   (.block B (.loop (.seq (.region rn [⟨some tn, .next (.tmp ti) false, y3, p3, f3, none⟩, ⟨some tk, .extract (.tmp tn) 0, y4, p4, f4, none⟩].toArray false)
    (.seq (.cond (.tmp tk) .skip (.exit B)) (.block C (.seq (.region re [⟨some te, .entry (.tmp ti), y5, p5, f5, none⟩, ⟨some tx, .extract (.tmp te) 0, y6, p6, f6, none⟩, ⟨some tv, .assign (.tmp tx), y7, p7, f7, none⟩].toArray false) body))))))) Q τ H := by
 intro a w ⟨pl, h⟩
 subst hn
 simp only [Bool.and_eq_true, decide_eq_true_eq] at hb
 obtain ⟨b1, b2, b3, b4, b5, b6, b7⟩ := hb
 simp only [List.contains_cons, List.contains_nil, Bool.or_eq_false_iff, beq_eq_false_iff_ne, ne_eq, Bool.or_false] at hne
 obtain ⟨n1, n2, n3, n4, n5, n6⟩ := hne
 simp only [Bool.and_eq_true, bne_iff_ne, ne_eq] at hne2
 obtain ⟨m1, m2, m3⟩ := hne2
 obtain ⟨b, base, hpb, hgb⟩ := jck (N := 0) h hid
 obtain ⟨D0, hown, hsize, hhas⟩ := jfu hu hσ hl hgb
 have hdo : ∀ {t d : Nat}, some t = some d → t < c.nt → d < c.nt := fun e ht => by cases e; exact ht
 have hq : a.eval (.tmp tq) = .map (some b) := by
  have := h.fr tq
  rw [hτ] at this
  exact zyh this hpb
 refine wp_seq (wp_region_lit ?_)
 refine zg6 rfl (v := a.eval (.tmp tq)) (by simp [execOp]) ?_
 refine wpList_range_own _ rfl (.tmp tm) T rfl kt et hK hT zev b σ.1.length D0 (by rw [zhh (by rw [h.size]; exact b1), hq]) hown ?_
 intro w1 hrg hgr hsz
 refine wpList_nil ?_
 have h1 : RelS c (τ.put (some tm) (.om id)) H [] pl (a.put (some tm) (a.eval (.tmp tq))) w := h.put (some tm) (fun d e => hdo e b1) (by rw [hq]; exact .om _ _ _ hpb)
 have h2 := (h1.iter hgr (Nat.le_refl _) (by omega) [id]).put (some ti) (fun d e => hdo e b2) (x := .d (.val (.pointer (some ⟨w.heap.size, 0, none⟩)))) (.d _ _ (.val _))
 have hkp : Kp (itC c H pl [id] w.heap.size w1) [id] := fun i p hi => (zg2 hi).1
 refine wp_block (wp_loop (fun a' w' => ∃ ss τ' H' left cnt pl', I w.heap.size ss τ' H' ∧ RelS (itC c H pl [id] w.heap.size w1) τ' H' [] pl' a' w' ∧ w'.ranges P kt zev b w.heap.size σ.1.length D0 left cnt ∧ Met D0 left ss) (fun _ w' => w'.rangeLeft b w.heap.size) ?_ ?_)
 ·obtain ⟨τ1, H1, i1, i2⟩ := h0 w.heap.size
  obtain ⟨pl1, h3⟩ := i2 _ _ _ hkp ⟨pl, h2⟩
  exact ⟨[], τ1, H1, _, _, pl1, i1, h3, hrg, Met.start D0⟩
 rintro a' w' ⟨ss, τ', H', left, cnt, pl', hI', hR, hrg', hmet⟩
 obtain ⟨hset, hti⟩ := hI _ _ _ _ hI'
 have hpid : pl'[id]? = some (some (b, base)) := hR.keep id _ (zmc (by simp) hpb)
 have hit : a'.eval (.tmp ti) = .pointer (some ⟨w.heap.size, 0, none⟩) := by
  have := hR.fr ti
  rw [hti] at this
  exact this.val_eq
 have hsz' : a'.tmps.size = c.nt := hR.size
 have hshr : w'.shape? w.heap.size = none := by
  obtain ⟨_, _, _, _, _, _, _, _, _, hr, _⟩ := hrg'
  simp [World.shape?, hr]
 refine wp_seq (wp_region_lit ?_)
 refine wpList_next_ranges _ rfl (.tmp ti) rfl kt hK zev (Value.int .i64) (fun _ : Int => Value.bool true) (fun key kl hk => by obtain ⟨x, hx, _⟩ := Maps.keyOf_int_inv hu hk; exact ⟨x, hx⟩) (fun v y hv => by unfold zev at hv; split at hv; exact ⟨0, rfl⟩; cases hv) b w.heap.size _ _ _ _ hit hrg' ?_ ?_
 ·-- nothing is left
  intro hc0 hl0
  have h3 := hR.put (some tn) (fun d e => hdo e b3) (jcn [.bool false])
  refine zg6 rfl (v := .bool false) ?_ ?_
  ·have : (a'.put (some tn) (.tuple #[.bool false])).eval (.tmp tn) = .tuple #[.bool false] := zhh (by rw [hsz']; exact b3)
   simp [execOp, this, Instr.extract]
  refine wpList_nil ?_
  have h4 := h3.put (some tk) (fun d e => hdo e b4) (x := .d (.val (.bool false))) (v := .bool false) (.d _ _ (.val _))
  refine wp_seq (wp_cond_split (t := false) (zhh (by rw [zhi, hsz']; exact b4)) (fun e => by cases e) fun _ => wp_exit ?_)
  simp only [Exit.then, Exit.inBlock, if_true]
  have hperm : ss.Perm (zdp σ) := (List.perm_ext_iff_of_nodup hmet.1 hσ.keys).2 fun x => by rw [hmet.2 x, hl0, hhas x]; simp
  exact ⟨_, _, ⟨pl', h1.back hgr (Nat.le_refl _) hp h4⟩, hrest _ ss τ' H' hI' hperm⟩
 ·-- an element has come
  intro x cc kl yd w2 cnt2 hkey hlk hv hat hrg2 hlt hg2 hs2 hen
  obtain ⟨x', ex, rfl, _⟩ := Maps.keyOf_int_inv hu hkey
  obtain rfl : x = x' := by injection ex
  obtain ⟨hnew, hh, hmet2⟩ := hmet.step hlk hat
  have hR2 := hR.moved hg2 (.inr rfl) (.inr rfl) hshr
  have h3 := hR2.put (some tn) (fun d e => hdo e b3) (jcn [.bool true, .int .i64 x, .bool true])
  refine zg6 rfl (v := .bool true) ?_ ?_
  ·have : (a'.put (some tn) (.tuple #[.bool true, .int .i64 x, .bool true])).eval (.tmp tn) = .tuple #[.bool true, .int .i64 x, .bool true] := zhh (by rw [hsz']; exact b3)
   simp [execOp, this, Instr.extract]
  refine wpList_nil ?_
  have h4 := h3.put (some tk) (fun d e => hdo e b4) (x := .d (.val (.bool true))) (v := .bool true) (.d _ _ (.val _))
  refine wp_seq (wp_cond_split (t := true) (zhh (by rw [zhi, hsz']; exact b4)) (fun _ => wp_skip ?_) fun e => by cases e)
  simp only [Exit.then]
  refine wp_block (wp_seq (wp_region_lit ?_))
  refine zsi (v := .tuple #[.int .i64 x, .bool true]) rfl rfl (r := w.heap.size) ?_ hen ?_
  ·show ((a'.put (some tn) _).put (some tk) _).eval (.tmp ti) = _
   rw [jcl (fun e => n3 e), jcl (fun e => n2 e), hit]
  have h5 := h4.put (some te) (fun d e => hdo e b5) (jcn [.int .i64 x, .bool true])
  refine zg6 rfl (v := .int .i64 x) ?_ ?_
  ·have : ((((a'.put (some tn) (.tuple #[.bool true, .int .i64 x, .bool true])).put (some tk) (.bool true)).put (some te) (.tuple #[.int .i64 x, .bool true])).eval (.tmp te)) = .tuple #[.int .i64 x, .bool true] := zhh (by rw [zhi, zhi, hsz']; exact b5)
   simp [execOp, this, Instr.extract]
  have h6 := h5.put (some tx) (fun d e => hdo e b6) (x := .d (.val (.int .i64 x))) (v := .int .i64 x) (.d _ _ (.val _))
  refine zg6 rfl (v := .int .i64 x) ?_ ?_
  ·have : (((((a'.put (some tn) (.tuple #[.bool true, .int .i64 x, .bool true])).put (some tk) (.bool true)).put (some te) (.tuple #[.int .i64 x, .bool true])).put (some tx) (.int .i64 x)).eval (.tmp tx)) = .int .i64 x := zhh (by rw [zhi, zhi, zhi, hsz']; exact b6)
   simp [execOp, this]
  have h7 := h6.put (some tv) (fun d e => hdo e b7) (x := .d (.val (.int .i64 x))) (v := .int .i64 x) (.d _ _ (.val _))
  refine wpList_nil ?_
  simp only [Exit.then]
  refine wp_mono (round w.heap.size ss x τ' H' (jsf (itC c H pl [id] w.heap.size w1) H' pl' [id] w2) rfl jcj hI' hnew ((hhas x).1 hh) _ w2 ⟨pl', h7.sub [id]⟩) fun e a3 w3 ⟨τ3, H3, hR3, he, τ4, H4, hI4, hrt⟩ => ?_
  subst he
  obtain ⟨pl4, hR4⟩ := hrt _ _ _ jcj hR3
  have hR5 := h7.sup hR4 hkp
  obtain ⟨hset4, _⟩ := hI _ _ _ _ hI4
  have hpid4 : pl4[id]? = some (some (b, base)) := hR5.keep id _ (zmc (by simp) hpb)
  have eb : w3.heap[b]? = w2.heap[b]? := by
   obtain ⟨b', base', k1, k2⟩ := jck (N := 0) hR5 hset4
   rw [hpid4] at k1; cases k1
   obtain ⟨b', base', k3, k4⟩ := jck (N := 0) hR2 hset
   rw [hpid] at k3; cases k3
   rw [k2, k4]
  have er : w3.heap[w.heap.size]? = w2.heap[w.heap.size]? := by
   have hrl : w.heap.size < w2.heap.size := by have := hR2.stp.size; have : w1.heap.size ≤ w2.heap.size := this; omega
   exact hR4.stp.block _ hrl fun ⟨i, o, e, k1, k2, k3⟩ => hR2.h.ext i o _ k1 k2 k3 (.inr rfl)
  have hrg3 := jcm hrg2 eb er
  simp only [Exit.inBlock, Exit.then]
  refine ⟨⟨ss ++ [x], τ4, H4, _, cnt2, pl4, hI4, hR5, hrg3, hmet2⟩, ?_⟩
  rw [hrg3.left_eq, hrg'.left_eq]; exact hlt
end
end Go.Proofs.Ytignimmnnccblaa
