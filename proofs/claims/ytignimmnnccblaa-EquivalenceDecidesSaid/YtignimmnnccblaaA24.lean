/- Of no program: the run of a region that draws, operation by operation; the laying operations. -/
import Derived.Test.YtignimmnnccblaaA22
set_option linter.unusedVariables false
set_option linter.unusedSimpArgs false
namespace Go.Proofs.Ytignimmnnccblaa
open Go Go.RowKit
section
variable {P : Program} {fr : List FuncId} {ops l : List Oper} {τ : Fr} {H : zap} {sh : List (Nat × Nat)} {N i r : Nat} {m : List (Nat × Nat)} {d : Option Tmp} {op : Op} {ty : TypeId} {pos : String} {af : Array Edge} {KD : Fr → zap → List (Nat × Nat) → Prop} {K : Fr → zap → Prop}
theorem zna {j : Nat} {want : Bool} {τ : Fr} : zcr ops τ ⟨d, op, ty, pos, af, some (j, want)⟩ = match (ops[j]?).bind (·.dst) with | none => some false | some d => zod want (τ d) := rfl
theorem zum {b : Bool} : zod true (.d (.val (.bool b))) = some b := by cases b <;> rfl
theorem zun {b : Bool} : zod false (.d (.val (.bool b))) = some (!b) := by cases b <;> rfl
theorem zuo {want : Bool} : zod want (.d (.val undef)) = some false := rfl
theorem zd5 (hk : kOf fr op = 0) : lays fr ⟨d, op, ty, pos, af, none⟩ = false := by simp [lays, hk]
def zzc (n : Nat) : List (Nat × Nat) → Prop
 | [] => True
 | p :: l => p.1 ≠ n ∧ p.2 ≠ n ∧ zzc n l
theorem zec (n : Nat) : ∀ sh : List (Nat × Nat), zzc n sh ↔ ∀ p ∈ sh, p.1 ≠ n ∧ p.2 ≠ n
 | [] => by simp [zzc]
 | p :: l => by simp [zzc, zec n l, and_assoc]
def je2 (P : Program) (N r : Nat) (al : List Nat) (ρ : Operand → AV) (op : Op) (H : zap) (sh : List (Nat × Nat)) (KX : AV → zap → List (Nat × Nat) → Prop) : Prop :=
 H[N + r]? = some .free ∧ (∀ p ∈ sh, p.1 ≠ N + r ∧ p.2 ≠ N + r) ∧ zpc N al ρ op ∧ ∃ x H' sh', OpA P true (N + r) ρ op H sh x H' sh' ∧ KX x H' sh'
theorem zz4 {y : Operand} : lays fr ⟨d, .move y, ty, pos, af, none⟩ = false := zd5 rfl
theorem zrh {y : Operand} : lays fr ⟨d, .assign y, ty, pos, af, none⟩ = false := zd5 rfl
theorem zz5 {c a b : Operand} : lays fr ⟨d, .pick c a b, ty, pos, af, none⟩ = false := zd5 rfl
theorem zz6 {t : TypeId} {y : Operand} : lays fr ⟨d, .load t y, ty, pos, af, none⟩ = false := zd5 rfl
theorem jms {t : TypeId} {y : Operand} {f : Nat} : lays fr ⟨d, .fieldAddr t y f, ty, pos, af, none⟩ = false := zd5 rfl
theorem zup {t : TypeId} {y : Operand} {f : Nat} : lays fr ⟨d, .field t y f, ty, pos, af, none⟩ = false := zd5 rfl
theorem jmt {t : TypeId} {y z : Operand} : lays fr ⟨d, .indexAddr t y z, ty, pos, af, none⟩ = false := zd5 rfl
theorem zuq {t : TypeId} {y z : Operand} : lays fr ⟨d, .index t y z, ty, pos, af, none⟩ = false := zd5 rfl
theorem zur {t : TypeId} {y : Operand} {lo hi : Option Operand} : lays fr ⟨d, .slice t y lo hi none, ty, pos, af, none⟩ = false := zd5 rfl
theorem jg2 {op : BinOp} {t t' : TypeId} {y z : Operand} : lays fr ⟨d, .binOp op t y z t', ty, pos, af, none⟩ = false := zd5 rfl
theorem jmu {op : UnOp} {t : TypeId} {y : Operand} : lays fr ⟨d, .unOp op t y, ty, pos, af, none⟩ = false := zd5 rfl
theorem zz7 {s t : TypeId} {y : Operand} : lays fr ⟨d, .convert s t y, ty, pos, af, none⟩ = false := zd5 rfl
theorem zus {t : TypeId} {ps : Array (Nat × Operand)} : lays fr ⟨d, .build t ps, ty, pos, af, none⟩ = false := zd5 rfl
theorem zom {y : Operand} {ix : Nat} : lays fr ⟨d, .extract y ix, ty, pos, af, none⟩ = false := zd5 rfl
theorem jmv {fn : Fn} {fi ca : Array Operand} : lays fr ⟨d, .makeFunc fn fi ca, ty, pos, af, none⟩ = false := zd5 rfl
theorem jg3 {args : Array Operand} {ts : Array TypeId} : lays fr ⟨d, .call ⟨.builtin .len, args, ts⟩, ty, pos, af, none⟩ = false := zd5 rfl
theorem jg4 {args : Array Operand} {ts : Array TypeId} : lays fr ⟨d, .call ⟨.builtin .max, args, ts⟩, ty, pos, af, none⟩ = false := zd5 rfl
theorem jg5 {args : Array Operand} {ts : Array TypeId} : lays fr ⟨d, .call ⟨.builtin .min, args, ts⟩, ty, pos, af, none⟩ = false := zd5 rfl
theorem zut {f : FuncId} {args : Array Operand} {ts : Array TypeId} : lays [] ⟨d, .call ⟨.value (.func f), args, ts⟩, ty, pos, af, none⟩ = false := zd5 rfl
theorem zuu {f : Nat} {args : Array Operand} {ts : Array TypeId} : lays fr ⟨d, .call ⟨.value (.tmp f), args, ts⟩, ty, pos, af, none⟩ = false := zd5 rfl
theorem jg6 {t : TypeId} {y : Operand} : lays fr ⟨d, .box t y, ty, pos, af, none⟩ = true := rfl
theorem zuv {t : TypeId} : lays fr ⟨d, .alloc t, ty, pos, af, none⟩ = true := rfl
theorem zz8 {t : TypeId} {y z : Operand} : lays fr ⟨d, .makeSlice t y z, ty, pos, af, none⟩ = true := rfl
theorem jmw {t : TypeId} {n : Nat} {ps : Array (Nat × Operand)} : lays fr ⟨d, .buildSlice t n ps, ty, pos, af, none⟩ = true := rfl
theorem jg7 {args : Array Operand} {ts : Array TypeId} : lays fr ⟨d, .call ⟨.builtin .append, args, ts⟩, ty, pos, af, none⟩ = true := rfl
end
section
variable {P : Program} {τ : Fr} {H : zap} {sh : List (Nat × Nat)} {N r : Nat} {al : List Nat} {ρ : Operand → AV} {KX : AV → zap → List (Nat × Nat) → Prop} {K : AV → zap → Prop} {t : TypeId}
theorem zet (H : zap) (o : AObj) : (H ++ [AObj.free]).set H.length o = H ++ [o] := by
 rw [List.set_append_right _ _ (Nat.le_refl _), Nat.sub_self]; rfl
theorem jr9 {y : Operand} : (∃ x H', OpA P false H.length ρ (.box t y) (H ++ [.free]) [] x H' [] ∧ K x H') = ∃ cs, zcl (ρ y) = some cs ∧ K (.op H.length 0) (H ++ [.cells cs]) := by
 refine propext ⟨?_, ?_⟩
 ·rintro ⟨x, H', ⟨cs, h1, rfl, rfl, _⟩, h2⟩; rw [zet] at h2; exact ⟨cs, h1, h2⟩
 ·rintro ⟨cs, h1, h2⟩; exact ⟨_, _, ⟨cs, h1, rfl, rfl, rfl⟩, by rw [zet]; exact h2⟩
theorem jsa {y : Operand} : je2 P N r al ρ (.box t y) H sh KX = (H[N + r]? = some .free ∧ zzc (N + r) sh ∧ ∃ cs, zcl (ρ y) = some cs ∧ KX (.op (N + r) 0) (H.set (N + r) (.cells cs)) sh) := by
 refine propext ⟨?_, ?_⟩
 ·rintro ⟨h1, h2, _, x, H', sh', ⟨cs, h3, rfl, rfl, rfl⟩, h4⟩; exact ⟨h1, (zec _ _).2 h2, cs, h3, h4⟩
 ·rintro ⟨h1, h2, cs, h3, h4⟩; exact ⟨h1, (zec _ _).1 h2, trivial, _, _, _, ⟨cs, h3, rfl, rfl, rfl⟩, h4⟩
theorem jj7 : (∃ x H', OpA P false H.length ρ (.alloc t) (H ++ [.free]) [] x H' [] ∧ K x H') = ∃ zs, zaO P t = some zs ∧ K (.op H.length 0) (H ++ [.cells (zs.map .d)]) := by
 refine propext ⟨?_, ?_⟩
 ·rintro ⟨x, H', ⟨zs, h0, h1, rfl, rfl, _⟩, h2⟩; rw [zet] at h2; exact ⟨zs, by unfold zaO; rw [h0]; simp only; rw [if_pos h1], h2⟩
 ·rintro ⟨zs, h1, h2⟩; obtain ⟨h3, h4⟩ := zuk h1; exact ⟨_, _, ⟨zs, h3, h4, rfl, rfl, rfl⟩, by rw [zet]; exact h2⟩
theorem jj8 : je2 P N r al ρ (.alloc t) H sh KX = (H[N + r]? = some .free ∧ zzc (N + r) sh ∧ ∃ zs, zaO P t = some zs ∧ KX (.op (N + r) 0) (H.set (N + r) (.cells (zs.map .d))) sh) := by
 refine propext ⟨?_, ?_⟩
 ·rintro ⟨h1, h2, _, x, H', sh', ⟨zs, h5, h3, rfl, rfl, rfl⟩, h4⟩; exact ⟨h1, (zec _ _).2 h2, zs, by unfold zaO; rw [h5]; simp only; rw [if_pos h3], h4⟩
 ·rintro ⟨h1, h2, zs, h3, h4⟩; obtain ⟨h5, h6⟩ := zuk h3; exact ⟨h1, (zec _ _).1 h2, trivial, _, _, _, ⟨zs, h5, h6, rfl, rfl, rfl⟩, h4⟩
def je3 (P : Program) (t : TypeId) (y z : AV) (KK : Nat → Nat → List AV → Prop) : Prop := ∃ (q : Nat × List D × Nat) (k1 k2 : IntKind) (n m : Int), mkO P t = some q ∧ y = .d (.val (.int k1 n)) ∧ z = .d (.val (.int k2 m)) ∧ 0 ≤ n ∧ n ≤ m ∧ m ≤ maxLen ∧ q.2.2 * m.toNat ≤ 281474976710656 ∧ KK q.1 n.toNat (zk1 n.toNat q.2.1)
theorem zpe {dr : Bool} {nid : Nat} {y z : Operand} {x : AV} {H' : zap} {sh' : List (Nat × Nat)} (h : je3 P t (ρ y) (ρ z) fun s n l => (x = .os s nid 0 n ∧ H' = H.set nid (.cells l) ∨ ∃ ds : List D, l = ds.map .d ∧ ds.length = n * s ∧ x = .d (.fs ds n) ∧ H' = H.set nid .dead) ∧ sh' = sh) : OpA P dr nid ρ (.makeSlice t y z) H sh x H' sh' := by
 obtain ⟨⟨s, zs, bts⟩, k1, k2, n, m, hq, h2, h3, h4, h5, h6, h7, h8, h9⟩ := h
 obtain ⟨e, he, hz, hby, hl, h0, h1⟩ := zf0 hq
 exact ⟨e, s, zs, bts, k1, k2, n, m, he, hz, hl, h0, h1, hby, h2, h3, h4, h5, h6, h7, h8, h9⟩
theorem jmx {y z : Operand} (h : je3 P t (ρ y) (ρ z) fun s n l => K (.os s H.length 0 n) (H ++ [.cells l])) : ∃ x H', OpA P false H.length ρ (.makeSlice t y z) (H ++ [.free]) [] x H' [] ∧ K x H' := by
 obtain ⟨q, k1, k2, n, m, h1, h3, h4, h5, h6, h7, h8, h9⟩ := h
 exact ⟨_, _, zpe ⟨q, k1, k2, n, m, h1, h3, h4, h5, h6, h7, h8, .inl ⟨rfl, rfl⟩, rfl⟩, by rw [zet]; exact h9⟩
theorem jmy {y z : Operand} (h : H[N + r]? = some .free ∧ zzc (N + r) sh ∧ je3 P t (ρ y) (ρ z) fun s n l => KX (.os s (N + r) 0 n) (H.set (N + r) (.cells l)) sh) : je2 P N r al ρ (.makeSlice t y z) H sh KX := by
 obtain ⟨e1, e2, q, k1, k2, n, m, h1, h3, h4, h5, h6, h7, h8, h9⟩ := h
 exact ⟨e1, (zec _ _).1 e2, trivial, _, _, _, zpe ⟨q, k1, k2, n, m, h1, h3, h4, h5, h6, h7, h8, .inl ⟨rfl, rfl⟩, rfl⟩, h9⟩
theorem jj9 {y z : Operand} (h : H[N + r]? = some .free ∧ zzc (N + r) sh ∧ je3 P t (ρ y) (ρ z) fun s n l => ∃ ds : List D, l = ds.map .d ∧ ds.length = n * s ∧ KX (.d (.fs ds n)) (H.set (N + r) .dead) sh) : je2 P N r al ρ (.makeSlice t y z) H sh KX := by
 obtain ⟨e1, e2, q, k1, k2, n, m, h1, h3, h4, h5, h6, h7, h7b, ds, h8, h9, h10⟩ := h
 exact ⟨e1, (zec _ _).1 e2, trivial, _, _, _, zpe ⟨q, k1, k2, n, m, h1, h3, h4, h5, h6, h7, h7b, .inr ⟨ds, h8, h9, rfl, rfl⟩, rfl⟩, h10⟩
def BsK (P : Program) (t : TypeId) (len : Nat) (ps : List (Nat × AV)) (KK : Nat → List AV → Prop) : Prop := ∃ q, mkO P t = some q ∧ len * q.1 ≤ 16777216 ∧ ∃ cs, zl3 (fun i => some (i * q.1, q.1)) (zk1 len q.2.1) ps = some cs ∧ KK q.1 cs
theorem zz9 {dr : Bool} {nid n : Nat} {ps : Array (Nat × Operand)} {x : AV} {H' : zap} {sh' : List (Nat × Nat)} (h : BsK P t n (ps.toList.map fun p => (p.1, ρ p.2)) fun s l => (x = .os s nid 0 n ∧ H' = H.set nid (.cells l) ∨ ∃ ds : List D, l = ds.map .d ∧ ds.length = n * s ∧ x = .d (.fs ds n) ∧ H' = H.set nid .dead) ∧ sh' = sh) : OpA P dr nid ρ (.buildSlice t n ps) H sh x H' sh' := by
 obtain ⟨⟨s, zs, bts⟩, hq, h2, cs, h3, h4⟩ := h
 obtain ⟨e, he, hz, hby, hl, h0, h1⟩ := zf0 hq
 exact ⟨e, s, zs, cs, he, hz, hl, h0, h1, h2, h3, h4⟩
theorem jt6 {n : Nat} {ps : Array (Nat × Operand)} (h : BsK P t n (ps.toList.map fun p => (p.1, ρ p.2)) fun s l => K (.os s H.length 0 n) (H ++ [.cells l])) : ∃ x H', OpA P false H.length ρ (.buildSlice t n ps) (H ++ [.free]) [] x H' [] ∧ K x H' := by
 obtain ⟨q, h1, h3, cs, h4, h5⟩ := h
 exact ⟨_, _, zz9 ⟨q, h1, h3, cs, h4, .inl ⟨rfl, rfl⟩, rfl⟩, by rw [zet]; exact h5⟩
theorem jt7 {n : Nat} {ps : Array (Nat × Operand)} (h : H[N + r]? = some .free ∧ zzc (N + r) sh ∧ BsK P t n (ps.toList.map fun p => (p.1, ρ p.2)) fun s l => KX (.os s (N + r) 0 n) (H.set (N + r) (.cells l)) sh) : je2 P N r al ρ (.buildSlice t n ps) H sh KX := by
 obtain ⟨e1, e2, q, h1, h3, cs, h4, h5⟩ := h
 exact ⟨e1, (zec _ _).1 e2, trivial, _, _, _, zz9 ⟨q, h1, h3, cs, h4, .inl ⟨rfl, rfl⟩, rfl⟩, h5⟩
theorem jsb {n : Nat} {ps : Array (Nat × Operand)} (h : H[N + r]? = some .free ∧ zzc (N + r) sh ∧ BsK P t n (ps.toList.map fun p => (p.1, ρ p.2)) fun s l => ∃ ds : List D, l = ds.map .d ∧ ds.length = n * s ∧ KX (.d (.fs ds n)) (H.set (N + r) .dead) sh) : je2 P N r al ρ (.buildSlice t n ps) H sh KX := by
 obtain ⟨e1, e2, q, h1, h3, cs, h4, ds, h5, h6, h7⟩ := h
 exact ⟨e1, (zec _ _).1 e2, trivial, _, _, _, zz9 ⟨q, h1, h3, cs, h4, .inr ⟨ds, h5, h6, rfl, rfl⟩, rfl⟩, h7⟩
def jrv (P : Program) (t t' : TypeId) (q : Nat × List D × Nat) (H : zap) (k : Nat) (src : AV) (G : Nat → List AV → Prop) : Prop := ∃ m l, zyd P t t' q.2.1 q.2.2 H k src m l ∧ G m l
def jtj (P : Program) (t t' : TypeId) (base src : AV) (H : zap) (K : AV → zap → Prop) : Prop :=
 match base with
 | .os k id off n => ∃ q, mkO P t = some q ∧ k = q.1 ∧ ∃ cs, H[id]? = some (.cells cs) ∧ off + n * k = cs.length ∧ jrv P t t' q H k src fun m l => n + m ≤ 9223372036854775807 ∧ (n + m) * q.2.2 ≤ 140737488355328 ∧ K (.os k H.length 0 (n + m)) (H.set id .dead ++ [.cells (cs.drop off ++ l)])
 | .d (.val (.slice none 0 0)) => ∃ q, mkO P t = some q ∧ jrv P t t' q H q.1 src fun m l => m ≤ 9223372036854775807 ∧ m * q.2.2 ≤ 140737488355328 ∧ K (.os q.1 H.length 0 m) (H ++ [.cells l])
 | _ => False
def jt8 (P : Program) (N r : Nat) (al : List Nat) (t t' : TypeId) (base src : AV) (H : zap) (sh : List (Nat × Nat)) (KX : AV → zap → List (Nat × Nat) → Prop) : Prop :=
 H[N + r]? = some .free ∧ zzc (N + r) sh ∧ zfz N al base = true ∧ zfz N al src = true ∧ match base with
 | .os k id off n => ∃ q, mkO P t = some q ∧ k = q.1 ∧ ∃ cs, H[id]? = some (.cells cs) ∧ off + n * k = cs.length ∧ (∀ p ∈ sh, p.2 ≠ id) ∧ jrv P t t' q H k src fun m l => n + m ≤ 9223372036854775807 ∧ (n + m) * q.2.2 ≤ 140737488355328 ∧ KX (.os k (N + r) 0 (n + m)) (H.set (N + r) (.cells (cs.drop off ++ l))) (appSh sh id (N + r))
 | .d (.val (.slice none 0 0)) => ∃ q, mkO P t = some q ∧ jrv P t t' q H q.1 src fun m l => m ≤ 9223372036854775807 ∧ m * q.2.2 ≤ 140737488355328 ∧ KX (.os q.1 (N + r) 0 m) (H.set (N + r) (.cells l)) sh
 | _ => False
theorem jsc {s y : Operand} {t' : TypeId} : jt8 P N r al t t' (ρ s) (ρ y) H sh KX → je2 P N r al ρ (.call ⟨.builtin .append, #[s, y], #[t, t']⟩) H sh KX := by
 rintro ⟨h1, h2, hb1, hb2, h3⟩
 refine ⟨h1, (zec _ _).1 h2, fun z hz => ?_, ?_⟩
 ·simp only [List.mem_cons, List.not_mem_nil, or_false] at hz
  rcases hz with rfl | rfl
  ·exact hb1
  ·exact hb2
 ·split at h3
  ·rename_i k id off n e
   obtain ⟨⟨s', zs, bts⟩, hq, rfl, cs, h4, h5, h6, m, l, h7, h8, h9, h10⟩ := h3
   obtain ⟨e', he, hz, hby, hl, h0, h1'⟩ := zf0 hq
   exact ⟨_, _, _, ⟨e', _, zs, bts, m, l, he, hz, hl, hby, h7, by rw [e]; exact ⟨cs, rfl, h4, h5, by unfold maxLen; omega, h9, rfl, h6, rfl, rfl⟩⟩, h10⟩
  ·rename_i e
   obtain ⟨⟨s', zs, bts⟩, hq, m, l, h7, h8, h9, h10⟩ := h3
   obtain ⟨e', he, hz, hby, hl, h0, h1'⟩ := zf0 hq
   exact ⟨_, _, _, ⟨e', s', zs, bts, m, l, he, hz, hl, hby, h7, by rw [e]; exact ⟨by unfold maxLen; omega, h9, rfl, rfl, rfl⟩⟩, h10⟩
  ·exact h3.elim
theorem zuw {k m : Nat} {src : AV} {l : List AV} (h : SrcA H k src m l) : SrcA (H ++ [.free]) k src m l := by
 unfold SrcA at h ⊢
 split at h
 ·exact h
 ·obtain ⟨h1, cs, h2, h3⟩ := h
  exact ⟨h1, cs, by rw [List.getElem?_append_left (List.getElem?_eq_some_iff.1 h2).1]; exact h2, h3⟩
 ·exact h
 ·exact h
theorem jsd {s y : Operand} {t' : TypeId} : jtj P t t' (ρ s) (ρ y) H K → ∃ x H', OpA P false H.length ρ (.call ⟨.builtin .append, #[s, y], #[t, t']⟩) (H ++ [.free]) [] x H' [] ∧ K x H' := by
 intro h3
 unfold jtj at h3
 split at h3
 ·rename_i k id off n e
  obtain ⟨⟨s', zs, bts⟩, hq, rfl, cs, h4, h5, m, l, h7, h8, h9, h10⟩ := h3
  obtain ⟨e', he, hz, hby, hl, h0, h1'⟩ := zf0 hq
  have hlt := (List.getElem?_eq_some_iff.1 h4).1
  refine ⟨_, _, ⟨e', _, zs, bts, m, l, he, hz, hl, hby, h7.imp_left fun ⟨ht, hs⟩ => ⟨ht, zuw hs⟩, by rw [e]; exact ⟨cs, rfl, by rw [List.getElem?_append_left hlt]; exact h4, h5, by unfold maxLen; omega, h9, rfl, rfl, rfl, rfl⟩⟩, ?_⟩
  rw [zet, List.set_append_left _ _ hlt]; exact h10
 ·rename_i e
  obtain ⟨⟨s', zs, bts⟩, hq, m, l, h7, h8, h9, h10⟩ := h3
  obtain ⟨e', he, hz, hby, hl, h0, h1'⟩ := zf0 hq
  refine ⟨_, _, ⟨e', s', zs, bts, m, l, he, hz, hl, hby, h7.imp_left fun ⟨ht, hs⟩ => ⟨ht, zuw hs⟩, by rw [e]; exact ⟨by unfold maxLen; omega, h9, rfl, rfl, rfl⟩⟩, ?_⟩
  rw [zet]; exact h10
 ·exact h3.elim
variable {KA : AV → Prop} {cs : List AV}
theorem jka {N : Nat} {f : FuncId} {args : List AV} {ds : List D} {x : AV} (hp : zbd P f ds x) (hd : AV.toD.toDs args = some ds) (hK : KA x) : ∃ x, zta P N H (.d (.val (.func (.func f) #[] #[]))) args x ∧ KA x :=
 ⟨x, ⟨f, [], [], ds, rfl, .inl ⟨.inl (by simpa using hd), hp⟩⟩, hK⟩
theorem je4 {N : Nat} {f : FuncId} {args : List AV} {ds : List D} {v : Value} (hp : zbd P f ds (.d (.val v))) (hd : zdz (zeb H N) 9 args = some ds) (hK : KA (.d (.val v))) : ∃ x, zta P N H (.d (.val (.func (.func f) #[] #[]))) args x ∧ KA x :=
 ⟨_, ⟨f, [], [], ds, rfl, .inl ⟨.inr ⟨rfl, by simpa using hd⟩, hp⟩⟩, hK⟩
theorem je5 {N : Nat} {f : FuncId} {args : List AV} {ds : List D} {x : AV} (hp : zlv P f ds x) (hd : zdz (zeb H N) 9 args = some ds) (hK : KA x) : ∃ x, zta P N H (.d (.val (.func (.func f) #[] #[]))) args x ∧ KA x :=
 ⟨_, ⟨f, [], [], ds, rfl, .inr ⟨by simpa using hd, hp⟩⟩, hK⟩
end
end Go.Proofs.Ytignimmnnccblaa

/- Of no program: small equations of appends; loose ends of the run. -/
set_option linter.unusedVariables false
set_option linter.unusedSimpArgs false
namespace Go.Proofs.Ytignimmnnccblaa
open Go Go.RowKit
section
variable {P : Program} {H : zap} {sh : List (Nat × Nat)} {N r : Nat} {al : List Nat} {t : TypeId} {src : AV} {K : AV → zap → Prop} {KX : AV → zap → List (Nat × Nat) → Prop}
end
end Go.Proofs.Ytignimmnnccblaa
