/- Of no program: the run of a region that draws, operation by operation; the laying operations. -/
import Derived.Test.YtgfnpfchdlcoeaaA22
set_option linter.unusedVariables false
set_option linter.unusedSimpArgs false
namespace Go.Proofs.Ytgfnpfchdlcoeaa
open Go Go.RowKit
section
variable {P : Program} {fr : List FuncId} {ops l : List Oper} {τ : Fr} {H : za0} {sh : List (Nat × Nat)} {N i r : Nat} {m : List (Nat × Nat)} {d : Option Tmp} {op : Op} {ty : TypeId} {pos : String} {af : Array Edge} {KD : Fr → za0 → List (Nat × Nat) → Prop} {K : Fr → za0 → Prop}
theorem zar {j : Nat} {want : Bool} {τ : Fr} : zeq ops τ ⟨d, op, ty, pos, af, some (j, want)⟩ = match (ops[j]?).bind (·.dst) with | none => some false | some d => zqh want (τ d) := rfl
theorem zck {b : Bool} : zqh true (.d (.val (.bool b))) = some b := by cases b <;> rfl
theorem zbk {b : Bool} : zqh false (.d (.val (.bool b))) = some (!b) := by cases b <;> rfl
theorem zi5 {want : Bool} : zqh want (.d (.val undef)) = some false := rfl
theorem zf5 (hk : kOf fr op = 0) : lays fr ⟨d, op, ty, pos, af, none⟩ = false := by simp [lays, hk]
def shOk (n : Nat) : List (Nat × Nat) → Prop
  | [] => True
  | p :: l => p.1 ≠ n ∧ p.2 ≠ n ∧ shOk n l
theorem zgc (n : Nat) : ∀ sh : List (Nat × Nat), shOk n sh ↔ ∀ p ∈ sh, p.1 ≠ n ∧ p.2 ≠ n
  | [] => by simp [shOk]
  | p :: l => by simp [shOk, zgc n l, and_assoc]
/-- What an operation that lays asks, and leaves. -/
def LayK (P : Program) (N r : Nat) (al : List Nat) (ρ : Operand → AV) (op : Op) (H : za0) (sh : List (Nat × Nat)) (KX : AV → za0 → List (Nat × Nat) → Prop) : Prop :=
  H[N + r]? = some .free ∧ (∀ p ∈ sh, p.1 ≠ N + r ∧ p.2 ≠ N + r) ∧ zrd N al ρ op ∧ ∃ x H' sh', OpA P true (N + r) ρ op H sh x H' sh' ∧ KX x H' sh'
theorem zij {y : Operand} : lays fr ⟨d, .move y, ty, pos, af, none⟩ = false := zf5 rfl
theorem zly {y : Operand} : lays fr ⟨d, .assign y, ty, pos, af, none⟩ = false := zf5 rfl
theorem zli {c a b : Operand} : lays fr ⟨d, .pick c a b, ty, pos, af, none⟩ = false := zf5 rfl
theorem zgd {t : TypeId} {y : Operand} : lays fr ⟨d, .load t y, ty, pos, af, none⟩ = false := zf5 rfl
theorem zmu {t : TypeId} {y : Operand} {f : Nat} : lays fr ⟨d, .fieldAddr t y f, ty, pos, af, none⟩ = false := zf5 rfl
theorem zn2 {t : TypeId} {y : Operand} {f : Nat} : lays fr ⟨d, .field t y f, ty, pos, af, none⟩ = false := zf5 rfl
theorem zlz {t : TypeId} {y z : Operand} : lays fr ⟨d, .indexAddr t y z, ty, pos, af, none⟩ = false := zf5 rfl
theorem zn3 {t : TypeId} {y z : Operand} : lays fr ⟨d, .index t y z, ty, pos, af, none⟩ = false := zf5 rfl
theorem zn4 {t : TypeId} {y : Operand} {lo hi : Option Operand} : lays fr ⟨d, .slice t y lo hi none, ty, pos, af, none⟩ = false := zf5 rfl
theorem zh7 {op : BinOp} {t t' : TypeId} {y z : Operand} : lays fr ⟨d, .binOp op t y z t', ty, pos, af, none⟩ = false := zf5 rfl
theorem ly_un {op : UnOp} {t : TypeId} {y : Operand} : lays fr ⟨d, .unOp op t y, ty, pos, af, none⟩ = false := zf5 rfl
theorem zo4 {s t : TypeId} {y : Operand} : lays fr ⟨d, .convert s t y, ty, pos, af, none⟩ = false := zf5 rfl
theorem zn5 {t : TypeId} {ps : Array (Nat × Operand)} : lays fr ⟨d, .build t ps, ty, pos, af, none⟩ = false := zf5 rfl
theorem zkp {y : Operand} {ix : Nat} : lays fr ⟨d, .extract y ix, ty, pos, af, none⟩ = false := zf5 rfl
theorem ly_mf {fn : Fn} {fi ca : Array Operand} : lays fr ⟨d, .makeFunc fn fi ca, ty, pos, af, none⟩ = false := zf5 rfl
theorem zs5 {args : Array Operand} {ts : Array TypeId} : lays fr ⟨d, .call ⟨.builtin .len, args, ts⟩, ty, pos, af, none⟩ = false := zf5 rfl
theorem zvv {args : Array Operand} {ts : Array TypeId} : lays fr ⟨d, .call ⟨.builtin .max, args, ts⟩, ty, pos, af, none⟩ = false := zf5 rfl
theorem zvw {args : Array Operand} {ts : Array TypeId} : lays fr ⟨d, .call ⟨.builtin .min, args, ts⟩, ty, pos, af, none⟩ = false := zf5 rfl
theorem zn6 {f : FuncId} {args : Array Operand} {ts : Array TypeId} : lays [] ⟨d, .call ⟨.value (.func f), args, ts⟩, ty, pos, af, none⟩ = false := zf5 rfl
theorem zn7 {f : Nat} {args : Array Operand} {ts : Array TypeId} : lays fr ⟨d, .call ⟨.value (.tmp f), args, ts⟩, ty, pos, af, none⟩ = false := zf5 rfl
theorem zvx {t : TypeId} {y : Operand} : lays fr ⟨d, .box t y, ty, pos, af, none⟩ = true := rfl
theorem zn8 {t : TypeId} : lays fr ⟨d, .alloc t, ty, pos, af, none⟩ = true := rfl
theorem zre {t : TypeId} {y z : Operand} : lays fr ⟨d, .makeSlice t y z, ty, pos, af, none⟩ = true := rfl
theorem ly_bs {t : TypeId} {n : Nat} {ps : Array (Nat × Operand)} : lays fr ⟨d, .buildSlice t n ps, ty, pos, af, none⟩ = true := rfl
theorem zvy {args : Array Operand} {ts : Array TypeId} : lays fr ⟨d, .call ⟨.builtin .append, args, ts⟩, ty, pos, af, none⟩ = true := rfl
end
/-! ### Laying, equation by equation -/
section
variable {P : Program} {τ : Fr} {H : za0} {sh : List (Nat × Nat)} {N r : Nat} {al : List Nat} {ρ : Operand → AV} {KX : AV → za0 → List (Nat × Nat) → Prop} {K : AV → za0 → Prop} {t : TypeId}
theorem zge (H : za0) (o : AObj) : (H ++ [AObj.free]).set H.length o = H ++ [o] := by
  rw [List.set_append_right _ _ (Nat.le_refl _), Nat.sub_self]; rfl
theorem t_box {y : Operand} : (∃ x H', OpA P false H.length ρ (.box t y) (H ++ [.free]) [] x H' [] ∧ K x H') = ∃ cs, zec (ρ y) = some cs ∧ K (.op H.length 0) (H ++ [.cells cs]) := by
  refine propext ⟨?_, ?_⟩
  · rintro ⟨x, H', ⟨cs, h1, rfl, rfl, _⟩, h2⟩; rw [zge] at h2; exact ⟨cs, h1, h2⟩
  · rintro ⟨cs, h1, h2⟩; exact ⟨_, _, ⟨cs, h1, rfl, rfl, rfl⟩, by rw [zge]; exact h2⟩
theorem e_box {y : Operand} : LayK P N r al ρ (.box t y) H sh KX = (H[N + r]? = some .free ∧ shOk (N + r) sh ∧ ∃ cs, zec (ρ y) = some cs ∧ KX (.op (N + r) 0) (H.set (N + r) (.cells cs)) sh) := by
  refine propext ⟨?_, ?_⟩
  · rintro ⟨h1, h2, _, x, H', sh', ⟨cs, h3, rfl, rfl, rfl⟩, h4⟩; exact ⟨h1, (zgc _ _).2 h2, cs, h3, h4⟩
  · rintro ⟨h1, h2, cs, h3, h4⟩; exact ⟨h1, (zgc _ _).1 h2, trivial, _, _, _, ⟨cs, h3, rfl, rfl, rfl⟩, h4⟩
theorem t_alloc : (∃ x H', OpA P false H.length ρ (.alloc t) (H ++ [.free]) [] x H' [] ∧ K x H') = ∃ zs, zaO P t = some zs ∧ K (.op H.length 0) (H ++ [.cells (zs.map .d)]) := by
  refine propext ⟨?_, ?_⟩
  · rintro ⟨x, H', ⟨zs, h0, h1, rfl, rfl, _⟩, h2⟩; rw [zge] at h2; exact ⟨zs, by unfold zaO; rw [h0]; simp only; rw [if_pos h1], h2⟩
  · rintro ⟨zs, h1, h2⟩; obtain ⟨h3, h4⟩ := zvt h1; exact ⟨_, _, ⟨zs, h3, h4, rfl, rfl, rfl⟩, by rw [zge]; exact h2⟩
theorem e_alloc : LayK P N r al ρ (.alloc t) H sh KX = (H[N + r]? = some .free ∧ shOk (N + r) sh ∧ ∃ zs, zaO P t = some zs ∧ KX (.op (N + r) 0) (H.set (N + r) (.cells (zs.map .d))) sh) := by
  refine propext ⟨?_, ?_⟩
  · rintro ⟨h1, h2, _, x, H', sh', ⟨zs, h5, h3, rfl, rfl, rfl⟩, h4⟩; exact ⟨h1, (zgc _ _).2 h2, zs, by unfold zaO; rw [h5]; simp only; rw [if_pos h3], h4⟩
  · rintro ⟨h1, h2, zs, h3, h4⟩; obtain ⟨h5, h6⟩ := zvt h3; exact ⟨h1, (zgc _ _).1 h2, trivial, _, _, _, ⟨zs, h5, h6, rfl, rfl, rfl⟩, h4⟩
def MakeK (P : Program) (t : TypeId) (y z : AV) (KK : Nat → Nat → List AV → Prop) : Prop := ∃ (q : Nat × List D × Nat) (k1 k2 : IntKind) (n m : Int), mkO P t = some q ∧ y = .d (.val (.int k1 n)) ∧ z = .d (.val (.int k2 m)) ∧ 0 ≤ n ∧ n ≤ m ∧ m ≤ maxLen ∧ q.2.2 * m.toNat ≤ 281474976710656 ∧ KK q.1 n.toNat (reps n.toNat q.2.1)
theorem make_opA {dr : Bool} {nid : Nat} {y z : Operand} {x : AV} {H' : za0} {sh' : List (Nat × Nat)} : OpA P dr nid ρ (.makeSlice t y z) H sh x H' sh' ↔ MakeK P t (ρ y) (ρ z) fun s n l => x = .os s nid 0 n ∧ H' = H.set nid (.cells l) ∧ sh' = sh := by
  constructor
  · rintro ⟨e, s, zs, bts, k1, k2, n, m, he, hz, hl, h0, h1, hby, h2, h3, h4, h5, h6, h7, h8, h9, h10⟩
    exact ⟨(s, zs, bts), k1, k2, n, m, by unfold mkO; rw [he]; simp only; rw [hz, hby]; simp only; rw [if_pos ⟨hl, h0, h1⟩], h2, h3, h4, h5, h6, h7, h8, h9, h10⟩
  · rintro ⟨⟨s, zs, bts⟩, k1, k2, n, m, hq, h2, h3, h4, h5, h6, h7, h8, h9, h10⟩
    obtain ⟨e, he, hz, hby, hl, h0, h1⟩ := zko hq
    exact ⟨e, s, zs, bts, k1, k2, n, m, he, hz, hl, h0, h1, hby, h2, h3, h4, h5, h6, h7, h8, h9, h10⟩
theorem t_make {y z : Operand} : (∃ x H', OpA P false H.length ρ (.makeSlice t y z) (H ++ [.free]) [] x H' [] ∧ K x H') = MakeK P t (ρ y) (ρ z) fun s n l => K (.os s H.length 0 n) (H ++ [.cells l]) := by
  refine propext ⟨?_, ?_⟩
  · rintro ⟨x, H', h, h2⟩
    obtain ⟨q, k1, k2, n, m, h1, h3, h4, h5, h6, h7, h8, rfl, rfl, _⟩ := make_opA.1 h
    rw [zge] at h2
    exact ⟨q, k1, k2, n, m, h1, h3, h4, h5, h6, h7, h8, h2⟩
  · rintro ⟨q, k1, k2, n, m, h1, h3, h4, h5, h6, h7, h8, h9⟩
    exact ⟨_, _, make_opA.2 ⟨q, k1, k2, n, m, h1, h3, h4, h5, h6, h7, h8, rfl, rfl, rfl⟩, by rw [zge]; exact h9⟩
theorem e_make {y z : Operand} : LayK P N r al ρ (.makeSlice t y z) H sh KX = (H[N + r]? = some .free ∧ shOk (N + r) sh ∧ MakeK P t (ρ y) (ρ z) fun s n l => KX (.os s (N + r) 0 n) (H.set (N + r) (.cells l)) sh) := by
  refine propext ⟨?_, ?_⟩
  · rintro ⟨e1, e2, _, x, H', sh', h, h2⟩
    obtain ⟨q, k1, k2, n, m, h1, h3, h4, h5, h6, h7, h8, rfl, rfl, rfl⟩ := make_opA.1 h
    exact ⟨e1, (zgc _ _).2 e2, q, k1, k2, n, m, h1, h3, h4, h5, h6, h7, h8, h2⟩
  · rintro ⟨e1, e2, q, k1, k2, n, m, h1, h3, h4, h5, h6, h7, h8, h9⟩
    exact ⟨e1, (zgc _ _).1 e2, trivial, _, _, _, make_opA.2 ⟨q, k1, k2, n, m, h1, h3, h4, h5, h6, h7, h8, rfl, rfl, rfl⟩, h9⟩
def BsK (P : Program) (t : TypeId) (len : Nat) (ps : List (Nat × AV)) (KK : Nat → List AV → Prop) : Prop := ∃ q, mkO P t = some q ∧ len * q.1 ≤ 16777216 ∧ ∃ cs, znj (fun i => some (i * q.1, q.1)) (reps len q.2.1) ps = some cs ∧ KK q.1 cs
theorem bs_opA {dr : Bool} {nid n : Nat} {ps : Array (Nat × Operand)} {x : AV} {H' : za0} {sh' : List (Nat × Nat)} (h : BsK P t n (ps.toList.map fun p => (p.1, ρ p.2)) fun s l => (x = .os s nid 0 n ∧ H' = H.set nid (.cells l) ∨ ∃ ds : List D, l = ds.map .d ∧ ds.length = n * s ∧ x = .d (.fs ds n) ∧ H' = H.set nid .dead) ∧ sh' = sh) : OpA P dr nid ρ (.buildSlice t n ps) H sh x H' sh' := by
  obtain ⟨⟨s, zs, bts⟩, hq, h2, cs, h3, h4⟩ := h
  obtain ⟨e, he, hz, hby, hl, h0, h1⟩ := zko hq
  exact ⟨e, s, zs, cs, he, hz, hl, h0, h1, h2, h3, h4⟩
theorem t_bs {n : Nat} {ps : Array (Nat × Operand)} (h : BsK P t n (ps.toList.map fun p => (p.1, ρ p.2)) fun s l => K (.os s H.length 0 n) (H ++ [.cells l])) : ∃ x H', OpA P false H.length ρ (.buildSlice t n ps) (H ++ [.free]) [] x H' [] ∧ K x H' := by
  obtain ⟨q, h1, h3, cs, h4, h5⟩ := h
  exact ⟨_, _, bs_opA ⟨q, h1, h3, cs, h4, .inl ⟨rfl, rfl⟩, rfl⟩, by rw [zge]; exact h5⟩
theorem e_bs {n : Nat} {ps : Array (Nat × Operand)} (h : H[N + r]? = some .free ∧ shOk (N + r) sh ∧ BsK P t n (ps.toList.map fun p => (p.1, ρ p.2)) fun s l => KX (.os s (N + r) 0 n) (H.set (N + r) (.cells l)) sh) : LayK P N r al ρ (.buildSlice t n ps) H sh KX := by
  obtain ⟨e1, e2, q, h1, h3, cs, h4, h5⟩ := h
  exact ⟨e1, (zgc _ _).1 e2, trivial, _, _, _, bs_opA ⟨q, h1, h3, cs, h4, .inl ⟨rfl, rfl⟩, rfl⟩, h5⟩
theorem e_bsz {n : Nat} {ps : Array (Nat × Operand)} (h : H[N + r]? = some .free ∧ shOk (N + r) sh ∧ BsK P t n (ps.toList.map fun p => (p.1, ρ p.2)) fun s l => ∃ ds : List D, l = ds.map .d ∧ ds.length = n * s ∧ KX (.d (.fs ds n)) (H.set (N + r) .dead) sh) : LayK P N r al ρ (.buildSlice t n ps) H sh KX := by
  obtain ⟨e1, e2, q, h1, h3, cs, h4, ds, h5, h6, h7⟩ := h
  exact ⟨e1, (zgc _ _).1 e2, trivial, _, _, _, bs_opA ⟨q, h1, h3, cs, h4, .inr ⟨ds, h5, h6, rfl, rfl⟩, rfl⟩, h7⟩
/-- What an append gives: base of k cells an element, n elements; m more. -/
def SrcK (H : za0) (k : Nat) (src : AV) (G : Nat → List AV → Prop) : Prop := ∃ m l, SrcA H k src m l ∧ G m l
def AppT (P : Program) (t : TypeId) (base src : AV) (H : za0) (K : AV → za0 → Prop) : Prop :=
  match base with
  | .os k id off n => ∃ q, mkO P t = some q ∧ k = q.1 ∧ ∃ cs, H[id]? = some (.cells cs) ∧ off + n * k = cs.length ∧ SrcK H k src fun m l => n + m ≤ 9223372036854775807 ∧ (n + m) * q.2.2 ≤ 140737488355328 ∧ K (.os k H.length 0 (n + m)) (H.set id .dead ++ [.cells (cs.drop off ++ l)])
  | .d (.val (.slice none 0 0)) => ∃ q, mkO P t = some q ∧ SrcK H q.1 src fun m l => m ≤ 9223372036854775807 ∧ m * q.2.2 ≤ 140737488355328 ∧ K (.os q.1 H.length 0 m) (H ++ [.cells l])
  | _ => False
def AppE (P : Program) (N r : Nat) (al : List Nat) (t : TypeId) (base src : AV) (H : za0) (sh : List (Nat × Nat)) (KX : AV → za0 → List (Nat × Nat) → Prop) : Prop :=
  H[N + r]? = some .free ∧ shOk (N + r) sh ∧ zh6 N al base = true ∧ zh6 N al src = true ∧ match base with
  | .os k id off n => ∃ q, mkO P t = some q ∧ k = q.1 ∧ ∃ cs, H[id]? = some (.cells cs) ∧ off + n * k = cs.length ∧ (∀ p ∈ sh, p.2 ≠ id) ∧ SrcK H k src fun m l => n + m ≤ 9223372036854775807 ∧ (n + m) * q.2.2 ≤ 140737488355328 ∧ KX (.os k (N + r) 0 (n + m)) (H.set (N + r) (.cells (cs.drop off ++ l))) (zjr sh id (N + r))
  | .d (.val (.slice none 0 0)) => ∃ q, mkO P t = some q ∧ SrcK H q.1 src fun m l => m ≤ 9223372036854775807 ∧ m * q.2.2 ≤ 140737488355328 ∧ KX (.os q.1 (N + r) 0 m) (H.set (N + r) (.cells l)) sh
  | _ => False
theorem e_app {s y : Operand} {t' : TypeId} (ht : t' = t) : AppE P N r al t (ρ s) (ρ y) H sh KX → LayK P N r al ρ (.call ⟨.builtin .append, #[s, y], #[t, t']⟩) H sh KX := by
  subst ht
  rintro ⟨h1, h2, hb1, hb2, h3⟩
  refine ⟨h1, (zgc _ _).1 h2, fun z hz => ?_, ?_⟩
  · simp only [List.mem_cons, List.not_mem_nil, or_false] at hz
    rcases hz with rfl | rfl
    · exact hb1
    · exact hb2
  · split at h3
    · rename_i k id off n e
      obtain ⟨⟨s', zs, bts⟩, hq, rfl, cs, h4, h5, h6, m, l, h7, h8, h9, h10⟩ := h3
      obtain ⟨e', he, hz, hby, hl, h0, h1'⟩ := zko hq
      exact ⟨_, _, _, ⟨rfl, e', _, zs, bts, m, l, he, hz, hl, hby, h7, by rw [e]; exact ⟨cs, rfl, h4, h5, by unfold maxLen; omega, h9, rfl, h6, rfl, rfl⟩⟩, h10⟩
    · rename_i e
      obtain ⟨⟨s', zs, bts⟩, hq, m, l, h7, h8, h9, h10⟩ := h3
      obtain ⟨e', he, hz, hby, hl, h0, h1'⟩ := zko hq
      exact ⟨_, _, _, ⟨rfl, e', s', zs, bts, m, l, he, hz, hl, hby, h7, by rw [e]; exact ⟨by unfold maxLen; omega, h9, rfl, rfl, rfl⟩⟩, h10⟩
    · exact h3.elim
theorem zvz {k m : Nat} {src : AV} {l : List AV} (h : SrcA H k src m l) : SrcA (H ++ [.free]) k src m l := by
  unfold SrcA at h ⊢
  split at h
  · exact h
  · obtain ⟨h1, cs, h2, h3⟩ := h
    exact ⟨h1, cs, by rw [List.getElem?_append_left (List.getElem?_eq_some_iff.1 h2).1]; exact h2, h3⟩
  · exact h
  · exact h
theorem t_app {s y : Operand} {t' : TypeId} (ht : t' = t) : AppT P t (ρ s) (ρ y) H K → ∃ x H', OpA P false H.length ρ (.call ⟨.builtin .append, #[s, y], #[t, t']⟩) (H ++ [.free]) [] x H' [] ∧ K x H' := by
  subst ht
  intro h3
  unfold AppT at h3
  split at h3
  · rename_i k id off n e
    obtain ⟨⟨s', zs, bts⟩, hq, rfl, cs, h4, h5, m, l, h7, h8, h9, h10⟩ := h3
    obtain ⟨e', he, hz, hby, hl, h0, h1'⟩ := zko hq
    have hlt := (List.getElem?_eq_some_iff.1 h4).1
    refine ⟨_, _, ⟨rfl, e', _, zs, bts, m, l, he, hz, hl, hby, zvz h7, by rw [e]; exact ⟨cs, rfl, by rw [List.getElem?_append_left hlt]; exact h4, h5, by unfold maxLen; omega, h9, rfl, rfl, rfl, rfl⟩⟩, ?_⟩
    rw [zge, List.set_append_left _ _ hlt]; exact h10
  · rename_i e
    obtain ⟨⟨s', zs, bts⟩, hq, m, l, h7, h8, h9, h10⟩ := h3
    obtain ⟨e', he, hz, hby, hl, h0, h1'⟩ := zko hq
    refine ⟨_, _, ⟨rfl, e', s', zs, bts, m, l, he, hz, hl, hby, zvz h7, by rw [e]; exact ⟨by unfold maxLen; omega, h9, rfl, rfl, rfl⟩⟩, ?_⟩
    rw [zge]; exact h10
  · exact h3.elim
variable {KA : AV → Prop} {cs : List AV}
/-- A call, by its contract. -/
theorem call_by {N : Nat} {f : FuncId} {args : List AV} {ds : List D} {x : AV} (hp : zce P f ds x) (hd : AV.toD.toDs args = some ds) (hK : KA x) : ∃ x, zuc P N H (.d (.val (.func (.func f) #[] #[]))) args x ∧ KA x :=
  ⟨x, ⟨f, [], [], ds, rfl, .inl ⟨.inl (by simpa using hd), hp⟩⟩, hK⟩
/-- A call with own slices among what it is handed, that returns a number or a bool. -/
theorem call_own {N : Nat} {f : FuncId} {args : List AV} {ds : List D} {v : Value} (hp : zce P f ds (.d (.val v))) (hd : zfs (zf0 H N) 9 args = some ds) (hK : KA (.d (.val v))) : ∃ x, zuc P N H (.d (.val (.func (.func f) #[] #[]))) args x ∧ KA x :=
  ⟨_, ⟨f, [], [], ds, rfl, .inl ⟨.inr ⟨rfl, by simpa using hd⟩, hp⟩⟩, hK⟩
/-- A call with own slices among what it is handed, whose result is new. -/
theorem call_new {N : Nat} {f : FuncId} {args : List AV} {ds : List D} {x : AV} (hp : NCalls P f ds x) (hd : zfs (zf0 H N) 9 args = some ds) (hK : KA x) : ∃ x, zuc P N H (.d (.val (.func (.func f) #[] #[]))) args x ∧ KA x :=
  ⟨_, ⟨f, [], [], ds, rfl, .inr ⟨by simpa using hd, hp⟩⟩, hK⟩
end
end Go.Proofs.Ytgfnpfchdlcoeaa

/- Of no program: small equations of appends; loose ends of the run. -/
set_option linter.unusedVariables false
set_option linter.unusedSimpArgs false
namespace Go.Proofs.Ytgfnpfchdlcoeaa
open Go Go.RowKit
section
variable {P : Program} {H : za0} {sh : List (Nat × Nat)} {N r : Nat} {al : List Nat} {t : TypeId} {src : AV} {K : AV → za0 → Prop} {KX : AV → za0 → List (Nat × Nat) → Prop}
end
end Go.Proofs.Ytgfnpfchdlcoeaa
