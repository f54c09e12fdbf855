/- Of no program: the abstract machine's append, at the state. -/
import Derived.Test.YtfpcailbobjfnaaA9
set_option linter.unusedVariables false
set_option linter.unusedSimpArgs false
namespace Go.Proofs.Ytfpcailbobjfnaa
open Go Go.RowKit
section
variable {P : Program} {c : Cx} {τ : Fr} {a : Act} {w w' : World} {pl pl' : List (Option (Nat × Nat))} {H : AHeap} {sh sh' : List (Nat × Nat)} {own : Nat → Prop}
/-- Which objects share a block behind an append onto object id, that makes object N. -/
def appSh (sh : List (Nat × Nat)) (id N : Nat) : List (Nat × Nat) := (N, id) :: (sh.filterMap (fun p => if p.1 = id then some (N, p.2) else none) ++ sh)
theorem mem_appSh {sh : List (Nat × Nat)} {id N i j : Nat} (h : (i, j) ∈ appSh sh id N) : (i = N ∧ j = id) ∨ (i = N ∧ (id, j) ∈ sh) ∨ (i, j) ∈ sh := by
  unfold appSh at h
  rcases List.mem_cons.1 h with h | h
  · cases h; exact .inl ⟨rfl, rfl⟩
  · rcases List.mem_append.1 h with h | h
    · obtain ⟨p, hp, hq⟩ := List.mem_filterMap.1 h
      split at hq
      · rename_i h1
        cases hq
        exact .inr (.inl ⟨rfl, h1 ▸ hp⟩)
      · cases hq
    · exact .inr (.inr h)
theorem appSh_old {sh : List (Nat × Nat)} {id N : Nat} {p : Nat × Nat} (h : p ∈ sh) : p ∈ appSh sh id N := List.mem_cons_of_mem _ (List.mem_append_right _ h)
theorem appSh_new {sh : List (Nat × Nat)} {id N j : Nat} (h : (id, j) ∈ sh) : (N, j) ∈ appSh sh id N :=
  List.mem_cons_of_mem _ (List.mem_append_left _ (List.mem_filterMap.2 ⟨(id, j), h, by simp⟩))
/-- More may share. -/
theorem RelS.shared (h : RelS c τ H sh pl a w) (hs : ∀ p ∈ sh, p ∈ sh') (hl : ∀ p, p ∈ sh' → p.1 < H.length ∧ p.2 < H.length) (hn : ∀ (i j : Nat) (oi oj : AObj) (p q : Nat × Nat), (i, j) ∈ sh' → (i, j) ∉ sh → H[i]? = some oi → H[j]? = some oj → oi.live = true → oj.live = true → pl[i]? = some (some p) → pl[j]? = some (some q) → p.1 ≠ q.1) : RelS c τ H sh' pl a w :=
  ⟨⟨h.h.len, h.h.obj, fun i j oi oj p q h1 h2 l1 l2 hne s1 s2 => h.h.dis i j oi oj p q h1 h2 l1 l2 hne (fun hm => s1 (hs _ hm)) (fun hm => s2 (hs _ hm)), h.h.ext, hl, fun i j ci cj p q hm h1 h2 p1 p2 hpq => by
    by_cases hin : (i, j) ∈ sh
    · exact h.h.shr i j ci cj p q hin h1 h2 p1 p2 hpq
    · exact absurd hpq (hn i j _ _ p q hm hin h1 h2 rfl rfl p1 p2)⟩, h.stp, h.own0, h.ext, h.fr, h.size, h.defs, h.keep⟩
/-- An object is given up. -/
theorem RelS.kill (h : RelS c τ H sh pl a w) (id : Nat) (hs : ∀ i j, (i, j) ∈ sh → i ≠ id → j ≠ id → (i, j) ∈ sh') (hs' : ∀ p ∈ sh', p ∈ sh) : RelS c τ (H.set id .dead) sh' pl a w := by
  have hlive : ∀ (i : Nat) (o : AObj), (H.set id .dead)[i]? = some o → o.live = true → i ≠ id ∧ H[i]? = some o := fun i o h1 l1 => by
    rcases set_cases h1 with ⟨_, rfl, _⟩ | h1
    · cases l1
    · exact h1
  have hown : ∀ b, ownB c.E (H.set id .dead) pl b → ownB c.E H pl b := fun b hb => by
    rcases hb with hb | ⟨i, o, e, h1, h2, h3⟩
    · exact .inl hb
    · exact .inr ⟨i, o, e, (hlive i o h1 h2).2, h2, h3⟩
  have hmono : ∀ x v, Rd w pl (ownB c.E H pl) x v → Rd w pl (ownB c.E (H.set id .dead) pl) x v := fun x v hx => hx.mono (Nat.le_refl _) (fun _ _ _ => rfl) (fun b _ hb => hown b hb) (fun _ _ h => h) (fun _ _ h => h)
  refine ⟨⟨by simp [h.h.len], fun i o hi => ?_, fun i j oi oj p q h1 h2 l1 l2 hne s1 s2 p1 p2 => ?_, fun i o p h1 l1 p1 => h.h.ext i o p (hlive i o h1 l1).2 l1 p1, fun p hp => by have := h.h.shl p (hs' p hp); simpa using this, fun i j ci cj p q hm h1 h2 p1 p2 hpq => ?_⟩, h.stp, fun i o p h1 l1 p1 => h.own0 i o p (hlive i o h1 l1).2 l1 p1, h.ext, fun t => hmono _ _ (h.fr t), h.size, h.defs, h.keep⟩
  · rcases set_cases hi with ⟨_, rfl, _⟩ | ⟨_, hi⟩
    · trivial
    · exact (h.h.obj i o hi).mono (Nat.le_refl _) (fun _ _ _ => rfl) (fun b _ hb => hown b hb) (fun _ _ h => h) (fun _ _ h => h) (fun h => h) (fun _ _ _ _ => rfl)
  · obtain ⟨a1, a2⟩ := hlive i oi h1 l1
    obtain ⟨b1, b2⟩ := hlive j oj h2 l2
    exact h.h.dis i j oi oj p q a2 b2 l1 l2 hne (fun hm => s1 (hs _ _ hm a1 b1)) (fun hm => s2 (hs _ _ hm b1 a1)) p1 p2
  · exact h.h.shr i j ci cj p q (hs' _ hm) (hlive i _ h1 rfl).2 (hlive j _ h2 rfl).2 p1 p2 hpq
/-- An append in place: the row grows behind object id; a new object lies over it. -/
theorem RelS.extend (h : RelS c τ H sh pl a w) {n : Nat} (hn : H[n]? = some .free) (hsn : ∀ p ∈ sh, p.1 ≠ n ∧ p.2 ≠ n) {id : Nat} {cs cs' : List AV} (hid : H[id]? = some (.cells cs)) (hsh : ∀ p ∈ sh, p.2 ≠ id) {b base off : Nat} {arr arr' : Array Value} {t : TypeId} (hp : pl[id]? = some (some (b, base))) (hg : w.heap[b]? = some (.cells arr t (0, 0)))
    (hsz : arr'.size = arr.size) (hkeep : ∀ k, k < base + cs.length → arr'.getD k undef = arr.getD k undef) (hr : RowRd w pl (ownB c.E H pl) arr' (base + off) cs') (hge : base + cs.length ≤ base + off + cs'.length) :
    RelS c τ (H.set n (.cells cs')) (appSh sh id n) (pl.set n (some (b, base + off))) a (w.setRow b arr') := by
  have hp0 := h.h.free_place hn
  have hstp : Stp (ownL H pl) w (w.setRow b arr') := ⟨rfl, rfl, rfl, by simp, fun k hk hn => setRow_other w b k arr' (fun e => hn (e ▸ ⟨id, _, base, hid, rfl, hp⟩)), setRow_shape w b arr arr' t hg hsz⟩
  have hplace := fun i oo p h1 h2 => h.h.place (n := n) (o := .cells cs') (q := some (b, base + off)) i oo p h1 h2
  have hown : ∀ k, ownB c.E (H.set n (.cells cs')) (pl.set n (some (b, base + off))) k → ownB c.E H pl k := fun k hk => by
    rcases hk with hk | ⟨i, o, e, h1, h2, h3⟩
    · exact .inl hk
    · rcases hplace i o _ h1 h3 with ⟨_, k1, k2⟩ | ⟨_, _, k⟩
      · exact .inr ⟨i, o, e, k1, h2, k2⟩
      · cases k; exact .inr ⟨id, _, base, hid, rfl, hp⟩
  have hmono : ∀ x v, Rd w pl (ownB c.E H pl) x v → Rd (w.setRow b arr') (pl.set n (some (b, base + off))) (ownB c.E (H.set n (.cells cs')) (pl.set n (some (b, base + off)))) x v := fun x v hx =>
    hx.mono (by simp) (fun k hk hn => hstp.block k hk (fun hl => hn (.inr hl))) (fun k _ hk => hown k hk) hstp.shape (pl_set hp0)
  have hidn : id ≠ n := fun e => by rw [e, hn] at hid; cases hid
  -- an object in the same block shares it
  have hsame : ∀ (k : Nat) (o : AObj) (p : Nat × Nat), H[k]? = some o → o.live = true → k ≠ id → pl[k]? = some (some p) → p.1 = b → (id, k) ∈ sh := fun k o p h1 l1 hne p1 hb => by
    by_cases hin : (id, k) ∈ sh
    · exact hin
    · have := h.h.dis k id o _ p _ h1 hid l1 rfl hne (fun hm => (hsh _ hm) rfl) hin p1 hp
      exact absurd hb this
  refine h.step hstp (pl_set hp0) (fun k hk => ?_) ⟨by simp [h.h.len], fun i o hi => ?_, fun i j oi oj p q h1 h2 l1 l2 hne s1 s2 p1 p2 => ?_, fun i o p h1 l1 p1 => ?_, fun p hp => ?_, fun i j ci cj p q hm h1 h2 p1 p2 hpq => ?_⟩
  · obtain ⟨i, o, e, h1, h2, h3⟩ := hk
    rcases hplace i o _ h1 h3 with ⟨_, k1, k2⟩ | ⟨_, _, k⟩
    · exact .inl ⟨i, o, e, k1, h2, k2⟩
    · cases k; exact .inl ⟨id, _, base, hid, rfl, hp⟩
  · rcases set_cases hi with ⟨rfl, rfl, _⟩ | ⟨hine, hi⟩
    · exact .inr ⟨b, base + off, arr', t, place_new h hn _, setRow_heap w b arr arr' t _ hg, hr.1, fun j x hj => ⟨hmono _ _ (hr.2 j x hj).1, (hr.2 j x hj).2⟩⟩
    · by_cases hbk : ∃ e, pl[i]? = some (some (b, e)) ∧ o.live = true
      · obtain ⟨e, he, hl⟩ := hbk
        have hle : ∀ ck, o = .cells ck → e + ck.length ≤ base + cs.length := fun ck hck => by
          by_cases hii : i = id
          · subst hii; rw [hid] at hi; rw [hp] at he; cases hi; cases he; cases hck; exact Nat.le_refl _
          · have := hsame i o _ hi hl hii he rfl
            exact h.h.shr id i cs ck _ _ this hid (hck ▸ hi) hp he rfl
        cases o with
        | free => cases hl
        | dead => cases hl
        | cells ck =>
          rcases h.h.obj i _ hi with ⟨k1, k2⟩ | ⟨b', base', arr0, t', k1, k2, k3, k4⟩
          · rw [he] at k2; cases k2
          · rw [he] at k1; cases k1
            rw [hg] at k2; cases k2
            have hle' := hle ck rfl
            refine .inr ⟨b, e, arr', t, pl_set hp0 _ _ he, setRow_heap w b arr arr' t _ hg, by rw [hsz]; exact k3, fun j x hj => ?_⟩
            have hj' := (List.getElem?_eq_some_iff.1 hj).1
            rw [hkeep _ (by omega)]
            exact ⟨hmono _ _ (k4 j x hj).1, (k4 j x hj).2⟩
        | map es clock =>
          obtain ⟨b', base', ms, k1, k2, _⟩ := h.h.obj i _ hi
          rw [he] at k1; cases k1
          rw [hg] at k2; cases k2
      · refine (h.h.obj i o hi).mono (by simp) (fun k hk hn => hstp.block k hk (fun hl => hn (.inr hl))) (fun k _ hk => hown k hk) hstp.shape (pl_set hp0) (fun hh => by rw [set_ne hine]; exact hh) (fun hl b' e hb' => setRow_other w b b' arr' fun hb => hbk ⟨e, hb ▸ hb', hl⟩)
  · rcases hplace i oi p h1 p1 with ⟨a0, a1, a2⟩ | ⟨a0, a1, a2⟩ <;> rcases hplace j oj q h2 p2 with ⟨b0, b1, b2⟩ | ⟨b0, b1, b2⟩
    · exact h.h.dis i j oi oj p q a1 b1 l1 l2 hne (fun hm => s1 (appSh_old hm)) (fun hm => s2 (appSh_old hm)) a2 b2
    · subst b0; cases b2
      intro hpq
      by_cases hii : i = id
      · subst hii; exact s2 (List.mem_cons_self)
      · exact s2 (appSh_new (hsame i oi p a1 l1 hii a2 hpq))
    · subst a0; cases a2
      intro hpq
      by_cases hii : j = id
      · subst hii; exact s1 (List.mem_cons_self)
      · exact s1 (appSh_new (hsame j oj q b1 l2 hii b2 hpq.symm))
    · omega
  · rcases hplace i o p h1 p1 with ⟨a0, a1, a2⟩ | ⟨a0, a1, a2⟩
    · exact h.h.ext i o p a1 l1 a2
    · cases a2; exact fun he => h.h.ext id _ _ hid rfl hp he
  · obtain ⟨i, j⟩ := p
    rw [List.length_set]
    have l1 := (List.getElem?_eq_some_iff.1 hn).1
    have l2 := (List.getElem?_eq_some_iff.1 hid).1
    rcases mem_appSh hp with ⟨k1, k2⟩ | ⟨k1, k2⟩ | k
    · simp only; omega
    · have := (h.h.shl _ k2).2; simp only at this ⊢; omega
    · exact h.h.shl _ k
  · rcases hplace i _ p h1 p1 with ⟨a0, a1, a2⟩ | ⟨a0, a1, a2⟩ <;> rcases hplace j _ q h2 p2 with ⟨b0, b1, b2⟩ | ⟨b0, b1, b2⟩
    · rcases mem_appSh hm with ⟨k, _⟩ | ⟨k, _⟩ | hm
      · exact absurd k a0
      · exact absurd k a0
      · exact h.h.shr i j ci cj p q hm a1 b1 a2 b2 hpq
    · rcases mem_appSh hm with ⟨k, _⟩ | ⟨k, _⟩ | hm
      · exact absurd k a0
      · exact absurd k a0
      · exact absurd b0 (hsn _ hm).2
    · cases a1; cases a2
      rcases mem_appSh hm with ⟨_, k⟩ | ⟨_, k⟩ | hm'
      · subst k; rw [hid] at b1; rw [hp] at b2; cases b1; cases b2; exact hge
      · have := h.h.shr id j cs cj _ q k hid b1 hp b2 hpq
        simp only at this ⊢; omega
      · exact absurd a0 (hsn _ hm').1
    · cases a1; cases b1; cases a2; cases b2; omega
end
end Go.Proofs.Ytfpcailbobjfnaa
