/- Of no program: the abstract machine's append, at the operation. -/
import Derived.Test.YtfpcailbobjfnaaA10
set_option linter.unusedVariables false
set_option linter.unusedSimpArgs false
namespace Go.Proofs.Ytfpcailbobjfnaa
open Go Go.RowKit
section
variable {P : Program} {c : Cx} {τ : Fr} {a : Act} {w w' : World} {pl pl' : List (Option (Nat × Nat))} {H : AHeap} {sh sh' : List (Nat × Nat)} {own : Nat → Prop}
theorem splice_getD (arr : Array Value) (p : Nat) (news : List Value) (h : p + news.length ≤ arr.size) (k : Nat) :
    (arr.toList.take p ++ news ++ arr.toList.drop (p + news.length)).toArray.getD k undef = if p ≤ k ∧ k < p + news.length then news.getD (k - p) undef else arr.getD k undef := by
  rw [Array.getD_eq_getD_getElem?, List.getElem?_toArray]
  have hlt : (arr.toList.take p).length = p := by simp; omega
  by_cases h1 : k < p
  · rw [if_neg (by omega), List.append_assoc, List.getElem?_append_left (by omega), List.getElem?_take_of_lt h1, Array.getD_eq_getD_getElem?, Array.getElem?_toList]
  · by_cases h2 : k < p + news.length
    · rw [if_pos (by omega), List.append_assoc, List.getElem?_append_right (by omega), hlt, List.getElem?_append_left (by omega), List.getD_eq_getElem?_getD]
    · rw [if_neg (by omega), List.getElem?_append_right (by simp; omega), List.length_append, hlt, List.getElem?_drop, Array.getD_eq_getD_getElem?, Array.getElem?_toList, show p + news.length + (k - (p + news.length)) = k by omega]
theorem RelS.drew (h : RelS c τ H sh pl a w) : RelS c τ H sh pl a w.drew :=
  h.step (Stp.drew _ _) (fun _ _ h => h) (fun _ hb => .inl hb) ⟨h.h.len, fun id o ho => (h.h.obj id o ho).mono (Nat.le_refl _) (fun _ _ _ => rfl) (fun _ _ h => h) (fun _ _ h => h) (fun _ _ h => h) (fun h => h) (fun _ _ _ _ => rfl), h.h.dis, h.h.ext, h.h.shl, h.h.shr⟩
theorem Rd.drew {x : AV} {v : Value} (h : Rd w pl own x v) : Rd w.drew pl own x v := h.mono (Nat.le_refl _) (fun _ _ _ => rfl) (fun _ _ h => h) (fun _ _ h => h) (fun _ _ h => h)
/-- An object without cells, that lies nowhere. -/
theorem RelS.nowhere (h : RelS c τ H sh pl a w) {n : Nat} (hn : H[n]? = some .free) (hsn : ∀ p ∈ sh, p.1 ≠ n ∧ p.2 ≠ n) : RelS c τ (H.set n (.cells [])) sh pl a w := by
  have hp0 := h.h.free_place hn
  have hback : ∀ (i : Nat) (oo : AObj) (p : Nat × Nat), (H.set n (.cells []))[i]? = some oo → pl[i]? = some (some p) → i ≠ n ∧ H[i]? = some oo := fun i oo p h1 h2 => by
    rcases set_cases h1 with ⟨k, _⟩ | h1
    · rw [k, hp0] at h2; cases h2
    · exact h1
  have hown : ∀ k, ownB c.E (H.set n (.cells [])) pl k → ownB c.E H pl k := fun k hk => by
    rcases hk with hk | ⟨i, o, e, h1, h2, h3⟩
    · exact .inl hk
    · exact .inr ⟨i, o, e, (hback i o _ h1 h3).2, h2, h3⟩
  refine h.step (Stp.refl _ _) (fun _ _ h => h) (fun b hb => ?_) ⟨by simp [h.h.len], fun i o hi => ?_, fun i j oi oj p q h1 h2 l1 l2 hne s1 s2 p1 p2 => h.h.dis i j oi oj p q (hback i oi p h1 p1).2 (hback j oj q h2 p2).2 l1 l2 hne s1 s2 p1 p2, fun i o p h1 l1 p1 => h.h.ext i o p (hback i o p h1 p1).2 l1 p1, fun p hp => by have := h.h.shl p hp; simpa using this,
    fun i j ci cj p q hm h1 h2 p1 p2 hpq => h.h.shr i j ci cj p q hm (hback i _ p h1 p1).2 (hback j _ q h2 p2).2 p1 p2 hpq⟩
  · obtain ⟨i, o, e, h1, h2, h3⟩ := hb
    exact .inl ⟨i, o, e, (hback i o _ h1 h3).2, h2, h3⟩
  · rcases set_cases hi with ⟨rfl, rfl, _⟩ | ⟨_, hi⟩
    · exact .inl ⟨rfl, hp0⟩
    · exact (h.h.obj i o hi).mono (Nat.le_refl _) (fun _ _ _ => rfl) (fun b _ hb => hown b hb) (fun _ _ h => h) (fun _ _ h => h) (fun h => h) (fun _ _ _ _ => rfl)
theorem RowRd.grown {olds news : List Value} {zeros : Array Value} {l1 l2 : List AV} (h1 : olds.length = l1.length) (r1 : ∀ j y, l1[j]? = some y → Rd w pl own y (olds.getD j undef) ∧ (olds.getD j undef).oneCell' = true)
    (h2 : news.length = l2.length) (r2 : ∀ j y, l2[j]? = some y → Rd w pl own y (news.getD j undef) ∧ (news.getD j undef).oneCell' = true) : RowRd w pl own (olds.toArray ++ news.toArray ++ zeros) 0 (l1 ++ l2) := by
  refine ⟨by simp; omega, fun j x hj => ?_⟩
  have hjl := (List.getElem?_eq_some_iff.1 hj).1
  rw [List.length_append] at hjl
  have e : (olds.toArray ++ news.toArray ++ zeros).getD (0 + j) undef = if j < olds.length then olds.getD j undef else news.getD (j - olds.length) undef := by
    rw [Nat.zero_add, Array.getD_eq_getD_getElem?, ← Array.getElem?_toList, Array.toList_append, Array.toList_append, List.getElem?_append_left (by simp; omega)]
    by_cases hlt : j < olds.length
    · rw [if_pos hlt, List.getElem?_append_left (by simpa using hlt), List.getD_eq_getElem?_getD]
    · rw [if_neg hlt, List.getElem?_append_right (by simpa using hlt), List.getD_eq_getElem?_getD]
  rw [e]
  by_cases hlt : j < olds.length
  · rw [if_pos hlt]
    rw [List.getElem?_append_left (by omega)] at hj
    exact r1 j x hj
  · rw [if_neg hlt]
    rw [List.getElem?_append_right (by omega)] at hj
    rw [h1]
    exact r2 _ x hj
/-- The way in which a new row is made. -/
theorem append_grown (h : RelS c τ H sh pl a w) {id' : Nat} (hn' : H[id']? = some .free) (hsn : ∀ p ∈ sh, p.1 ≠ id' ∧ p.2 ≠ id') {t ty e : TypeId} {s bts : Nat} (he : elO P t = some (none, e, s)) (hby : byO P e = some bts) {zs : List D} (hz : zcO P e = some zs) (hzs : zs.length = s)
    {base : Value} {ad : Option Addr} {n cap : Nat} (hbase : base = .slice ad n cap) {olds news : List Value} {l0 l : List AV} {x : Value} {m cp : Nat} {xa : Option Addr} (hx : x = .slice xa m cp)
    (ho : (Builtin.firstCells s n base).run P w.drew = .ok olds.toArray w.drew) (hf : (Builtin.firstCells s m x).run P w.drew = .ok news.toArray w.drew) (hol : olds.length = n * s) (hnl : news.length = m * s) (hl0 : l0.length = n * s) (hl : l.length = m * s)
    (r1 : ∀ j y, l0[j]? = some y → Rd w pl (ownB c.E H pl) y (olds.getD j undef) ∧ (olds.getD j undef).oneCell' = true) (r2 : ∀ j y, l[j]? = some y → Rd w pl (ownB c.E H pl) y (news.getD j undef) ∧ (news.getD j undef).oneCell' = true)
    (hg : ¬ n + m ≤ cap) (h63 : n + m ≤ maxLen) (hb : (n + m) * bts ≤ 140737488355328) :
    ∃ u w', (Builtin.append_ #[t, t] ty #[base, x]).run P w = .ok u w' ∧ Lays c τ a (H.set id' (.cells (l0 ++ l))) sh (.os s id' 0 (n + m)) u w' ∧ ∃ pl', RelS c τ (H.set id' (.cells (l0 ++ l))) sh (pl.set id' (some (w.heap.size, 0))) a w' ∧ pl' = pl.set id' (some (w.heap.size, 0)) ∧ Rd w' pl' (ownB c.E (H.set id' (.cells (l0 ++ l))) pl') (.os s id' 0 (n + m)) u := by
  obtain ⟨z, hzz, hrun⟩ := append_grow (P := P) (w := w) (ty := ty) he hby hz base ad n cap hbase x m cp xa hx olds.toArray news.toArray ho hf hg h63 hb
  have hrow : RowRd w.drew pl (ownB c.E H pl) (olds.toArray ++ news.toArray ++ Builtin.zeroCells z.cells (grownCap w (n + m) cap e - (n + m))) 0 (l0 ++ l) :=
    RowRd.grown (by omega) (fun j y hj => ⟨(r1 j y hj).1.drew, (r1 j y hj).2⟩) (by omega) (fun j y hj => ⟨(r2 j y hj).1.drew, (r2 j y hj).2⟩)
  have hS := h.drew.freshRow hn' hsn hrow e
  have hge := grownCap_ge w (n + m) cap e
  have hzl : z.cells.size = s := by rw [← hzs, ← hzz]; simp
  have hrd : Rd (w.drew.alloc (.cells (olds.toArray ++ news.toArray ++ Builtin.zeroCells z.cells (grownCap w (n + m) cap e - (n + m))) e)) (pl.set id' (some (w.heap.size, 0))) (ownB c.E (H.set id' (.cells (l0 ++ l))) (pl.set id' (some (w.heap.size, 0)))) (.os s id' 0 (n + m)) (.slice (some ⟨w.heap.size, 0, none⟩) (n + m) (grownCap w (n + m) cap e)) := by
    have hp : (pl.set id' (some (w.heap.size, 0)))[id']? = some (some (w.heap.size, 0)) := place_new h hn' _
    refine Rd.os s id' 0 (n + m) _ w.heap.size 0 (olds.toArray ++ news.toArray ++ Builtin.zeroCells z.cells (grownCap w (n + m) cap e - (n + m))).size e hp ?_ hge (grownCap_le_maxLen w _ _ e h63) ?_
    · unfold World.shape?
      have : (w.drew.alloc (.cells (olds.toArray ++ news.toArray ++ Builtin.zeroCells z.cells (grownCap w (n + m) cap e - (n + m))) e)).heap[w.heap.size]? = some (.cells (olds.toArray ++ news.toArray ++ Builtin.zeroCells z.cells (grownCap w (n + m) cap e - (n + m))) e) := heap_alloc_new w.drew _
      rw [this]
    · rw [Array.size_append, Array.size_append, size_zeroCells, hzl, List.size_toArray, List.size_toArray, hol, hnl, ← Nat.add_mul, ← Nat.add_mul]
      rw [show n + m + (grownCap w (n + m) cap e - (n + m)) = grownCap w (n + m) cap e by omega]
      omega
  exact ⟨_, _, hrun, ⟨_, hS, hrd⟩, _, hS, rfl, hrd⟩
theorem append_own (h : RelS c τ H sh pl a w) {id' : Nat} (hn' : H[id']? = some .free) (hsn : ∀ p ∈ sh, p.1 ≠ id' ∧ p.2 ≠ id') {t ty e : TypeId} {s bts : Nat} (he : elO P t = some (none, e, s)) (hby : byO P e = some bts) {zs : List D} (hz : zcO P e = some zs) (hzs : zs.length = s)
    {id off n : Nat} {cs : List AV} (hid : H[id]? = some (.cells cs)) (hend : off + n * s = cs.length) (hsh : ∀ p ∈ sh, p.2 ≠ id) {v : Value} (hv : Rd w pl (ownB c.E H pl) (.os s id off n) v)
    {xa : AV} {m : Nat} {l : List AV} (hsrc : Src H s xa m l) {x : Value} (hx : Rd w pl (ownB c.E H pl) xa x) (h63 : n + m ≤ maxLen) (hb : (n + m) * bts ≤ 140737488355328) :
    ∃ u w', (Builtin.append_ #[t, t] ty #[v, x]).run P w = .ok u w' ∧ Lays c τ a (H.set id' (.cells (cs.drop off ++ l))) (appSh sh id id') (.os s id' 0 (n + m)) u w' := by
  have ht : takeD cs off (n * s) = some (cs.drop off) := by
    unfold takeD; rw [if_pos (by omega), List.take_of_length_le (by rw [List.length_drop]; omega)]
  have hsb : Src H s (.os s id off n) n (cs.drop off) := .os id off n cs _ hid ht
  obtain ⟨ad, cap, olds, rfl, hol, r1, ho⟩ := hsb.get (P := P) h.h hv
  obtain ⟨xad, cp, news, rfl, hnl, r2, hf⟩ := hsrc.get (P := P) h.h hx
  have hidlt : id < H.length := (List.getElem?_eq_some_iff.1 hid).1
  have hidn : id ≠ id' := fun e => by rw [e, hn'] at hid; cases hid
  have hnlt : id' < H.length := (List.getElem?_eq_some_iff.1 hn').1
  have hbounds : ∀ p, p ∈ appSh sh id id' → p.1 < (H.set id' (AObj.cells (cs.drop off ++ l))).length ∧ p.2 < (H.set id' (AObj.cells (cs.drop off ++ l))).length := fun p hp => by
    obtain ⟨i, j⟩ := p
    rw [List.length_set]
    rcases mem_appSh hp with ⟨k1, k2⟩ | ⟨k1, k2⟩ | k
    · simp only; omega
    · have := (h.h.shl _ k2).2; simp only at this ⊢; omega
    · exact h.h.shl _ k
  by_cases hroom : n + m ≤ cap
  · cases hv with
    | os _ _ _ _ _ b base sz t' hp hshp hn hm hz' =>
      rcases h.h.obj _ _ hid with ⟨k1, k2⟩ | ⟨b', base', arr, t'', k1, k2, k3, k4⟩
      · rw [hp] at k2; cases k2
      · rw [hp] at k1; cases k1
        have hsz : sz = arr.size := by unfold World.shape? at hshp; rw [k2] at hshp; cases hshp; rfl
        have hcap : (n + m) * s ≤ cap * s := Nat.mul_le_mul_right _ hroom
        have hmul := Nat.add_mul n m s
        have hfit : base + cs.length + news.length ≤ arr.size := by omega
        have hst := run_storeCells_at P b (base + off + n * s) t'' news 0 arr w k2 (by omega) (fun u hu => by
          obtain ⟨j, hj, rfl⟩ := List.mem_iff_getElem.1 hu
          have := (r2 j _ (List.getElem?_eq_getElem (by have := hsrc.len; omega))).2
          simpa [List.getD_eq_getElem?_getD, hj] using this)
        simp only [Nat.add_zero] at hst
        rw [show base + off + n * s = base + cs.length by omega] at hst
        have hG := splice_getD arr (base + cs.length) news (by omega)
        refine ⟨_, _, append_room (P := P) he _ n cap _ m cp xad rfl news.toArray (hf w fun _ _ => rfl) hroom (fun a' ha' => ?_) (fun hn => by cases hn), pl.set id' (some (b, base + off)), h.extend hn' hsn hid hsh hp k2 (arr' := (arr.toList.take (base + cs.length) ++ news ++ arr.toList.drop (base + cs.length + news.length)).toArray) (by simp; omega) (fun k hk => by rw [hG, if_neg (by omega)]) ⟨?_, fun j y hj => ?_⟩ (by rw [List.length_append, List.length_drop]; omega), ?_⟩
        · cases ha'
          rw [add_eq, show base + off + n * s = base + cs.length by omega]
          exact hst
        · rw [List.length_append, List.length_drop, hsrc.len]; simp; omega
        · rw [hG]
          by_cases hjl : j < (cs.drop off).length
          · rw [List.getElem?_append_left hjl, List.getElem?_drop] at hj
            rw [List.length_drop] at hjl
            rw [if_neg (by omega), Nat.add_assoc]
            exact k4 _ _ hj
          · rw [List.getElem?_append_right (by omega)] at hj
            have hj2 := (List.getElem?_eq_some_iff.1 hj).1
            rw [List.length_drop] at hjl hj hj2
            have := hsrc.len
            rw [if_pos (by omega), show base + off + j - (base + cs.length) = j - (cs.length - off) by omega]
            exact r2 _ _ hj
        · have hpn : (pl.set id' (some (b, base + off)))[id']? = some (some (b, base + off)) := place_new h hn' _
          have := Rd.os (w := w.setRow b (arr.toList.take (base + cs.length) ++ news ++ arr.toList.drop (base + cs.length + news.length)).toArray) (own := ownB c.E (H.set id' (.cells (cs.drop off ++ l))) (pl.set id' (some (b, base + off)))) s id' 0 (n + m) cap b (base + off) sz t' hpn
            (setRow_shape w b arr _ t'' k2 (by simp; omega) _ _ hshp) hroom hm (by omega)
          simpa using this
    | os0 =>
      have hm0 : m = 0 := by omega
      subst hm0
      have hl0 : l = [] := List.eq_nil_of_length_eq_zero (by have := hsrc.len; simpa using this)
      subst hl0
      have hd : cs.drop off = [] := List.eq_nil_of_length_eq_zero (by rw [List.length_drop]; omega)
      have hn0 : news = [] := List.eq_nil_of_length_eq_zero (by simpa using hnl)
      subst hn0
      rw [hd] at hbounds ⊢
      refine ⟨_, w, append_room (P := P) he ad 0 0 _ 0 cp xad rfl #[] (hf w fun _ _ => rfl) (by omega) (fun a' _ => by simp [storeCells]) (fun _ => rfl), pl, ?_, .os0 _ _ _ _⟩
      refine (h.nowhere hn' hsn).shared (fun p hp => appSh_old hp) hbounds fun i j oi oj p q hm hnm h1 h2 l1 l2 p1 p2 => ?_
      rcases mem_appSh hm with ⟨k1, k2⟩ | ⟨k1, k2⟩ | k
      · rw [k1, h.h.free_place hn'] at p1; cases p1
      · rw [k1, h.h.free_place hn'] at p1; cases p1
      · exact absurd k hnm
  · obtain ⟨u, w', hrun, _, pl', hS, rfl, hrd⟩ := append_grown (ty := ty) h hn' hsn he hby hz hzs (l0 := cs.drop off) rfl rfl (ho w.drew fun _ _ => rfl) (hf w.drew fun _ _ => rfl) hol hnl (by rw [List.length_drop]; omega) hsrc.len r1 r2 hroom h63 hb
    refine ⟨u, w', hrun, _, hS.shared (fun p hp => appSh_old hp) hbounds (fun i j oi oj p q hm hnm h1 h2 l1 l2 p1 p2 => ?_), hrd⟩
    have hnew : ∀ (k : Nat) (o : AObj) (r : Nat × Nat), k ≠ id' → (H.set id' (.cells (cs.drop off ++ l)))[k]? = some o → o.live = true → (pl.set id' (some (w.heap.size, 0)))[k]? = some (some r) → r.1 < w.heap.size := fun k o r hk e1 e2 e3 => by
      rw [set_ne hk] at e1
      rw [set_ne hk] at e3
      exact h.h.block_lt e1 e2 e3
    rcases mem_appSh hm with ⟨k1, k2⟩ | ⟨k1, k2⟩ | k
    · rw [k1, place_new h hn' _] at p1; cases p1
      have := hnew j oj q (by rw [k2]; exact hidn) h2 l2 p2; simp only; omega
    · rw [k1, place_new h hn' _] at p1; cases p1
      have := hnew j oj q (hsn _ k2).2 h2 l2 p2; simp only; omega
    · exact absurd k hnm
theorem append_nil (h : RelS c τ H sh pl a w) {id' : Nat} (hn' : H[id']? = some .free) (hsn : ∀ p ∈ sh, p.1 ≠ id' ∧ p.2 ≠ id') {t ty e : TypeId} {s bts : Nat} (he : elO P t = some (none, e, s)) (hby : byO P e = some bts) {zs : List D} (hz : zcO P e = some zs) (hzs : zs.length = s)
    {xa : AV} {m : Nat} {l : List AV} (hsrc : Src H s xa m l) {x : Value} (hx : Rd w pl (ownB c.E H pl) xa x) (h63 : m ≤ maxLen) (hb : m * bts ≤ 140737488355328) :
    ∃ u w', (Builtin.append_ #[t, t] ty #[.slice none 0 0, x]).run P w = .ok u w' ∧ Lays c τ a (H.set id' (.cells l)) sh (.os s id' 0 m) u w' := by
  obtain ⟨xad, cp, news, rfl, hnl, r2, hf⟩ := hsrc.get (P := P) h.h hx
  by_cases hroom : 0 + m ≤ 0
  · have hm0 : m = 0 := by omega
    subst hm0
    have hl0 : l = [] := List.eq_nil_of_length_eq_zero (by have := hsrc.len; simpa using this)
    subst hl0
    have hn0 : news = [] := List.eq_nil_of_length_eq_zero (by simpa using hnl)
    subst hn0
    exact ⟨_, w, append_room (P := P) he none 0 0 _ 0 cp xad rfl #[] (hf w fun _ _ => rfl) (by omega) (fun a' ha => by cases ha) (fun _ => rfl), pl, h.nowhere hn' hsn, .os0 _ _ _ _⟩
  · obtain ⟨u, w', hrun, hL, _⟩ := append_grown (ty := ty) h hn' hsn he hby hz hzs (base := .slice none 0 0) (olds := []) (l0 := []) rfl rfl (by simp [Builtin.firstCells]) (hf w.drew fun _ _ => rfl) (by simp) hnl (by simp) hsrc.len (fun j y hj => by simp at hj) r2 hroom (by omega) (by rw [Nat.zero_add]; exact hb)
    rw [List.nil_append, Nat.zero_add] at hL
    exact ⟨u, w', hrun, hL⟩
end
end Go.Proofs.Ytfpcailbobjfnaa
