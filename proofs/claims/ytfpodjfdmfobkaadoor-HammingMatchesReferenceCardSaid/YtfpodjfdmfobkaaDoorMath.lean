/- Plain facts on numbers of 64 bits, of no program: linear maps over exclusive or, counting of ones, the extended code's word. -/
import Derived.Lib.TrailingZeros
namespace Go.Proofs.YtfpodjfdmfobkaaDoor
namespace Ham

/-- The number of ones below place n. -/
def ones (w : Nat) : Nat → Nat
  | 0 => 0
  | n + 1 => ones w n + (if w.testBit n then 1 else 0)

/-- The exclusive or of the places below n that hold a one. -/
def syn (w : Nat) : Nat → Nat
  | 0 => 0
  | n + 1 => if w.testBit n then syn w n ^^^ n else syn w n

/-- Bit i of w goes to place p, for each pair of the list. -/
def mv (l : List (Nat × Nat)) (w : Nat) : Nat := l.foldl (fun a x => if w.testBit x.1 then a ^^^ 2 ^ x.2 else a) 0

structure Lin (f : Nat → Nat) : Prop where
  zero : f 0 = 0
  add : ∀ a b, f (a ^^^ b) = f a ^^^ f b

theorem Lin.id : Lin (fun x => x) := ⟨rfl, fun _ _ => rfl⟩
theorem Lin.comp {f g : Nat → Nat} (hf : Lin f) (hg : Lin g) : Lin (fun x => f (g x)) := ⟨by rw [hg.zero, hf.zero], fun a b => by rw [hg.add, hf.add]⟩
theorem xlc (a b c : Nat) : a ^^^ (b ^^^ c) = b ^^^ (a ^^^ c) := by rw [← Nat.xor_assoc, Nat.xor_comm a b, Nat.xor_assoc]
theorem xcl (a b : Nat) : a ^^^ (a ^^^ b) = b := by rw [← Nat.xor_assoc, Nat.xor_self, Nat.zero_xor]
theorem xor4 (a b c d : Nat) : (a ^^^ b) ^^^ (c ^^^ d) = (a ^^^ c) ^^^ (b ^^^ d) := by
  rw [Nat.xor_assoc, Nat.xor_assoc, ← Nat.xor_assoc b c d, Nat.xor_comm b c, Nat.xor_assoc c b d]
theorem Lin.xor {f g : Nat → Nat} (hf : Lin f) (hg : Lin g) : Lin (fun x => f x ^^^ g x) := ⟨by rw [hf.zero, hg.zero]; rfl, fun a b => by rw [hf.add, hg.add, xor4]⟩

theorem mv_acc (l : List (Nat × Nat)) (w : Nat) : ∀ a, l.foldl (fun a x => if w.testBit x.1 then a ^^^ 2 ^ x.2 else a) a = a ^^^ mv l w := by
  unfold mv
  induction l with
  | nil => intro a; simp
  | cons x l ih =>
    intro a
    simp only [List.foldl_cons]
    rw [ih, ih (if w.testBit x.1 then 0 ^^^ 2 ^ x.2 else 0)]
    split
    · rw [Nat.zero_xor, Nat.xor_assoc]
    · rw [Nat.zero_xor]
theorem mv_nil (w : Nat) : mv [] w = 0 := rfl
theorem mv_cons (x : Nat × Nat) (l : List (Nat × Nat)) (w : Nat) : mv (x :: l) w = (if w.testBit x.1 then 2 ^ x.2 else 0) ^^^ mv l w := by
  show List.foldl _ _ _ = _
  rw [List.foldl_cons, mv_acc]
  congr 1
  split <;> simp
theorem mv_append (l m : List (Nat × Nat)) (w : Nat) : mv (l ++ m) w = mv l w ^^^ mv m w := by
  show List.foldl _ _ _ = _
  rw [List.foldl_append, mv_acc]; rfl
theorem mv_snoc (l : List (Nat × Nat)) (x : Nat × Nat) (w : Nat) : mv (l ++ [x]) w = mv l w ^^^ (if w.testBit x.1 then 2 ^ x.2 else 0) := by
  rw [mv_append, mv_cons, mv_nil, Nat.xor_zero]

theorem bit_lin (i p : Nat) : Lin (fun w => if w.testBit i then 2 ^ p else 0) :=
  ⟨by simp, fun a b => by simp only [Nat.testBit_xor]; cases a.testBit i <;> cases b.testBit i <;> simp⟩
theorem mv_lin (l : List (Nat × Nat)) : Lin (mv l) := by
  induction l with
  | nil => exact ⟨rfl, fun _ _ => by simp [mv_nil]⟩
  | cons x l ih =>
    have e : mv (x :: l) = fun w => (if w.testBit x.1 then 2 ^ x.2 else 0) ^^^ mv l w := funext fun w => mv_cons x l w
    rw [e]; exact (bit_lin x.1 x.2).xor ih
theorem syn_lin (n : Nat) : Lin (fun w => syn w n) := by
  induction n with
  | zero => exact ⟨rfl, fun _ _ => by simp [syn]⟩
  | succ n ih =>
    refine ⟨by simp only [syn, Nat.zero_testBit]; exact ih.zero, fun a b => ?_⟩
    have := ih.add a b
    simp only [syn, Nat.testBit_xor]
    rw [this]
    cases a.testBit n <;> cases b.testBit n <;> simp [Nat.xor_assoc, Nat.xor_comm, xlc, xcl]
theorem par_lin (n : Nat) : Lin (fun w => ones w n % 2) := by
  induction n with
  | zero => exact ⟨rfl, fun _ _ => by simp [ones]⟩
  | succ n ih =>
    have h0 := ih.zero
    refine ⟨by simp only [ones, Nat.zero_testBit]; simpa using h0, fun a b => ?_⟩
    have := ih.add a b
    have e : ∀ x y : Nat, (x % 2) ^^^ (y % 2) = (x + y) % 2 := by
      intro x y
      have hx : x % 2 = 0 ∨ x % 2 = 1 := by omega
      have hy : y % 2 = 0 ∨ y % 2 = 1 := by omega
      rcases hx with hx | hx <;> rcases hy with hy | hy <;> rw [hx, hy] <;> simp <;> omega
    simp only [ones, Nat.testBit_xor]
    rw [e] at this ⊢
    cases a.testBit n <;> cases b.testBit n <;> simp <;> omega

/-- Two linear maps that agree on the powers below 2^n agree below 2^n. -/
theorem lin_ext {f g : Nat → Nat} (hf : Lin f) (hg : Lin g) : ∀ (n : Nat), (∀ i, i < n → f (2 ^ i) = g (2 ^ i)) → ∀ w, w < 2 ^ n → f w = g w
  | 0, _, w, hw => by have : w = 0 := by simpa using hw
                      rw [this, hf.zero, hg.zero]
  | n + 1, h, w, hw => by
    have ih := lin_ext hf hg n (fun i hi => h i (by omega))
    by_cases hb : 2 ^ n ≤ w
    · have e : w = 2 ^ n ^^^ (w - 2 ^ n) := by
        have h1 : w - 2 ^ n < 2 ^ n := by rw [Nat.pow_succ] at hw; omega
        apply Nat.eq_of_testBit_eq
        intro i
        have e1 : w = 2 ^ n + (w - 2 ^ n) := by omega
        rw [Nat.testBit_xor]
        conv => lhs; rw [e1]
        by_cases hin : i < n
        · rw [Nat.testBit_two_pow_add_gt hin, Nat.testBit_two_pow]
          have : (n = i) = False := by simp; omega
          simp [this]
        · by_cases hie : i = n
          · subst hie
            rw [Nat.testBit_two_pow_add_eq, Nat.testBit_two_pow, Nat.testBit_lt_two_pow h1]; simp
          · have h2 : 2 ^ n + (w - 2 ^ n) < 2 ^ i := by
              have : 2 ^ (n + 1) ≤ 2 ^ i := Nat.pow_le_pow_right (by decide) (by omega)
              omega
            have h3 : w - 2 ^ n < 2 ^ i := by omega
            rw [Nat.testBit_lt_two_pow h2, Nat.testBit_lt_two_pow h3, Nat.testBit_two_pow]
            have : (n = i) = False := by simp; omega
            simp [this]
      rw [e, hf.add, hg.add, h n (by omega), ih (w - 2 ^ n) (by rw [Nat.pow_succ] at hw; omega)]
    · exact ih w (by omega)

theorem xor_lt {a b n : Nat} (ha : a < 2 ^ n) (hb : b < 2 ^ n) : a ^^^ b < 2 ^ n := Nat.xor_lt_two_pow ha hb

theorem mv_lt (l : List (Nat × Nat)) (n w : Nat) (h : ∀ x ∈ l, x.2 < n) : mv l w < 2 ^ n := by
  induction l with
  | nil => exact Nat.two_pow_pos n
  | cons x l ih =>
    rw [mv_cons]
    refine xor_lt ?_ (ih fun y hy => h y (List.mem_cons_of_mem _ hy))
    split
    · exact Nat.pow_lt_pow_right (by decide) (h x List.mem_cons_self)
    · exact Nat.two_pow_pos n

/-- A place that the list does not name stays empty. -/
theorem mv_bit_off (l : List (Nat × Nat)) (w p : Nat) (h : ∀ x ∈ l, x.2 ≠ p) : (mv l w).testBit p = false := by
  induction l with
  | nil => simp [mv_nil]
  | cons x l ih =>
    rw [mv_cons, Nat.testBit_xor, ih fun y hy => h y (List.mem_cons_of_mem _ hy)]
    have hx := h x List.mem_cons_self
    split
    · rw [Nat.testBit_two_pow]; simp [hx]
    · simp

/-- Where the bit is not set, or and exclusive or are one. -/
theorem or_two_pow (a p : Nat) (h : a.testBit p = false) : a ||| 2 ^ p = a ^^^ 2 ^ p := by
  apply Nat.eq_of_testBit_eq
  intro i
  rw [Nat.testBit_or, Nat.testBit_xor, Nat.testBit_two_pow]
  by_cases hi : p = i
  · subst hi; rw [h]; simp
  · simp [hi]

/-- Clearing the lowest one. -/
theorem clear_low (w : Nat) (h0 : w ≠ 0) (h : w < 2 ^ 64) : w &&& (w - 1) = w ^^^ 2 ^ Lib.ctz 64 w ∧ Lib.ctz 64 w < 64 := by
  obtain ⟨m, hm, hk⟩ := Lib.ctzFrom_spec 64 w (by omega) h
  have e : Lib.ctz 64 w = Lib.ctzFrom 64 w := by simp [Lib.ctz, h0]
  rw [e]
  refine ⟨?_, hk⟩
  generalize Lib.ctzFrom 64 w = k at *
  have hw : w = 2 ^ k * (2 * m) + 2 ^ k := by rw [hm, Nat.mul_add, Nat.mul_one]
  have hw1 : w - 1 = 2 ^ k * (2 * m) + (2 ^ k - 1) := by have := Nat.two_pow_pos k; omega
  apply Nat.eq_of_testBit_eq
  intro i
  have hlt : 2 ^ k - 1 < 2 ^ k := by have := Nat.two_pow_pos k; omega
  have t1 : (w - 1).testBit i = if i < k then true else (2 * m).testBit (i - k) := by
    rw [hw1, Nat.testBit_two_pow_mul_add _ hlt]
    split
    · rw [Nat.testBit_two_pow_sub_one]; simp [*]
    · rfl
  have t2 : w.testBit i = if i < k then false else (2 * m + 1).testBit (i - k) := by
    rw [hm, Nat.testBit_two_pow_mul]
    by_cases hik : i < k
    · have h2 : ¬ k ≤ i := by omega
      simp [hik, h2]
    · have h2 : k ≤ i := by omega
      simp [hik, h2]
  rw [Nat.testBit_and, Nat.testBit_xor, t1, t2, Nat.testBit_two_pow]
  by_cases hik : i < k
  · have : ¬ k = i := by omega
    simp only [hik, if_true, this, decide_false, Bool.false_and, Bool.xor_false]
  · by_cases hie : i = k
    · subst hie; simp
    · obtain ⟨j, hj⟩ : ∃ j, i - k = j + 1 := ⟨i - k - 1, by omega⟩
      have : ¬ k = i := fun h => hie h.symm
      simp only [hik, if_false, hj, Nat.testBit_succ, this, decide_false, Bool.xor_false]
      have e1 : (2 * m) / 2 = m := by omega
      have e2 : (2 * m + 1) / 2 = m := by omega
      rw [e1, e2, Bool.and_self]

theorem syn_two_pow (i n : Nat) : syn (2 ^ i) n = if i < n then i else 0 := by
  induction n with
  | zero => rfl
  | succ n ih =>
    simp only [syn, ih, Nat.testBit_two_pow, decide_eq_true_eq]
    by_cases h : i = n
    · subst h; simp
    · have : (i < n) = (i < n + 1) := by apply propext; omega
      simp [h, this]
theorem ones_two_pow (i n : Nat) : ones (2 ^ i) n = if i < n then 1 else 0 := by
  induction n with
  | zero => rfl
  | succ n ih =>
    simp only [ones, ih, Nat.testBit_two_pow, decide_eq_true_eq]
    by_cases h : i = n
    · subst h; simp
    · have : (i < n) = (i < n + 1) := by apply propext; omega
      simp [h, this]

theorem syn_lt (w n : Nat) (hn : n ≤ 64) : syn w n < 64 := by
  induction n with
  | zero => simp [syn]
  | succ n ih =>
    simp only [syn]
    split
    · exact xor_lt (n := 6) (ih (by omega)) (by omega)
    · exact ih (by omega)
theorem ones_le (w n : Nat) : ones w n ≤ n := by
  induction n with
  | zero => simp [ones]
  | succ n ih => simp only [ones]; split <;> omega

/-- syn, one lowest bit at a time. -/
theorem syn_clear (w : Nat) (h0 : w ≠ 0) (h : w < 2 ^ 64) : syn w 64 = Lib.ctz 64 w ^^^ syn (w &&& (w - 1)) 64 := by
  obtain ⟨e, hk⟩ := clear_low w h0 h
  rw [e]
  have := (syn_lin 64).add w (2 ^ Lib.ctz 64 w)
  rw [this, syn_two_pow, if_pos hk, Nat.xor_comm (syn w 64), ← Nat.xor_assoc, Nat.xor_self, Nat.zero_xor]
theorem clear_lt (w : Nat) (h0 : w ≠ 0) : w &&& (w - 1) < w := by
  have := @Nat.and_le_right w (w - 1); omega

/-! The count of ones by adding neighbours: each byte by itself. -/
theorem ones_add (x m : Nat) : ∀ n, ones x (m + n) = ones x m + ones (x / 2 ^ m) n
  | 0 => rfl
  | n + 1 => by
    show ones x (m + n) + (if x.testBit (m + n) then 1 else 0) = _
    rw [ones_add x m n]
    simp only [ones, Nat.testBit_div_two_pow, Nat.add_comm n m]
    omega
theorem ones_mod (x m : Nat) : ∀ n, n ≤ m → ones (x % 2 ^ m) n = ones x n
  | 0, _ => rfl
  | n + 1, h => by
    have : n < m := by omega
    simp only [ones, Nat.testBit_mod_two_pow, this, decide_true, Bool.true_and]
    rw [ones_mod x m n (by omega)]

def rep (c : Nat) : Nat → Nat
  | 0 => 0
  | k + 1 => 256 * rep c k + c
theorem and_step (x y c : Nat) (hc : c < 256) : x &&& (256 * y + c) = 256 * (x / 256 &&& y) + (x % 256 &&& c) := by
  have h := Nat.div_add_mod (x &&& (256 * y + c)) 256
  have e1 : (x &&& (256 * y + c)) / 256 = x / 256 &&& y := by
    have := @Nat.and_div_two_pow x (256 * y + c) 8
    rw [show (2 : Nat) ^ 8 = 256 from rfl] at this
    rw [this, show (256 * y + c) / 256 = y by omega]
  have e2 : (x &&& (256 * y + c)) % 256 = x % 256 &&& c := by
    have := @Nat.and_mod_two_pow x (256 * y + c) 8
    rw [show (2 : Nat) ^ 8 = 256 from rfl] at this
    rw [this, show (256 * y + c) % 256 = c by omega]
  omega
def p1 (k x : Nat) : Nat := (x / 2 &&& rep 85 k) + (x &&& rep 85 k)
def p2 (k x : Nat) : Nat := (x / 4 &&& rep 51 k) + (x &&& rep 51 k)
def p3 (k x : Nat) : Nat := (x / 16 + x) &&& rep 15 k
def s1 (r : Nat) : Nat := (r / 2 &&& 85) + (r &&& 85)
def s2 (r : Nat) : Nat := (r / 4 &&& 51) + (r &&& 51)
theorem b1 : ∀ q, q < 2 → ∀ r, r < 256 → (128 * q + r / 2) &&& 85 = r / 2 &&& 85 ∧ s1 r < 256 := by decide +kernel
theorem b2 : ∀ q, q < 4 → ∀ r, r < 256 → (64 * q + r / 4) &&& 51 = r / 4 &&& 51 ∧ s2 r < 256 := by decide +kernel
theorem b3 : ∀ r, r < 256 → s2 (s1 r) / 16 ≤ 4 ∧ s2 (s1 r) % 16 ≤ 4 ∧ s2 (s1 r) / 16 + s2 (s1 r) % 16 = ones r 8 ∧ ones r 8 ≤ 8 := by decide +kernel
theorem p1_step (k x : Nat) : p1 (k + 1) x = 256 * p1 k (x / 256) + s1 (x % 256) ∧ s1 (x % 256) < 256 := by
  have h := b1 (x / 256 % 2) (by omega) (x % 256) (by omega)
  refine ⟨?_, h.2⟩
  unfold p1
  rw [rep, and_step _ _ _ (by decide), and_step _ _ _ (by decide), show x / 2 / 256 = x / 256 / 2 by omega, show x / 2 % 256 = 128 * (x / 256 % 2) + x % 256 / 2 by omega, h.1]
  unfold s1; omega
theorem p2_step (k x : Nat) : p2 (k + 1) x = 256 * p2 k (x / 256) + s2 (x % 256) ∧ s2 (x % 256) < 256 := by
  have h := b2 (x / 256 % 4) (by omega) (x % 256) (by omega)
  refine ⟨?_, h.2⟩
  unfold p2
  rw [rep, and_step _ _ _ (by decide), and_step _ _ _ (by decide), show x / 4 / 256 = x / 256 / 4 by omega, show x / 4 % 256 = 64 * (x / 256 % 4) + x % 256 / 4 by omega, h.1]
  unfold s2; omega
theorem p12_step (k x : Nat) : p2 (k + 1) (p1 (k + 1) x) = 256 * p2 k (p1 k (x / 256)) + s2 (s1 (x % 256)) ∧ s2 (s1 (x % 256)) < 256 := by
  obtain ⟨h1, h2⟩ := p1_step k x
  obtain ⟨h3, h4⟩ := p2_step k (p1 (k + 1) x)
  rw [show p1 (k + 1) x / 256 = p1 k (x / 256) by omega, show p1 (k + 1) x % 256 = s1 (x % 256) by omega] at h3
  rw [show p1 (k + 1) x % 256 = s1 (x % 256) by omega] at h4
  exact ⟨h3, h4⟩
theorem p12_low (k x : Nat) : p2 k (p1 k x) % 16 ≤ 4 := by
  cases k with
  | zero => simp [p2, p1, rep]
  | succ k =>
    obtain ⟨h, _⟩ := p12_step k x
    have := b3 (x % 256) (by omega)
    omega
theorem p123_step (k x : Nat) : p3 (k + 1) (p2 (k + 1) (p1 (k + 1) x)) = 256 * p3 k (p2 k (p1 k (x / 256))) + ones (x % 256) 8 := by
  obtain ⟨h, hl⟩ := p12_step k x
  have hlow := p12_low k (x / 256)
  have h3 := b3 (x % 256) (by omega)
  generalize p2 (k + 1) (p1 (k + 1) x) = z at *
  generalize p2 k (p1 k (x / 256)) = q at *
  generalize s2 (s1 (x % 256)) = r at *
  have e1 : (z / 16 + z) / 256 = q / 16 + q := by omega
  have e2 : (z / 16 + z) % 256 % 16 = ones (x % 256) 8 := by omega
  unfold p3
  rw [rep, and_step _ _ _ (by decide), e1, show (15 : Nat) = 2 ^ 4 - 1 from rfl, Nat.and_two_pow_sub_one_eq_mod, show (2 : Nat) ^ 4 = 16 from rfl, e2]
def sum8 (k x : Nat) : Nat := p3 k (p2 k (p1 k x))
theorem sum8_all (x : Nat) : sum8 8 x = ones (x % 256) 8 + 256 * (ones (x / 256 % 256) 8 + 256 * (ones (x / 256 / 256 % 256) 8 + 256 * (ones (x / 256 / 256 / 256 % 256) 8 +
    256 * (ones (x / 256 / 256 / 256 / 256 % 256) 8 + 256 * (ones (x / 256 / 256 / 256 / 256 / 256 % 256) 8 + 256 * (ones (x / 256 / 256 / 256 / 256 / 256 / 256 % 256) 8 + 256 * ones (x / 256 / 256 / 256 / 256 / 256 / 256 / 256 % 256) 8)))))) := by
  have st : ∀ k y, sum8 (k + 1) y = 256 * sum8 k (y / 256) + ones (y % 256) 8 := p123_step
  have z : ∀ y, sum8 0 y = 0 := by intro y; simp [sum8, p3, rep]
  rw [st, st, st, st, st, st, st, st, z]
  omega
theorem ones8 (x : Nat) : ones x 64 = ones (x % 256) 8 + (ones (x / 256 % 256) 8 + (ones (x / 256 / 256 % 256) 8 + (ones (x / 256 / 256 / 256 % 256) 8 +
    (ones (x / 256 / 256 / 256 / 256 % 256) 8 + (ones (x / 256 / 256 / 256 / 256 / 256 % 256) 8 + (ones (x / 256 / 256 / 256 / 256 / 256 / 256 % 256) 8 + ones (x / 256 / 256 / 256 / 256 / 256 / 256 / 256 % 256) 8)))))) := by
  have st : ∀ n y, ones y (8 + n) = ones (y % 256) 8 + ones (y / 256) n := fun n y => by
    rw [ones_add]; congr 1; exact (ones_mod y 8 8 (by decide)).symm
  rw [show (64 : Nat) = 8 + (8 + (8 + (8 + (8 + (8 + (8 + (8 + 0))))))) from rfl, st, st, st, st, st, st, st, st]
  rfl
theorem dv {a r b q : Nat} (hr : r < b) (e : a = r + b * q) : a / b = q := by
  rw [e, Nat.add_mul_div_left _ _ (by omega), Nat.div_eq_of_lt hr, Nat.zero_add]
theorem a1 (d0 d1 d2 d3 d4 d5 d6 d7 : Nat) : d0 + 256 * (d1 + 256 * (d2 + 256 * (d3 + 256 * (d4 + 256 * (d5 + 256 * (d6 + 256 * d7)))))) + (d1 + 256 * (d2 + 256 * (d3 + 256 * (d4 + 256 * (d5 + 256 * (d6 + 256 * d7)))))) = d0 + d1 + 256 * (d1 + d2) + 65536 * (d2 + d3 + 256 * (d3 + d4 + 256 * (d4 + d5 + 256 * (d5 + d6 + 256 * (d6 + d7 + 256 * d7))))) := by omega
theorem a2 (d0 d1 d2 d3 d4 d5 d6 d7 : Nat) : d0 + 256 * (d1 + 256 * (d2 + 256 * (d3 + 256 * (d4 + 256 * (d5 + 256 * (d6 + 256 * d7)))))) + (d1 + 256 * (d2 + 256 * (d3 + 256 * (d4 + 256 * (d5 + 256 * (d6 + 256 * d7)))))) +
      (d2 + d3 + 256 * (d3 + d4 + 256 * (d4 + d5 + 256 * (d5 + d6 + 256 * (d6 + d7 + 256 * d7))))) = d0 + d1 + d2 + d3 + 256 * (d1 + d2 + d3 + d4 + 256 * (d2 + d3 + d4 + d5 + 256 * (d3 + d4 + d5 + d6))) + 4294967296 * (d4 + d5 + d6 + d7 + 256 * (d5 + d6 + d7 + 256 * (d6 + d7 + 256 * d7))) := by omega
theorem a4 (d0 d1 d2 d3 d4 d5 d6 d7 : Nat) : d0 + 256 * (d1 + 256 * (d2 + 256 * (d3 + 256 * (d4 + 256 * (d5 + 256 * (d6 + 256 * d7)))))) + (d1 + 256 * (d2 + 256 * (d3 + 256 * (d4 + 256 * (d5 + 256 * (d6 + 256 * d7)))))) +
      (d2 + d3 + 256 * (d3 + d4 + 256 * (d4 + d5 + 256 * (d5 + d6 + 256 * (d6 + d7 + 256 * d7))))) + (d4 + d5 + d6 + d7 + 256 * (d5 + d6 + d7 + 256 * (d6 + d7 + 256 * d7)))
      = d0 + (d1 + (d2 + (d3 + (d4 + (d5 + (d6 + d7)))))) + 128 * (2 * (d1 + d2 + d3 + d4 + d5 + d6 + d7 + 256 * (d2 + d3 + d4 + d5 + d6 + d7 + 256 * (d3 + d4 + d5 + d6 + d7 + 256 * (d4 + d5 + d6 + d7 + 256 * (d5 + d6 + d7 + 256 * (d6 + d7 + 256 * d7))))))) := by omega
/-- What math/bits.OnesCount64 computes. -/
def pop (x : Nat) : Nat :=
  let a := sum8 8 x
  let b := a + a / 256
  let c := b + b / 65536
  (c + c / 4294967296) % 128
theorem pop_ones (x : Nat) : pop x = ones x 64 ∧ sum8 8 x < 1000000000000000000 := by
  unfold pop
  rw [ones8, sum8_all]
  have h : ∀ y, ones (y % 256) 8 ≤ 8 := fun y => (b3 (y % 256) (by omega)).2.2.2
  have h0 := h x
  have h1 := h (x / 256)
  have h2 := h (x / 256 / 256)
  have h3 := h (x / 256 / 256 / 256)
  have h4 := h (x / 256 / 256 / 256 / 256)
  have h5 := h (x / 256 / 256 / 256 / 256 / 256)
  have h6 := h (x / 256 / 256 / 256 / 256 / 256 / 256)
  have h7 := h (x / 256 / 256 / 256 / 256 / 256 / 256 / 256)
  generalize ones (x % 256) 8 = d0 at *
  generalize ones (x / 256 % 256) 8 = d1 at *
  generalize ones (x / 256 / 256 % 256) 8 = d2 at *
  generalize ones (x / 256 / 256 / 256 % 256) 8 = d3 at *
  generalize ones (x / 256 / 256 / 256 / 256 % 256) 8 = d4 at *
  generalize ones (x / 256 / 256 / 256 / 256 / 256 % 256) 8 = d5 at *
  generalize ones (x / 256 / 256 / 256 / 256 / 256 / 256 % 256) 8 = d6 at *
  generalize ones (x / 256 / 256 / 256 / 256 / 256 / 256 / 256 % 256) 8 = d7 at *
  dsimp only
  refine ⟨?_, by omega⟩
  rw [dv (r := d0) (q := d1 + 256 * (d2 + 256 * (d3 + 256 * (d4 + 256 * (d5 + 256 * (d6 + 256 * d7)))))) (b := 256) (by omega) rfl]
  rw [dv (r := d0 + d1 + 256 * (d1 + d2)) (q := d2 + d3 + 256 * (d3 + d4 + 256 * (d4 + d5 + 256 * (d5 + d6 + 256 * (d6 + d7 + 256 * d7))))) (b := 65536) (by omega) (a1 ..)]
  rw [dv (r := d0 + d1 + d2 + d3 + 256 * (d1 + d2 + d3 + d4 + 256 * (d2 + d3 + d4 + d5 + 256 * (d3 + d4 + d5 + d6)))) (q := d4 + d5 + d6 + d7 + 256 * (d5 + d6 + d7 + 256 * (d6 + d7 + 256 * d7))) (b := 4294967296) (by omega) (a2 ..)]
  rw [a4, Nat.add_mul_mod_self_left]
  exact Nat.mod_eq_of_lt (by omega)

/-! The code. -/
def isPow (p : Nat) : Bool := p == 1 || p == 2 || p == 4 || p == 8 || p == 16 || p == 32
def places : List Nat := (List.range 64).filter (fun p => decide (3 ≤ p) && !isPow p)
def place (i : Nat) : Nat := places.getD i 0
def cnt : Nat → Nat
  | 0 => 0
  | p + 1 => cnt p + (if isPow (p + 1) then 0 else 1)
def EL (k : Nat) : List (Nat × Nat) := (List.range k).map fun i => (i, place i)
def DL (k : Nat) : List (Nat × Nat) := (List.range k).map fun i => (place i, i)
def QL (k : Nat) : List (Nat × Nat) := (List.range k).map fun i => (i, 2 ^ i)
theorem EL_succ (k : Nat) : EL (k + 1) = EL k ++ [(k, place k)] := by simp [EL, List.range_succ]
theorem DL_succ (k : Nat) : DL (k + 1) = DL k ++ [(place k, k)] := by simp [DL, List.range_succ]
theorem QL_succ (k : Nat) : QL (k + 1) = QL k ++ [(k, 2 ^ k)] := by simp [QL, List.range_succ]
theorem place_lt : ∀ i, i < 57 → place i < 64 ∧ 3 ≤ place i := by decide +kernel
theorem place_inj : ∀ i, i < 57 → ∀ k, k < i → place k ≠ place i := by decide +kernel
theorem place_pow : ∀ i, i < 57 → ∀ k, k < 6 → place i ≠ 2 ^ k := by decide +kernel
theorem pow_inj : ∀ i, i < 6 → (2 ^ i < 64 ∧ 1 ≤ 2 ^ i) ∧ ∀ k, k < i → 2 ^ k ≠ 2 ^ i := by decide +kernel
theorem cnt_place : ∀ i, i < 57 → ∀ p, p < 64 → cnt p = i + 1 → (p = 0 ∨ cnt (p - 1) ≤ i) → place i = p := by decide +kernel
theorem cnt63 : cnt 63 = 57 := by decide +kernel

/-- What the data bits below k make. -/
def base (d k : Nat) : Nat := mv (EL k) d
def body (d k : Nat) : Nat := base d 57 ^^^ mv (QL k) (syn (base d 57) 64)
def enc (d : Nat) : Nat := if ones (body d 6) 64 % 2 = 1 then body d 6 ||| 1 else body d 6
def dat (w k : Nat) : Nat := mv (DL k) w
def chk (w : Nat) : Nat := if ones w 64 % 2 = 1 then 1 else if syn w 64 = 0 then 0 else 2
theorem base_step (d k : Nat) (hk : k < 57) : base d (k + 1) = if d.testBit k then base d k ||| 2 ^ place k else base d k := by
  unfold base
  rw [EL_succ, mv_snoc]
  split
  · rw [or_two_pow]
    apply mv_bit_off
    intro x hx
    simp only [EL, List.mem_map, List.mem_range] at hx
    obtain ⟨i, hi, rfl⟩ := hx
    exact place_inj k hk i hi
  · rw [Nat.xor_zero]
theorem dat_step (w k : Nat) : dat w (k + 1) = if w.testBit (place k) then dat w k ||| 2 ^ k else dat w k := by
  unfold dat
  rw [DL_succ, mv_snoc]
  split
  · rw [or_two_pow]
    apply mv_bit_off
    intro x hx
    simp only [DL, List.mem_map, List.mem_range] at hx
    obtain ⟨i, hi, rfl⟩ := hx
    exact Nat.ne_of_lt hi
  · rw [Nat.xor_zero]
theorem base_off (d k p : Nat) (h : ∀ i, i < k → place i ≠ p) : (base d k).testBit p = false := by
  apply mv_bit_off
  intro x hx
  simp only [EL, List.mem_map, List.mem_range] at hx
  obtain ⟨i, hi, rfl⟩ := hx
  exact h i hi
theorem quad_off (s k p : Nat) (h : ∀ i, i < k → 2 ^ i ≠ p) : (mv (QL k) s).testBit p = false := by
  apply mv_bit_off
  intro x hx
  simp only [QL, List.mem_map, List.mem_range] at hx
  obtain ⟨i, hi, rfl⟩ := hx
  exact h i hi
theorem body_step (d k : Nat) (hk : k < 6) : body d (k + 1) = if (syn (base d 57) 64).testBit k then body d k ||| 2 ^ 2 ^ k else body d k := by
  unfold body
  rw [QL_succ, mv_snoc]
  split
  · rw [or_two_pow, Nat.xor_assoc]
    rw [Nat.testBit_xor, base_off _ _ _ (fun i hi => place_pow i hi k hk), quad_off _ _ _ (fun i hi => (pow_inj k hk).2 i hi)]
    rfl
  · rw [Nat.xor_zero]
theorem base_lt (d k : Nat) (hk : k ≤ 57) : base d k < 2 ^ 64 := mv_lt _ _ _ fun x hx => by
  simp only [EL, List.mem_map, List.mem_range] at hx
  obtain ⟨i, hi, rfl⟩ := hx
  exact (place_lt i (by omega)).1
theorem quad_lt (s k : Nat) (hk : k ≤ 6) : mv (QL k) s < 2 ^ 64 := mv_lt _ _ _ fun x hx => by
  simp only [QL, List.mem_map, List.mem_range] at hx
  obtain ⟨i, hi, rfl⟩ := hx
  exact (pow_inj i (by omega)).1.1
theorem dat_lt (w k : Nat) : dat w k < 2 ^ k := mv_lt _ _ _ fun x hx => by
  simp only [DL, List.mem_map, List.mem_range] at hx
  obtain ⟨i, hi, rfl⟩ := hx
  exact hi
theorem body_lt (d k : Nat) (hk : k ≤ 6) : body d k < 2 ^ 64 := xor_lt (base_lt d 57 (Nat.le_refl _)) (quad_lt _ k hk)
theorem body_bit0 (d k : Nat) (hk : k ≤ 6) : (body d k).testBit 0 = false := by
  unfold body
  rw [Nat.testBit_xor, base_off _ _ _ (fun i hi => by have := (place_lt i hi).2; omega), quad_off _ _ _ (fun i hi => by have := (pow_inj i (by omega)).1.2; omega)]
  rfl
theorem enc_lt (d : Nat) : enc d < 2 ^ 64 := by
  have := body_lt d 6 (by decide)
  unfold enc
  split
  · exact Nat.or_lt_two_pow this (by decide)
  · exact this
theorem chk_le (w : Nat) : chk w ≤ 2 := by unfold chk; split; · decide
                                           split <;> decide

end Ham
end Go.Proofs.YtfpodjfdmfobkaaDoor
