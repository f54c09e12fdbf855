/- Plain facts on the extended code, of no program: what the laws say of words. -/
import Derived.Test.YtfpodjfdmfobkaaDoorMath
namespace Go.Proofs.YtfpodjfdmfobkaaDoor
namespace Ham

theorem dat_lin : Lin (fun w => dat w 57) := mv_lin (DL 57)
theorem base_lin : Lin (fun d => base d 57) := mv_lin (EL 57)
theorem body_lin : Lin (fun d => body d 6) := base_lin.xor ((mv_lin (QL 6)).comp ((syn_lin 64).comp base_lin))
theorem bpar_lin : Lin (fun d => ones (body d 6) 64 % 2) := (par_lin 64).comp body_lin
theorem enc_eq (d : Nat) : enc d = body d 6 ^^^ (ones (body d 6) 64 % 2) := by
  unfold enc
  have h := or_two_pow (body d 6) 0 (body_bit0 d 6 (by decide))
  rw [Nat.pow_zero] at h
  split
  · rename_i h1; rw [h, h1]
  · rename_i h1; rw [show ones (body d 6) 64 % 2 = 0 by omega, Nat.xor_zero]
theorem enc_lin : Lin enc := by
  have e : enc = fun d => body d 6 ^^^ (ones (body d 6) 64 % 2) := funext enc_eq
  rw [e]; exact body_lin.xor bpar_lin
theorem zero_lin : Lin (fun _ => 0) := ⟨rfl, fun _ _ => rfl⟩
theorem syn_enc (d : Nat) (hd : d < 2 ^ 57) : syn (enc d) 64 = 0 :=
  lin_ext ((syn_lin 64).comp enc_lin) zero_lin 57 (by decide +kernel) d hd
theorem par_enc (d : Nat) (hd : d < 2 ^ 57) : ones (enc d) 64 % 2 = 0 :=
  lin_ext ((par_lin 64).comp enc_lin) zero_lin 57 (by decide +kernel) d hd
theorem dat_enc (d : Nat) (hd : d < 2 ^ 57) : dat (enc d) 57 = d :=
  lin_ext (dat_lin.comp enc_lin) Lin.id 57 (by decide +kernel) d hd
theorem chk_enc (d : Nat) (hd : d < 2 ^ 57) : chk (enc d) = 0 := by
  unfold chk; rw [if_neg (by have := par_enc d hd; omega), if_pos (syn_enc d hd)]
theorem par_flip (w i : Nat) (hi : i < 64) : ones (w ^^^ 2 ^ i) 64 % 2 = (ones w 64 + 1) % 2 := by
  have h := (par_lin 64).add w (2 ^ i)
  rw [ones_two_pow, if_pos hi] at h
  have hx : ones w 64 % 2 = 0 ∨ ones w 64 % 2 = 1 := by omega
  rcases hx with hx | hx <;> rw [hx] at h <;> simp at h <;> omega
theorem syn_flip (w i : Nat) (hi : i < 64) : syn (w ^^^ 2 ^ i) 64 = syn w 64 ^^^ i := by
  have h := (syn_lin 64).add w (2 ^ i)
  rwa [syn_two_pow, if_pos hi] at h
theorem flip_flip (w i : Nat) : w ^^^ 2 ^ i ^^^ 2 ^ i = w := by rw [Nat.xor_assoc, Nat.xor_self, Nat.xor_zero]
theorem chk_one (w : Nat) : chk w = 1 ↔ ones w 64 % 2 = 1 := by
  unfold chk; split
  · simp [*]
  · split <;> simp [*]
theorem chk_zero (w : Nat) : chk w = 0 ↔ ones w 64 % 2 = 0 ∧ syn w 64 = 0 := by
  unfold chk; split
  · simp; omega
  · split <;> simp [*] <;> omega
theorem chk_two (w : Nat) : chk w = 2 ↔ ones w 64 % 2 = 0 ∧ syn w 64 ≠ 0 := by
  unfold chk; split
  · simp; omega
  · split <;> simp [*] <;> omega
theorem xor_ne {a b : Nat} (h : a ≠ b) : a ^^^ b ≠ 0 := fun h0 => h (by
  have : a ^^^ b ^^^ b = b := by rw [h0, Nat.zero_xor]
  rwa [Nat.xor_assoc, Nat.xor_self, Nat.xor_zero] at this)
theorem ones_flip (w i : Nat) (h : w.testBit i = false) : ∀ n, ones (w ^^^ 2 ^ i) n = ones w n + (if i < n then 1 else 0)
  | 0 => rfl
  | n + 1 => by
    simp only [ones, ones_flip w i h n, Nat.testBit_xor, Nat.testBit_two_pow]
    by_cases hin : i = n
    · subst hin; rw [h]; simp
    · have : (i < n) = (i < n + 1) := by apply propext; omega
      simp only [hin, decide_false, Bool.xor_false, this]; omega
theorem ones_two (i j : Nat) (hi : i < 64) (hj : j < 64) (h : i ≠ j) : ones (2 ^ i ^^^ 2 ^ j) 64 = 2 := by
  rw [ones_flip _ _ (by rw [Nat.testBit_two_pow]; simpa using h), ones_two_pow, if_pos hi, if_pos hj]
theorem syn_none (w : Nat) : ∀ n, ones w n = 0 → syn w n = 0
  | 0, _ => rfl
  | n + 1, h => by
    simp only [ones] at h
    simp only [syn]
    cases hb : w.testBit n
    · rw [hb] at h; simp only [Bool.false_eq_true, if_false] at *; exact syn_none w n h
    · rw [hb] at h; simp at h
theorem syn_one (w : Nat) : ∀ n, ones w n = 1 → syn w n < n
  | 0, h => by simp [ones] at h
  | n + 1, h => by
    simp only [ones] at h
    simp only [syn]
    cases hb : w.testBit n
    · rw [hb] at h; simp only [Bool.false_eq_true, if_false] at *; exact Nat.lt_succ_of_lt (syn_one w n h)
    · rw [hb] at h; simp only [if_true] at *; rw [syn_none w n (by omega), Nat.zero_xor]; omega
theorem syn_two (w : Nat) : ∀ n, ones w n = 2 → syn w n ≠ 0
  | 0, h => by simp [ones] at h
  | n + 1, h => by
    simp only [ones] at h
    simp only [syn]
    cases hb : w.testBit n
    · rw [hb] at h; simp only [Bool.false_eq_true, if_false] at *; exact syn_two w n h
    · rw [hb] at h; simp only [if_true] at *; exact xor_ne (Nat.ne_of_lt (syn_one w n (by omega)))
theorem ones_zero (w : Nat) : ∀ n, ones w n = 0 → ∀ i, i < n → w.testBit i = false
  | 0, _, i, hi => by omega
  | n + 1, h, i, hi => by
    simp only [ones] at h
    cases hb : w.testBit n
    · rw [hb] at h; simp only [Bool.false_eq_true, if_false] at h
      rcases Nat.lt_or_ge i n with h2 | h2
      · exact ones_zero w n h i h2
      · rw [show i = n by omega]; exact hb
    · rw [hb] at h; simp at h
theorem zero_of_ones (w : Nat) (hw : w < 2 ^ 64) (h : ones w 64 = 0) : w = 0 := by
  apply Nat.eq_of_testBit_eq
  intro i
  rw [Nat.zero_testBit]
  rcases Nat.lt_or_ge i 64 with h2 | h2
  · exact ones_zero w 64 h i h2
  · exact Nat.testBit_lt_two_pow (Nat.lt_of_lt_of_le hw (Nat.pow_le_pow_right (by decide) h2))
/-- The weight of a code word: 0 exactly for 0, else at least 4. -/
theorem weight (e : Nat) (he : e < 2 ^ 57) : (ones (enc e) 64 = 0 ↔ e = 0) ∧ (ones (enc e) 64 = 0 ∨ 4 ≤ ones (enc e) 64) := by
  have hp := par_enc e he
  have hs := syn_enc e he
  have h2 := syn_two (enc e) 64
  refine ⟨⟨fun h => ?_, fun h => by rw [h]; decide +kernel⟩, ?_⟩
  · have := zero_of_ones _ (enc_lt e) h
    have h3 := dat_enc e he
    rw [this] at h3
    rw [← h3]; exact dat_lin.zero
  · by_cases h : ones (enc e) 64 = 2
    · exact absurd hs (h2 h)
    · omega
def PL : List (Nat × Nat) := (List.range 6).map fun i => (2 ^ i, i)
theorem low_lin : Lin (fun w => w % 2) :=
  ⟨rfl, fun a b => by have := @Nat.xor_mod_two_pow a b 1; simpa using this⟩
theorem split_word (w : Nat) (hw : w < 2 ^ 64) : w = base (dat w 57) 57 ^^^ mv (QL 6) (mv PL w) ^^^ (w % 2) :=
  lin_ext Lin.id (((base_lin.comp dat_lin).xor ((mv_lin (QL 6)).comp (mv_lin PL))).xor low_lin) 64 (by decide +kernel) w hw
theorem syn_quad (t : Nat) (ht : t < 2 ^ 6) : syn (mv (QL 6) t) 64 = t :=
  lin_ext ((syn_lin 64).comp (mv_lin (QL 6))) Lin.id 6 (by decide +kernel) t ht
theorem syn_low (b : Nat) (hb : b < 2 ^ 1) : syn b 64 = 0 := lin_ext (syn_lin 64) zero_lin 1 (by decide +kernel) b hb
theorem par_low (b : Nat) (hb : b < 2 ^ 1) : ones b 64 % 2 = b := lin_ext (par_lin 64) Lin.id 1 (by decide +kernel) b hb
theorem PL_lt (w : Nat) : mv PL w < 2 ^ 6 := mv_lt _ _ _ fun x hx => by
  simp only [PL, List.mem_map, List.mem_range] at hx
  obtain ⟨i, hi, rfl⟩ := hx
  exact hi
theorem enc_dat (w : Nat) (hw : w < 2 ^ 64) (h : chk w = 0) : enc (dat w 57) = w := by
  obtain ⟨hp, hs⟩ := (chk_zero w).1 h
  have e := split_word w hw
  have l1 : w % 2 < 2 ^ 1 := by omega
  have ht := PL_lt w
  have s1 := (syn_lin 64).add (base (dat w 57) 57 ^^^ mv (QL 6) (mv PL w)) (w % 2)
  have s2 := (syn_lin 64).add (base (dat w 57) 57) (mv (QL 6) (mv PL w))
  rw [← e, hs, s2, syn_quad _ ht, syn_low _ l1, Nat.xor_zero] at s1
  have s3 : mv PL w = syn (base (dat w 57) 57) 64 := by
    have := congrArg (fun z => syn (base (dat w 57) 57) 64 ^^^ z) s1
    simp only [Nat.xor_zero] at this
    rw [this, ← Nat.xor_assoc, Nat.xor_self, Nat.zero_xor]
  have e2 : w = body (dat w 57) 6 ^^^ (w % 2) := by
    conv => lhs; rw [e]
    rw [s3]; rfl
  have p1 := (par_lin 64).add (body (dat w 57) 6) (w % 2)
  rw [← e2, hp, par_low _ l1] at p1
  have p2 : w % 2 = ones (body (dat w 57) 6) 64 % 2 := by
    have := congrArg (fun z => ones (body (dat w 57) 6) 64 % 2 ^^^ z) p1
    simp only [Nat.xor_zero] at this
    rw [this, ← Nat.xor_assoc, Nat.xor_self, Nat.zero_xor]
  rw [enc_eq, ← p2]; exact e2.symm
end Ham
end Go.Proofs.YtfpodjfdmfobkaaDoor
