/- The builder of netlists, as functions; what it keeps. -/
import Derived.Test.YtapjobndmmkanaaDb
set_option linter.unusedVariables false
set_option linter.unusedSimpArgs false
namespace Go.Proofs.Ytapjobndmmkanaa
open Go Go.RowKit
instance : DecidableEq Gate := fun ⟨a1, a2, a3, a4, a5⟩ ⟨b1, b2, b3, b4, b5⟩ =>
 if h : a1 = b1 ∧ a2 = b2 ∧ a3 = b3 ∧ a4 = b4 ∧ a5 = b5 then isTrue (by obtain ⟨h1, h2, h3, h4, h5⟩ := h; subst h1 h2 h3 h4 h5; rfl)
 else isFalse fun e => h (by cases e; exact ⟨rfl, rfl, rfl, rfl, rfl⟩)
abbrev Gs := List Gate
def jpp (g : Gate) : Gs → Nat
 | [] => 0
 | x :: l => if x = g then 0 else jpp g l + 1
theorem jae {g : Gate} : ∀ {l : Gs}, g ∈ l → jpp g l < l.length ∧ nth l (jpp g l) = g
 | [], h => by cases h
 | x :: l, h => by
  rw [jpp]
  by_cases e : x = g
  ·rw [if_pos e]; exact ⟨by simp, by simpa [nth] using e⟩
  ·rw [if_neg e]
   have hl : g ∈ l := by
    rcases List.mem_cons.1 h with h | h
    ·exact absurd h.symm e
    ·exact h
   obtain ⟨h1, h2⟩ := jae hl
   exact ⟨by simpa using h1, by simpa [nth] using h2⟩
theorem jga {g x : Gate} {l : Gs} {k : Nat} (hk : k < l.length) (h : ∀ j, j < k → nth l j ≠ g) (e : nth l k = g) : jpp g l = k := by
 induction l generalizing k with
 | nil => simp at hk
 | cons y l ih =>
  rw [jpp]
  cases k with
  | zero => rw [if_pos (by simpa [nth] using e)]
  | succ k =>
   rw [if_neg (by have := h 0 (by omega); simpa [nth] using this)]
   rw [ih (k := k) (by simpa using hk) (fun j hj => by have := h (j + 1) (by omega); simpa [nth] using this) (by simpa [nth] using e)]
abbrev Re := Gs × Int
def zjg (m : Nat) (gs : Gs) (g : Gate) : Re := if g ∈ gs then (gs, ((m + jpp g gs : Nat) : Int)) else (gs ++ [g], ((m + gs.length : Nat) : Int))
def zjh (m : Nat) (gs : Gs) (x : Int) : Int := if (m : Int) ≤ x ∧ (nth gs (x - m).toNat).op = 1 then (nth gs (x - m).toNat).a else -1
def zo6 (m : Nat) (gs : Gs) (x y : Int) : Bool := decide (zjh m gs x = y) || decide (zjh m gs y = x)
def zj7 (m : Nat) (gs : Gs) (x : Int) : Re := if x < 2 then (gs, 1 - x) else if 0 ≤ zjh m gs x then (gs, zjh m gs x) else zjg m gs ⟨1, x, 0, 0, 0⟩
def jnb (m : Nat) (gs : Gs) (x y : Int) : Re := if x = 0 ∨ zo6 m gs x y = true then (gs, 0) else if x = 1 ∨ x = y then (gs, y) else zjg m gs ⟨2, x, y, 0, 0⟩
def zg4 (m : Nat) (gs : Gs) (x y : Int) : Re := jnb m gs (min x y) (max x y)
def orS (m : Nat) (gs : Gs) (x y : Int) : Re := if x = 1 ∨ zo6 m gs x y = true then (gs, 1) else if x = 0 ∨ x = y then (gs, y) else zjg m gs ⟨3, x, y, 0, 0⟩
def orB (m : Nat) (gs : Gs) (x y : Int) : Re := orS m gs (min x y) (max x y)
def jnc (m : Nat) (gs : Gs) (x y : Int) : Re := if x = 0 then (gs, y) else if x = 1 then zj7 m gs y else if x = y then (gs, 0) else if zo6 m gs x y = true then (gs, 1) else zjg m gs ⟨4, x, y, 0, 0⟩
def zm0 (m : Nat) (gs : Gs) (x y : Int) : Re := jnc m gs (min x y) (max x y)
def ztb (m : Nat) (gs : Gs) (x y z : Int) : Re :=
 if x = 0 then (gs, z) else if x = 1 ∨ y = z then (gs, y) else if y = 1 then orB m gs x z else if z = 0 then zg4 m gs x y
 else if y = 0 then (let n := zj7 m gs x; zg4 m n.1 n.2 z) else if z = 1 then (let n := zj7 m gs x; orB m n.1 n.2 y) else zjg m gs ⟨5, x, y, z, 0⟩
def jj0 (m : Nat) (gs : Gs) (x y z : Int) : Re := if x = 0 then zg4 m gs y z else if x = 1 then orB m gs y z else if x = y ∨ y = z then (gs, y) else zjg m gs ⟨6, x, y, z, 0⟩
def lo3 (x y z : Int) : Int := min (min x y) z
def hi3 (x y z : Int) : Int := max (max x y) z
def jnd (m : Nat) (gs : Gs) (x y z : Int) : Re := jj0 m gs (lo3 x y z) (x + y + z - lo3 x y z - hi3 x y z) (hi3 x y z)
def zbh (st : Gs → Nat → Re) (gs : Gs) : Nat → Gs × List Int
 | 0 => (gs, [])
 | k + 1 => let s := zbh st gs k; let r := st s.1 k; (r.1, s.2 ++ [r.2])
def opB (o : Int) (m : Nat) (gs : Gs) (x y : Int) : Re := if o = 3 then zg4 m gs x y else if o = 4 then orB m gs x y else zm0 m gs x y
structure Sm where
 gs : Gs
 c : Int
 l : List Int
def zm1 (m : Nat) (gs : Gs) (x y : List Int) (c : Int) : Nat → Sm
 | 0 => ⟨gs, c, []⟩
 | k + 1 =>
  let s := zm1 m gs x y c k
  let a := zm0 m s.gs (nth x k) (nth y k)
  let b := zm0 m a.1 a.2 s.c
  if k + 1 < x.length then (let d := jnd m b.1 (nth x k) (nth y k) s.c; ⟨d.1, d.2, s.l ++ [b.2]⟩) else ⟨b.1, s.c, s.l ++ [b.2]⟩
def ztc (m : Nat) (gs : Gs) (x y : List Int) : Nat → Re
 | 0 => (gs, 1)
 | k + 1 => let s := ztc m gs x y k; let a := zm0 m s.1 (nth x k) (nth y k); let n := zj7 m a.1 a.2; zg4 m n.1 s.2 n.2
def ltB (m : Nat) (gs : Gs) (x y : List Int) : Nat → Re
 | 0 => (gs, 1)
 | k + 1 => let s := ltB m gs x y k; let n := zj7 m s.1 (nth y k); jnd m n.1 (nth x k) n.2 s.2
inductive Ex where
 | con (v w : Nat)
 | reg (i : Nat)
 | dat (i : Nat)
 | not (a : Ex)
 | two (o : Int) (a b : Ex)
 | add (a b : Ex)
 | sub (a b : Ex)
 | eq (a b : Ex)
 | lt (a b : Ex)
 | mux (a b c : Ex)
 | cat (a b : Ex)
 | slc (k w : Nat) (a : Ex)
 | ext (w : Nat) (a : Ex)
 | rd (k : Nat) (a : Ex)
 deriving Inhabited
structure Ct where
 regs : List Nat
 takes : List Nat
 mems : List (Nat × Nat)
def jcd (l : List Int) (words : Nat) : List Int := (List.range 3).map fun k => if k < l.length ∧ 2 ^ k < words then nth l k else 0
def zbz (c : Ct) (inp : Int → Nat → Nat → Int) (m : Nat) (data : List (List Int)) : Gs → Ex → Gs × List Int
 | gs, .con v w => (gs, (List.range w).map fun i => ((v / 2 ^ i % 2 : Nat) : Int))
 | gs, .reg i => (gs, (List.range (nth c.regs i)).map fun k => inp 1 i k)
 | gs, .dat i => (gs, nth data i)
 | gs, .not a => let r := zbz c inp m data gs a; zbh (fun gs i => zj7 m gs (nth r.2 i)) r.1 r.2.length
 | gs, .two o a b => let r := zbz c inp m data gs a; let s := zbz c inp m data r.1 b; zbh (fun gs i => opB o m gs (nth r.2 i) (nth s.2 i)) s.1 r.2.length
 | gs, .add a b => let r := zbz c inp m data gs a; let s := zbz c inp m data r.1 b; let t := zm1 m s.1 r.2 s.2 0 r.2.length; (t.gs, t.l)
 | gs, .sub a b => let r := zbz c inp m data gs a; let s := zbz c inp m data r.1 b; let n := zbh (fun gs i => zj7 m gs (nth s.2 i)) s.1 s.2.length; let t := zm1 m n.1 r.2 n.2 1 r.2.length; (t.gs, t.l)
 | gs, .eq a b => let r := zbz c inp m data gs a; let s := zbz c inp m data r.1 b; let t := ztc m s.1 r.2 s.2 r.2.length; (t.1, [t.2])
 | gs, .lt a b => let r := zbz c inp m data gs a; let s := zbz c inp m data r.1 b; let t := ltB m s.1 r.2 s.2 r.2.length; let n := zj7 m t.1 t.2; (n.1, [n.2])
 | gs, .mux a b d => let r := zbz c inp m data gs a; let s := zbz c inp m data r.1 b; let t := zbz c inp m data s.1 d; zbh (fun gs i => ztb m gs (nth r.2 0) (nth s.2 i) (nth t.2 i)) t.1 s.2.length
 | gs, .cat a b => let r := zbz c inp m data gs a; let s := zbz c inp m data r.1 b; (s.1, s.2 ++ r.2)
 | gs, .slc k w a => let r := zbz c inp m data gs a; (r.1, (r.2.drop k).take w)
 | gs, .ext w a => let r := zbz c inp m data gs a; (r.1, r.2 ++ List.replicate (w - r.2.length) 0)
 | gs, .rd k a => let r := zbz c inp m data gs a; let d := jcd r.2 (nth c.mems k).1; zbh (fun gs i => zjg m gs ⟨7, nth d 0, nth d 1, nth d 2, ((8 * k + i : Nat) : Int)⟩) r.1 (nth c.mems k).2
def NdB (m : Nat) (gs : Gs) (x : Int) : Prop := 0 ≤ x ∧ x < (m : Int) + gs.length
structure RgG (lim : Int) (g : Gate) : Prop where
 o1 : 1 ≤ g.op
 o2 : g.op ≤ 7
 a0 : 0 ≤ g.a
 a1 : g.a < lim
 b0 : 0 ≤ g.b
 b1 : g.b < lim
 c0 : 0 ≤ g.c
 c1 : g.c < lim
 n0 : 0 ≤ g.n
 n1 : g.n < 64
 nz : g.op ≠ 7 → g.n = 0
 bz : g.op = 1 → g.b = 0
 cz : g.op ≤ 4 → g.c = 0
structure NoG (m : Nat) (gs : Gs) (g : Gate) : Prop where
 nt : g.op = 1 → 2 ≤ g.a ∧ zjh m gs g.a = -1
 tw : 2 ≤ g.op → g.op ≤ 4 → 2 ≤ g.a ∧ g.a < g.b ∧ zjh m gs g.a ≠ g.b ∧ zjh m gs g.b ≠ g.a
 mx : g.op = 5 → 2 ≤ g.a ∧ 2 ≤ g.b ∧ 2 ≤ g.c ∧ g.b ≠ g.c
 mj : g.op = 6 → 2 ≤ g.a ∧ g.a < g.b ∧ g.b < g.c
structure GI (m : Nat) (gs : Gs) : Prop where
 rg : ∀ k, k < gs.length → RgG ((m : Int) + k) (nth gs k)
 no : ∀ k, k < gs.length → NoG m gs (nth gs k)
 nd : gs.Nodup
theorem jhx {α : Type} [Inhabited α] {l t : List α} {k : Nat} (h : k < l.length) : nth (l ++ t) k = nth l k := by
 unfold nth; simp [List.getD_eq_getElem?_getD, List.getElem?_append_left h]
theorem jvx {α : Type} [Inhabited α] {l : List α} {x : α} : nth (l ++ [x]) l.length = x := by unfold nth; simp [List.getD_eq_getElem?_getD]
theorem zwn {m : Nat} {gs t : Gs} {x : Int} (h : x < (m : Int) + gs.length) : zjh m (gs ++ t) x = zjh m gs x := by
 unfold zjh
 by_cases hx : (m : Int) ≤ x
 ·rw [jhx (show (x - m).toNat < gs.length by omega)]
 ·rw [if_neg (fun e => hx e.1), if_neg (fun e => hx e.1)]
theorem NdB.pre {m : Nat} {gs gs' : Gs} {x : Int} (h : NdB m gs x) (hp : gs <+: gs') : NdB m gs' x := by
 have := hp.length_le
 exact ⟨h.1, by have := h.2; omega⟩
theorem NoG.app {m : Nat} {gs t : Gs} {g : Gate} (h : NoG m gs g) (hr : RgG ((m : Int) + gs.length) g) : NoG m (gs ++ t) g := by
 have ha := hr.a1
 have hb := hr.b1
 exact ⟨fun e => by rw [zwn ha]; exact h.nt e, fun e f => by rw [zwn ha, zwn hb]; exact h.tw e f, h.mx, h.mj⟩
theorem RgG.mono {a b : Int} {g : Gate} (h : RgG a g) (hab : a ≤ b) : RgG b g := by
 obtain ⟨o1, o2, a0, a1, b0, b1, c0, c1, n0, n1, z1, z2, z3⟩ := h
 exact ⟨o1, o2, a0, by omega, b0, by omega, c0, by omega, n0, n1, z1, z2, z3⟩
theorem GI.nil (m : Nat) : GI m [] := ⟨fun k h => by simp at h, fun k h => by simp at h, .nil⟩
theorem GI.snoc {m : Nat} {gs : Gs} {g : Gate} (h : GI m gs) (hr : RgG ((m : Int) + gs.length) g) (hn : NoG m gs g) (hm : ¬ g ∈ gs) : GI m (gs ++ [g]) := by
 refine ⟨fun k hk => ?_, fun k hk => ?_, ?_⟩
 ·by_cases hl : k < gs.length
  ·rw [jhx hl]; exact h.rg k hl
  ·have : k = gs.length := by simp at hk; omega
   subst this
   rw [jvx]; exact hr
 ·by_cases hl : k < gs.length
  ·rw [jhx hl]; exact (h.no k hl).app ((h.rg k hl).mono (by omega))
  ·have : k = gs.length := by simp at hk; omega
   subst this
   rw [jvx]; exact hn.app hr
 ·rw [List.nodup_append]
  exact ⟨h.nd, by simp, fun a ha b hb e => by simp at hb; subst hb; subst e; exact hm ha⟩
structure Rs (m n : Nat) (gs : Gs) (r : Re) : Prop where
 pre : gs <+: r.1
 gi : GI m r.1
 len : r.1.length ≤ gs.length + n
 nd : NdB m r.1 r.2
theorem Rs.mono {m n k : Nat} {gs : Gs} {r : Re} (h : Rs m n gs r) (hk : n ≤ k) : Rs m k gs r := ⟨h.pre, h.gi, by have := h.len; omega, h.nd⟩
theorem Rs.same {m n : Nat} {gs : Gs} {x : Int} (h : GI m gs) (hx : NdB m gs x) : Rs m n gs (gs, x) := ⟨List.prefix_refl _, h, by simp, hx⟩
theorem zii {m : Nat} {gs : Gs} {g : Gate} (h : GI m gs) (hr : RgG ((m : Int) + gs.length) g) (hn : NoG m gs g) : Rs m 1 gs (zjg m gs g) := by
 unfold zjg
 by_cases hm : g ∈ gs
 ·rw [if_pos hm]
  have := (jae hm).1
  exact Rs.same h ⟨by omega, by omega⟩
 ·rw [if_neg hm]
  exact ⟨List.prefix_append _ _, h.snoc hr hn hm, by simp, by simp only; omega, by simp; omega⟩
theorem jvy {m : Nat} {gs : Gs} {x : Int} (h : GI m gs) (hx : NdB m gs x) : zjh m gs x = -1 ∨ (2 ≤ zjh m gs x ∧ zjh m gs x < x ∧ zjh m gs (zjh m gs x) = -1) := by
 by_cases e : (m : Int) ≤ x ∧ (nth gs (x - m).toNat).op = 1
 ·right
  have hk : (x - m).toNat < gs.length := by have := hx.2; omega
  have h1 := h.rg _ hk
  have h2 := (h.no _ hk).nt e.2
  have e1 : zjh m gs x = (nth gs (x - m).toNat).a := by unfold zjh; rw [if_pos e]
  have := h1.a1
  rw [e1]
  exact ⟨h2.1, by omega, h2.2⟩
 ·left; unfold zjh; rw [if_neg e]
theorem zfz {m : Nat} {gs : Gs} {x : Int} (h2 : 2 ≤ m) (h : GI m gs) (hx : NdB m gs x) : Rs m 1 gs (zj7 m gs x) := by
 unfold zj7
 by_cases h1 : x < 2
 ·rw [if_pos h1]; exact Rs.same h ⟨by have := hx.1; omega, by have := hx.1; omega⟩
 ·rw [if_neg h1]
  rcases jvy h hx with hi | ⟨hi, hj, _⟩
  ·rw [if_neg (by omega)]
   have hx1 := hx.2
   exact zii h ⟨by simp, by simp, hx.1, hx1, by simp, by simp only; omega, by simp, by simp only; omega, by simp, by simp, fun _ => rfl, fun _ => rfl, fun _ => rfl⟩ ⟨fun _ => ⟨by simp only; omega, hi⟩, fun a => absurd a (by simp), fun a => absurd a (by simp), fun a => absurd a (by simp)⟩
  ·rw [if_pos (by omega)]
   exact Rs.same h ⟨by omega, by have := hx.2; omega⟩
theorem jgb {m : Nat} {gs : Gs} {x y o : Int} (h2 : 2 ≤ m) (o1 : 2 ≤ o) (o2 : o ≤ 4) (hx : NdB m gs x) (hy : NdB m gs y) : RgG ((m : Int) + gs.length) ⟨o, x, y, 0, 0⟩ :=
 ⟨by simp only; omega, by simp only; omega, hx.1, hx.2, hy.1, hy.2, by simp, by simp only; omega, by simp, by simp, fun _ => rfl, fun e => absurd e (by simp only; omega), fun _ => rfl⟩
theorem jgc {m : Nat} {gs : Gs} {x y o : Int} (o1 : 2 ≤ o) (o2 : o ≤ 4) (hx : 2 ≤ x) (hxy : x < y) (hi : zo6 m gs x y = false) : NoG m gs ⟨o, x, y, 0, 0⟩ := by
 simp only [zo6, Bool.or_eq_false_iff, decide_eq_false_iff_not] at hi
 exact ⟨fun e => absurd e (by simp only; omega), fun _ _ => ⟨hx, hxy, hi.1, hi.2⟩, fun e => absurd e (by simp only; omega), fun e => absurd e (by simp only; omega)⟩
theorem jzr {m : Nat} {gs : Gs} {x y : Int} (h2 : 2 ≤ m) (h : GI m gs) (hx : NdB m gs x) (hy : NdB m gs y) (hxy : x ≤ y) : Rs m 1 gs (jnb m gs x y) := by
 unfold jnb
 have x0 := hx.1
 by_cases h1 : x = 0 ∨ zo6 m gs x y = true
 ·rw [if_pos h1]; exact Rs.same h ⟨by omega, by omega⟩
 ·rw [if_neg h1]
  by_cases h3 : x = 1 ∨ x = y
  ·rw [if_pos h3]; exact Rs.same h hy
  ·rw [if_neg h3]
   exact zii h (jgb h2 (by decide) (by decide) hx hy) (jgc (by decide) (by decide) (by omega) (by omega) (by simpa using fun e => h1 (.inr e)))
theorem ycv {m : Nat} {gs : Gs} {x y : Int} (h2 : 2 ≤ m) (h : GI m gs) (hx : NdB m gs x) (hy : NdB m gs y) (hxy : x ≤ y) : Rs m 1 gs (orS m gs x y) := by
 unfold orS
 have x0 := hx.1
 by_cases h1 : x = 1 ∨ zo6 m gs x y = true
 ·rw [if_pos h1]; exact Rs.same h ⟨by omega, by omega⟩
 ·rw [if_neg h1]
  by_cases h3 : x = 0 ∨ x = y
  ·rw [if_pos h3]; exact Rs.same h hy
  ·rw [if_neg h3]
   exact zii h (jgb h2 (by decide) (by decide) hx hy) (jgc (by decide) (by decide) (by omega) (by omega) (by simpa using fun e => h1 (.inr e)))
theorem jzs {m : Nat} {gs : Gs} {x y : Int} (h2 : 2 ≤ m) (h : GI m gs) (hx : NdB m gs x) (hy : NdB m gs y) (hxy : x ≤ y) : Rs m 1 gs (jnc m gs x y) := by
 unfold jnc
 have x0 := hx.1
 by_cases h1 : x = 0
 ·rw [if_pos h1]; exact Rs.same h hy
 ·rw [if_neg h1]
  by_cases h3 : x = 1
  ·rw [if_pos h3]; exact zfz h2 h hy
  ·rw [if_neg h3]
   by_cases h4 : x = y
   ·rw [if_pos h4]; exact Rs.same h ⟨by omega, by omega⟩
   ·rw [if_neg h4]
    by_cases h5 : zo6 m gs x y = true
    ·rw [if_pos h5]; exact Rs.same h ⟨by omega, by omega⟩
    ·rw [if_neg h5]
     exact zii h (jgb h2 (by decide) (by decide) hx hy) (jgc (by decide) (by decide) (by omega) (by omega) (by simpa using h5))
theorem jgd {m : Nat} {gs : Gs} {x y : Int} (hx : NdB m gs x) (hy : NdB m gs y) : NdB m gs (min x y) := by rcases Int.le_total x y with h | h <;> simp only [h, Int.min_eq_left, Int.min_eq_right] <;> assumption
theorem jge {m : Nat} {gs : Gs} {x y : Int} (hx : NdB m gs x) (hy : NdB m gs y) : NdB m gs (max x y) := by rcases Int.le_total x y with h | h <;> simp only [h, Int.max_eq_left, Int.max_eq_right] <;> assumption
theorem jpq (x y : Int) : min x y ≤ max x y := by omega
section
variable {m : Nat} {gs : Gs} {x y z : Int}
theorem zg5 (h2 : 2 ≤ m) (h : GI m gs) (hx : NdB m gs x) (hy : NdB m gs y) : Rs m 1 gs (zg4 m gs x y) := jzr h2 h (jgd hx hy) (jge hx hy) (jpq x y)
theorem zwo (h2 : 2 ≤ m) (h : GI m gs) (hx : NdB m gs x) (hy : NdB m gs y) : Rs m 1 gs (orB m gs x y) := ycv h2 h (jgd hx hy) (jge hx hy) (jpq x y)
theorem zo7 (h2 : 2 ≤ m) (h : GI m gs) (hx : NdB m gs x) (hy : NdB m gs y) : Rs m 1 gs (zm0 m gs x y) := jzs h2 h (jgd hx hy) (jge hx hy) (jpq x y)
theorem Rs.trans {n k : Nat} {r s : Re} (h : Rs m n gs r) (t : Rs m k r.1 s) : Rs m (n + k) gs s := ⟨h.pre.trans t.pre, t.gi, by have := h.len; have := t.len; omega, t.nd⟩
theorem jj1 {o : Int} (h2 : 2 ≤ m) (h : GI m gs) (hx : NdB m gs x) (hy : NdB m gs y) : Rs m 1 gs (opB o m gs x y) := by
 unfold opB
 split
 ·exact zg5 h2 h hx hy
 ·split
  ·exact zwo h2 h hx hy
  ·exact zo7 h2 h hx hy
theorem jaf (h2 : 2 ≤ m) (h : GI m gs) (hx : NdB m gs x) (hy : NdB m gs y) (hz : NdB m gs z) : Rs m 2 gs (ztb m gs x y z) := by
 have x0 := hx.1
 have y0 := hy.1
 have z0 := hz.1
 unfold ztb
 by_cases h1 : x = 0
 ·rw [if_pos h1]; exact Rs.same h hz
 rw [if_neg h1]
 by_cases h3 : x = 1 ∨ y = z
 ·rw [if_pos h3]; exact Rs.same h hy
 rw [if_neg h3]
 by_cases h4 : y = 1
 ·rw [if_pos h4]; exact (zwo h2 h hx hz).mono (by omega)
 rw [if_neg h4]
 by_cases h5 : z = 0
 ·rw [if_pos h5]; exact (zg5 h2 h hx hy).mono (by omega)
 rw [if_neg h5]
 have hn := zfz h2 h hx
 by_cases h6 : y = 0
 ·rw [if_pos h6]; exact hn.trans (zg5 h2 hn.gi hn.nd (hz.pre hn.pre))
 rw [if_neg h6]
 by_cases h7 : z = 1
 ·rw [if_pos h7]; exact hn.trans (zwo h2 hn.gi hn.nd (hy.pre hn.pre))
 rw [if_neg h7]
 exact (zii h ⟨by simp, by simp, x0, hx.2, y0, hy.2, z0, hz.2, by simp, by simp, fun _ => rfl, fun e => absurd e (by simp), fun e => absurd e (by simp)⟩
  ⟨fun e => absurd e (by simp), fun _ e => absurd e (by simp), fun _ => ⟨by simp only; omega, by simp only; omega, by simp only; omega, fun e => h3 (.inr e)⟩, fun e => absurd e (by simp)⟩).mono (by omega)
theorem jzt (h2 : 2 ≤ m) (h : GI m gs) (hx : NdB m gs x) (hy : NdB m gs y) (hz : NdB m gs z) (h1 : x ≤ y) (h3 : y ≤ z) : Rs m 1 gs (jj0 m gs x y z) := by
 have x0 := hx.1
 unfold jj0
 by_cases h4 : x = 0
 ·rw [if_pos h4]; exact zg5 h2 h hy hz
 rw [if_neg h4]
 by_cases h5 : x = 1
 ·rw [if_pos h5]; exact zwo h2 h hy hz
 rw [if_neg h5]
 by_cases h6 : x = y ∨ y = z
 ·rw [if_pos h6]; exact Rs.same h hy
 rw [if_neg h6]
 exact zii h ⟨by simp, by simp, x0, hx.2, hy.1, hy.2, hz.1, hz.2, by simp, by simp, fun _ => rfl, fun e => absurd e (by simp), fun e => absurd e (by simp)⟩
  ⟨fun e => absurd e (by simp), fun _ e => absurd e (by simp), fun e => absurd e (by simp), fun _ => ⟨by simp only; omega, by simp only; omega, by simp only; omega⟩⟩
theorem jzu (x y z : Int) : ∃ a b c, lo3 x y z = a ∧ x + y + z - lo3 x y z - hi3 x y z = b ∧ hi3 x y z = c ∧ a ≤ b ∧ b ≤ c ∧ ((a = x ∧ b = y ∧ c = z) ∨ (a = x ∧ b = z ∧ c = y) ∨ (a = y ∧ b = x ∧ c = z) ∨ (a = y ∧ b = z ∧ c = x) ∨ (a = z ∧ b = x ∧ c = y) ∨ (a = z ∧ b = y ∧ c = x)) := by
 refine ⟨_, _, _, rfl, rfl, rfl, ?_, ?_, ?_⟩ <;> unfold lo3 hi3 <;> omega
theorem jne (h2 : 2 ≤ m) (h : GI m gs) (hx : NdB m gs x) (hy : NdB m gs y) (hz : NdB m gs z) : Rs m 1 gs (jnd m gs x y z) := by
 unfold jnd
 obtain ⟨a, b, c, e1, e2, e3, h1, h3, hh⟩ := jzu x y z
 rw [e2, e1, e3]
 refine jzt h2 h ?_ ?_ ?_ h1 h3 <;> (rcases hh with ⟨rfl, rfl, rfl⟩ | ⟨rfl, rfl, rfl⟩ | ⟨rfl, rfl, rfl⟩ | ⟨rfl, rfl, rfl⟩ | ⟨rfl, rfl, rfl⟩ | ⟨rfl, rfl, rfl⟩ <;> assumption)
end
structure Bs (m n w : Nat) (gs : Gs) (r : Gs × List Int) : Prop where
 pre : gs <+: r.1
 gi : GI m r.1
 len : r.1.length ≤ gs.length + n
 wid : r.2.length = w
 nd : ∀ k, k < w → NdB m r.1 (nth r.2 k)
theorem Bs.at {m n w : Nat} {gs : Gs} {r : Gs × List Int} (h : Bs m n w gs r) {gs' : Gs} (hp : r.1 <+: gs') {k : Nat} (hk : k < w) : NdB m gs' (nth r.2 k) := (h.nd k hk).pre hp
theorem zda {m q : Nat} {gs : Gs} {st : Gs → Nat → Re} (h : GI m gs) : ∀ {n : Nat}, (∀ k, k < n → ∀ gs', gs <+: gs' → GI m gs' → Rs m q gs' (st gs' k)) → Bs m (q * n) n gs (zbh st gs n)
 | 0, _ => ⟨List.prefix_refl _, h, by simp [zbh], rfl, fun k hk => by omega⟩
 | n + 1, hs => by
  have ih := zda (n := n) h fun k hk => hs k (by omega)
  have s := hs n (by omega) _ ih.pre ih.gi
  refine ⟨ih.pre.trans s.pre, s.gi, ?_, by simp [zbh, ih.wid], fun k hk => ?_⟩
  ·have h1 := ih.len
   have h2 := s.len
   show (st (zbh st gs n).1 n).1.length ≤ _
   rw [Nat.mul_succ]; omega
  ·show NdB m (st (zbh st gs n).1 n).1 (nth ((zbh st gs n).2 ++ [(st (zbh st gs n).1 n).2]) k)
   by_cases hl : k < n
   ·rw [jhx (by rw [ih.wid]; exact hl)]; exact (ih.nd k hl).pre s.pre
   ·have : k = (zbh st gs n).2.length := by rw [ih.wid]; omega
    rw [this, jvx]; exact s.nd
structure Ss (m n w : Nat) (gs : Gs) (s : Sm) : Prop where
 bs : Bs m n w gs (s.gs, s.l)
 c : NdB m s.gs s.c
theorem jag {m : Nat} {gs : Gs} {x y : List Int} {c : Int} (h2 : 2 ≤ m) (h : GI m gs) (hx : ∀ k, k < x.length → NdB m gs (nth x k)) (hy : ∀ k, k < x.length → NdB m gs (nth y k)) (hc : NdB m gs c) : ∀ k, k ≤ x.length → Ss m (3 * k) k gs (zm1 m gs x y c k)
 | 0, _ => ⟨⟨List.prefix_refl _, h, by simp [zm1], rfl, fun k hk => by omega⟩, hc⟩
 | k + 1, hk => by
  obtain ⟨ih, ihc⟩ := jag h2 h hx hy hc k (by omega)
  generalize es : zm1 m gs x y c k = s at *
  have ha := zo7 h2 ih.gi ((hx k (by omega)).pre ih.pre) ((hy k (by omega)).pre ih.pre)
  have hb := zo7 h2 ha.gi ha.nd (ihc.pre ha.pre)
  have hab := ha.trans hb
  have bsr : ∀ r : Re, Rs m 1 (zm0 m (zm0 m s.gs (nth x k) (nth y k)).1 (zm0 m s.gs (nth x k) (nth y k)).2 s.c).1 r → Bs m (3 * (k + 1)) (k + 1) gs (r.1, s.l ++ [(zm0 m (zm0 m s.gs (nth x k) (nth y k)).1 (zm0 m s.gs (nth x k) (nth y k)).2 s.c).2]) := fun r hr => by
   have ht := hab.trans hr
   refine ⟨ih.pre.trans ht.pre, ht.gi, ?_, by simp [show s.l.length = k from ih.wid], fun j hj => ?_⟩
   ·have h1 := ih.len
    have h3 := ht.len
    simp only at *
    omega
   ·have hw : s.l.length = k := ih.wid
    by_cases hl : j < k
    ·simp only
     rw [jhx (by rw [hw]; exact hl)]; exact (ih.nd j hl).pre ht.pre
    ·have : j = s.l.length := by omega
     simp only
     rw [this, jvx]; exact hb.nd.pre hr.pre
  rw [zm1]
  simp only [es]
  split
  ·have hd := jne h2 hb.gi ((hx k (by omega)).pre (ih.pre.trans hab.pre)) ((hy k (by omega)).pre (ih.pre.trans hab.pre)) (ihc.pre hab.pre)
   exact ⟨bsr _ hd, hd.nd⟩
  ·exact ⟨bsr (_, s.c) (Rs.same hb.gi (ihc.pre hab.pre)), ihc.pre hab.pre⟩
theorem jpr {m : Nat} {gs : Gs} {x y : List Int} (h2 : 2 ≤ m) (h : GI m gs) (hx : ∀ k, k < x.length → NdB m gs (nth x k)) (hy : ∀ k, k < x.length → NdB m gs (nth y k)) : ∀ k, k ≤ x.length → Rs m (3 * k) gs (ztc m gs x y k)
 | 0, _ => Rs.same h ⟨by decide, by omega⟩
 | k + 1, hk => by
  have ih := jpr h2 h hx hy k (by omega)
  have ha := zo7 h2 ih.gi ((hx k (by omega)).pre ih.pre) ((hy k (by omega)).pre ih.pre)
  have hn := zfz h2 ha.gi ha.nd
  have hd := zg5 h2 hn.gi (ih.nd.pre (ha.pre.trans hn.pre)) hn.nd
  exact (((ih.trans ha).trans hn).trans hd).mono (by omega)
theorem jps {m : Nat} {gs : Gs} {x y : List Int} (h2 : 2 ≤ m) (h : GI m gs) (hx : ∀ k, k < x.length → NdB m gs (nth x k)) (hy : ∀ k, k < x.length → NdB m gs (nth y k)) : ∀ k, k ≤ x.length → Rs m (2 * k) gs (ltB m gs x y k)
 | 0, _ => Rs.same h ⟨by decide, by omega⟩
 | k + 1, hk => by
  have ih := jps h2 h hx hy k (by omega)
  have hn := zfz h2 ih.gi ((hy k (by omega)).pre ih.pre)
  have hd := jne h2 hn.gi ((hx k (by omega)).pre (ih.pre.trans hn.pre)) hn.nd (ih.nd.pre hn.pre)
  exact ((ih.trans hn).trans hd).mono (by omega)
def zck (c : Ct) : Ex → Nat
 | .con _ w => w
 | .reg i => nth c.regs i
 | .dat i => nth c.takes i
 | .not a => zck c a
 | .two _ a _ => zck c a
 | .add a _ => zck c a
 | .sub a _ => zck c a
 | .eq _ _ => 1
 | .lt _ _ => 1
 | .mux _ b _ => zck c b
 | .cat a b => zck c a + zck c b
 | .slc _ w _ => w
 | .ext w _ => w
 | .rd k _ => (nth c.mems k).2
def zbw (c : Ct) : Ex → Nat
 | .con _ _ => 0
 | .reg _ => 0
 | .dat _ => 0
 | .not a => zbw c a + zck c a
 | .two _ a b => zbw c a + zbw c b + zck c a
 | .add a b => zbw c a + zbw c b + 3 * zck c a
 | .sub a b => zbw c a + zbw c b + 4 * zck c a
 | .eq a b => zbw c a + zbw c b + 3 * zck c a
 | .lt a b => zbw c a + zbw c b + (2 * zck c a + 1)
 | .mux a b d => zbw c a + zbw c b + zbw c d + 2 * zck c b
 | .cat a b => zbw c a + zbw c b
 | .slc _ _ a => zbw c a
 | .ext _ a => zbw c a
 | .rd k a => zbw c a + (nth c.mems k).2
def WT (c : Ct) (q : Bool) : Ex → Prop
 | .con v w => 1 ≤ w ∧ w ≤ 8 ∧ v < 2 ^ w
 | .reg i => i < c.regs.length
 | .dat i => q = true ∧ i < c.takes.length
 | .not a => WT c q a
 | .two o a b => (o = 3 ∨ o = 4 ∨ o = 5) ∧ WT c q a ∧ WT c q b ∧ zck c a = zck c b
 | .add a b => WT c q a ∧ WT c q b ∧ zck c a = zck c b
 | .sub a b => WT c q a ∧ WT c q b ∧ zck c a = zck c b
 | .eq a b => WT c q a ∧ WT c q b ∧ zck c a = zck c b
 | .lt a b => WT c q a ∧ WT c q b ∧ zck c a = zck c b
 | .mux a b d => WT c q a ∧ WT c q b ∧ WT c q d ∧ zck c a = 1 ∧ zck c b = zck c d
 | .cat a b => WT c q a ∧ WT c q b ∧ zck c a + zck c b ≤ 8
 | .slc k w a => WT c q a ∧ 1 ≤ w ∧ k + w ≤ zck c a
 | .ext w a => WT c q a ∧ zck c a ≤ w ∧ w ≤ 8
 | .rd k a => WT c q a ∧ k < c.mems.length
structure CtOk (c : Ct) : Prop where
 r : ∀ i, i < c.regs.length → 1 ≤ nth c.regs i ∧ nth c.regs i ≤ 8
 t : ∀ i, i < c.takes.length → 1 ≤ nth c.takes i ∧ nth c.takes i ≤ 8
 m : ∀ i, i < c.mems.length → 1 ≤ (nth c.mems i).1 ∧ (nth c.mems i).1 ≤ 8 ∧ 1 ≤ (nth c.mems i).2 ∧ (nth c.mems i).2 ≤ 8
 l : c.mems.length ≤ 8
theorem zcu {c : Ct} {q : Bool} (hc : CtOk c) : ∀ {e : Ex}, WT c q e → 1 ≤ zck c e ∧ zck c e ≤ 8
 | .con v w, h => ⟨h.1, h.2.1⟩
 | .reg i, h => hc.r i h
 | .dat i, h => hc.t i h.2
 | .not a, h => zcu hc (e := a) h
 | .two o a b, h => zcu hc (e := a) h.2.1
 | .add a b, h => zcu hc (e := a) h.1
 | .sub a b, h => zcu hc (e := a) h.1
 | .eq a b, h => ⟨Nat.le_refl 1, by simp [zck]⟩
 | .lt a b, h => ⟨Nat.le_refl 1, by simp [zck]⟩
 | .mux a b d, h => zcu hc (e := b) h.2.1
 | .cat a b, h => by have := zcu hc (e := a) h.1; have := h.2.2; simp only [zck]; omega
 | .slc k w a, h => by have := zcu hc (e := a) h.1; have := h.2; simp only [zck]; omega
 | .ext w a, h => by have := zcu hc (e := a) h.1; have := h.2; simp only [zck]; omega
 | .rd k a, h => (hc.m k h.2).2.2
structure InOk (c : Ct) (inp : Int → Nat → Nat → Int) (m : Nat) : Prop where
 r : ∀ i k, i < c.regs.length → k < nth c.regs i → 0 ≤ inp 1 i k ∧ inp 1 i k < m
structure DaOk (c : Ct) (q : Bool) (m : Nat) (gs : Gs) (data : List (List Int)) : Prop where
 l : q = true → data.length = c.takes.length
 w : q = true → ∀ i, i < c.takes.length → (nth data i).length = nth c.takes i
 nd : q = true → ∀ i, i < c.takes.length → ∀ k, k < nth c.takes i → NdB m gs (nth (nth data i) k)
theorem DaOk.pre {c : Ct} {q : Bool} {m : Nat} {gs gs' : Gs} {data : List (List Int)} (h : DaOk c q m gs data) (hp : gs <+: gs') : DaOk c q m gs' data := ⟨h.l, h.w, fun e i hi k hk => (h.nd e i hi k hk).pre hp⟩
theorem Bs.ext {m n w k : Nat} {gs : Gs} {r : Gs × List Int} (h : Bs m n w gs r) (hk : n ≤ k) : Bs m k w gs r := ⟨h.pre, h.gi, by have := h.len; omega, h.wid, h.nd⟩
theorem Bs.trans {m n k w v : Nat} {gs : Gs} {r s : Gs × List Int} (h : Bs m n w gs r) (t : Bs m k v r.1 s) : Bs m (n + k) v gs s := ⟨h.pre.trans t.pre, t.gi, by have := h.len; have := t.len; omega, t.wid, t.nd⟩
theorem zu5 {m : Nat} {gs : Gs} {l : List Int} {words j : Nat} (h2 : 2 ≤ m) (h : ∀ k, k < l.length → NdB m gs (nth l k)) (hj : j < 3) : NdB m gs (nth (jcd l words) j) := by
 have e : nth (jcd l words) j = if j < l.length ∧ 2 ^ j < words then nth l j else 0 := by
  unfold jcd nth; simp [List.getD_eq_getElem?_getD, hj]
 rw [e]
 split
 ·rename_i hh; exact h j hh.1
 ·exact ⟨by decide, by omega⟩
theorem jah {β : Type} [Inhabited β] {f : Nat → β} {n k : Nat} (h : k < n) : nth ((List.range n).map f) k = f k := by unfold nth; simp [List.getD_eq_getElem?_getD, h]
theorem jvz {n k : Nat} {x : Int} (h : k < n) : nth (List.replicate n x) k = x := by unfold nth; simp [List.getD_eq_getElem?_getD, h]
theorem jrb {α : Type} [Inhabited α] {l t : List α} {k : Nat} (h : l.length ≤ k) : nth (l ++ t) k = nth t (k - l.length) := by
 unfold nth; simp [List.getD_eq_getElem?_getD, List.getElem?_append_right h]
theorem jv0 {α : Type} [Inhabited α] {l : List α} {a w k : Nat} (h : k < w) : nth ((l.drop a).take w) k = nth l (a + k) := by
 unfold nth; simp [List.getD_eq_getElem?_getD, List.getElem?_take_of_lt h]
theorem jgf {m : Nat} {gs : Gs} {x : Int} (h : NdB m gs x) : ∀ k, k < 1 → NdB m gs (nth [x] k)
 | 0, _ => h
 | k + 1, hk => by omega
theorem zwp {c : Ct} {q : Bool} {inp : Int → Nat → Nat → Int} {m : Nat} {data : List (List Int)} (h2 : 2 ≤ m) (hc : CtOk c) (hi : InOk c inp m) (e : Ex) : ∀ {gs : Gs}, GI m gs → DaOk c q m gs data → WT c q e → Bs m (zbw c e) (zck c e) gs (zbz c inp m data gs e) := by
 induction e with
 | con v w =>
  intro gs h hd ht
  refine ⟨List.prefix_refl _, h, by simp [zbz], by simp [zbz, zck], fun k hk => ?_⟩
  simp only [zbz, zck] at hk ⊢
  rw [jah hk]
  have := Nat.mod_lt (v / 2 ^ k) (show 0 < 2 by decide)
  exact ⟨by omega, by omega⟩
 | reg i =>
  intro gs h hd ht
  refine ⟨List.prefix_refl _, h, by simp [zbz], by simp [zbz, zck], fun k hk => ?_⟩
  simp only [zbz, zck] at hk ⊢
  rw [jah hk]
  have := hi.r i k ht hk
  exact ⟨this.1, by omega⟩
 | dat i =>
  intro gs h hd ht
  exact ⟨List.prefix_refl _, h, by simp [zbz], hd.w ht.1 i ht.2, fun k hk => hd.nd ht.1 i ht.2 k hk⟩
 | not a iha =>
  intro gs h hd ht
  have ha := iha h hd ht
  simp only [zbz, zbw, zck]
  generalize zbz c inp m data gs a = r at *
  rw [ha.wid]
  exact (ha.trans (zda (q := 1) ha.gi fun k hk gs' hp hg => zfz h2 hg (ha.at hp hk))).ext (by omega)
 | two o a b iha ihb =>
  intro gs h hd ht
  obtain ⟨_, ta, tb, hw⟩ := ht
  have ha := iha h hd ta
  simp only [zbz, zbw, zck]
  generalize zbz c inp m data gs a = r at *
  have hb := ihb ha.gi (hd.pre ha.pre) tb
  generalize zbz c inp m data r.1 b = s at *
  rw [ha.wid]
  exact ((ha.trans hb).trans (zda (q := 1) hb.gi fun k hk gs' hp hg => jj1 h2 hg (ha.at (hb.pre.trans hp) hk) (hb.at hp (by omega)))).ext (by omega)
 | add a b iha ihb =>
  intro gs h hd ht
  obtain ⟨ta, tb, hw⟩ := ht
  have ha := iha h hd ta
  simp only [zbz, zbw, zck]
  generalize zbz c inp m data gs a = r at *
  have hb := ihb ha.gi (hd.pre ha.pre) tb
  generalize zbz c inp m data r.1 b = s at *
  rw [ha.wid]
  exact ((ha.trans hb).trans (jag h2 hb.gi (fun k hk => ha.at hb.pre (by rw [ha.wid] at hk; exact hk)) (fun k hk => hb.nd k (by rw [ha.wid] at hk; omega)) ⟨by decide, by omega⟩ _ (by rw [ha.wid]; exact Nat.le_refl _)).bs).ext (by omega)
 | sub a b iha ihb =>
  intro gs h hd ht
  obtain ⟨ta, tb, hw⟩ := ht
  have ha := iha h hd ta
  simp only [zbz, zbw, zck]
  generalize zbz c inp m data gs a = r at *
  have hb := ihb ha.gi (hd.pre ha.pre) tb
  generalize zbz c inp m data r.1 b = s at *
  rw [ha.wid, hb.wid]
  have hn := zda (q := 1) (n := zck c b) hb.gi (st := fun gs i => zj7 m gs (nth s.2 i)) fun k hk gs' hp hg => zfz h2 hg (hb.at hp hk)
  generalize zbh (fun gs i => zj7 m gs (nth s.2 i)) s.1 (zck c b) = n at *
  exact (((ha.trans hb).trans hn).trans (jag h2 hn.gi (fun k hk => ha.at (hb.pre.trans hn.pre) (by rw [ha.wid] at hk; exact hk)) (fun k hk => hn.nd k (by rw [ha.wid] at hk; omega)) ⟨by decide, by omega⟩ _ (by rw [ha.wid]; exact Nat.le_refl _)).bs).ext (by omega)
 | eq a b iha ihb =>
  intro gs h hd ht
  obtain ⟨ta, tb, hw⟩ := ht
  have ha := iha h hd ta
  simp only [zbz, zbw, zck]
  generalize zbz c inp m data gs a = r at *
  have hb := ihb ha.gi (hd.pre ha.pre) tb
  generalize zbz c inp m data r.1 b = s at *
  have hs := jpr h2 hb.gi (x := r.2) (y := s.2) (fun k hk => ha.at hb.pre (by rw [ha.wid] at hk; exact hk)) (fun k hk => hb.nd k (by rw [ha.wid] at hk; omega)) _ (Nat.le_refl _)
  rw [ha.wid] at hs ⊢
  exact ((ha.trans hb).trans (k := 3 * zck c a) (v := 1) ⟨hs.pre, hs.gi, hs.len, rfl, jgf hs.nd⟩).ext (by omega)
 | lt a b iha ihb =>
  intro gs h hd ht
  obtain ⟨ta, tb, hw⟩ := ht
  have ha := iha h hd ta
  simp only [zbz, zbw, zck]
  generalize zbz c inp m data gs a = r at *
  have hb := ihb ha.gi (hd.pre ha.pre) tb
  generalize zbz c inp m data r.1 b = s at *
  have hs0 := jps h2 hb.gi (x := r.2) (y := s.2) (fun k hk => ha.at hb.pre (by rw [ha.wid] at hk; exact hk)) (fun k hk => hb.nd k (by rw [ha.wid] at hk; omega)) _ (Nat.le_refl _)
  rw [ha.wid] at hs0 ⊢
  have hs := hs0.trans (zfz h2 hs0.gi hs0.nd)
  exact ((ha.trans hb).trans (k := 2 * zck c a + 1) (v := 1) ⟨hs.pre, hs.gi, hs.len, rfl, jgf hs.nd⟩).ext (by omega)
 | mux a b d iha ihb ihd =>
  intro gs h hd ht
  obtain ⟨ta, tb, td, w1, hw⟩ := ht
  have ha := iha h hd ta
  simp only [zbz, zbw, zck]
  generalize zbz c inp m data gs a = r at *
  have hb := ihb ha.gi (hd.pre ha.pre) tb
  generalize zbz c inp m data r.1 b = s at *
  have hdd := ihd hb.gi (hd.pre (ha.pre.trans hb.pre)) td
  generalize zbz c inp m data s.1 d = t at *
  rw [hb.wid]
  exact (((ha.trans hb).trans hdd).trans (zda (q := 2) hdd.gi fun k hk gs' hp hg => jaf h2 hg (ha.at (hb.pre.trans (hdd.pre.trans hp)) (by omega)) (hb.at (hdd.pre.trans hp) hk) (hdd.at hp (by omega)))).ext (by omega)
 | cat a b iha ihb =>
  intro gs h hd ht
  obtain ⟨ta, tb, hw⟩ := ht
  have ha := iha h hd ta
  simp only [zbz, zbw, zck]
  generalize zbz c inp m data gs a = r at *
  have hb := ihb ha.gi (hd.pre ha.pre) tb
  generalize zbz c inp m data r.1 b = s at *
  have hab := ha.trans hb
  refine ⟨hab.pre, hab.gi, hab.len, by simp only [List.length_append, hb.wid, ha.wid]; omega, fun k hk => ?_⟩
  by_cases hl : k < s.2.length
  ·rw [show (s.1, s.2 ++ r.2).2 = s.2 ++ r.2 from rfl, jhx hl]; exact hb.nd k (by rw [← hb.wid]; exact hl)
  ·rw [show (s.1, s.2 ++ r.2).2 = s.2 ++ r.2 from rfl, jrb (by omega)]; exact ha.at hb.pre (by rw [hb.wid] at hl ⊢; omega)
 | slc k w a iha =>
  intro gs h hd ht
  obtain ⟨ta, w1, hw⟩ := ht
  have ha := iha h hd ta
  simp only [zbz, zbw, zck]
  generalize zbz c inp m data gs a = r at *
  refine ⟨ha.pre, ha.gi, ha.len, by simp only [List.length_take, List.length_drop, ha.wid]; omega, fun j hj => ?_⟩
  rw [show (r.1, (r.2.drop k).take w).2 = (r.2.drop k).take w from rfl, jv0 hj]
  exact ha.nd _ (by omega)
 | ext w a iha =>
  intro gs h hd ht
  obtain ⟨ta, hw, w8⟩ := ht
  have ha := iha h hd ta
  simp only [zbz, zbw, zck]
  generalize zbz c inp m data gs a = r at *
  refine ⟨ha.pre, ha.gi, ha.len, by simp only [List.length_append, List.length_replicate, ha.wid]; omega, fun k hk => ?_⟩
  by_cases hl : k < r.2.length
  ·rw [show (r.1, r.2 ++ List.replicate (w - r.2.length) (0 : Int)).2 = r.2 ++ List.replicate (w - r.2.length) 0 from rfl, jhx hl]; exact ha.nd k (by rw [← ha.wid]; exact hl)
  ·rw [show (r.1, r.2 ++ List.replicate (w - r.2.length) (0 : Int)).2 = r.2 ++ List.replicate (w - r.2.length) 0 from rfl, jrb (by omega), jvz (by omega)]; exact ⟨by decide, by omega⟩
 | rd k a iha =>
  intro gs h hd ht
  obtain ⟨ta, hk⟩ := ht
  have ha := iha h hd ta
  simp only [zbz, zbw, zck]
  generalize zbz c inp m data gs a = r at *
  have hm := hc.m k hk
  have hl := hc.l
  refine (ha.trans (zda (q := 1) (n := (nth c.mems k).2) ha.gi fun i hik gs' hp hg => ?_)).ext (by omega)
  have n0 := zu5 (m := m) (gs := gs') (l := r.2) (words := (nth c.mems k).1) (j := 0) h2 (fun j hj => ha.at hp (by rw [ha.wid] at hj; exact hj)) (by decide)
  have n1 := zu5 (m := m) (gs := gs') (l := r.2) (words := (nth c.mems k).1) (j := 1) h2 (fun j hj => ha.at hp (by rw [ha.wid] at hj; exact hj)) (by decide)
  have n2 := zu5 (m := m) (gs := gs') (l := r.2) (words := (nth c.mems k).1) (j := 2) h2 (fun j hj => ha.at hp (by rw [ha.wid] at hj; exact hj)) (by decide)
  exact zii hg ⟨by simp, by simp, n0.1, n0.2, n1.1, n1.2, n2.1, n2.2, by simp only; omega, by simp only; omega, fun e => absurd rfl e, fun e => absurd e (by simp), fun e => absurd e (by simp)⟩
   ⟨fun e => absurd e (by simp), fun _ e => absurd e (by simp), fun e => absurd e (by simp), fun e => absurd e (by simp)⟩
end Go.Proofs.Ytapjobndmmkanaa
