/- The builder of netlists, as functions; what it keeps. -/
import Derived.Test.YtapjobndmmkanaaDb
import Derived.Test.YtapjobndmmkanaaTy
import Derived.Test.YtapjobndmmkanaaAZ
set_option linter.unusedVariables false
set_option linter.unusedSimpArgs false
namespace Go.Proofs.Ytapjobndmmkanaa
open Go Go.RowKit
section
instance : DecidableEq Gate := fun ⟨a1, a2, a3, a4, a5⟩ ⟨b1, b2, b3, b4, b5⟩ =>
 if h : a1 = b1 ∧ a2 = b2 ∧ a3 = b3 ∧ a4 = b4 ∧ a5 = b5 then isTrue (by obtain ⟨h1, h2, h3, h4, h5⟩ := h; subst h1 h2 h3 h4 h5; rfl)
 else isFalse fun e => h (by cases e; exact ⟨rfl, rfl, rfl, rfl, rfl⟩)
abbrev Gs := List Gate
def zvx (g : Gate) : Gs → Nat
 | [] => 0
 | x :: l => if x = g then 0 else zvx g l + 1
theorem zz3 {g : Gate} : ∀ {l : Gs}, g ∈ l → zvx g l < l.length ∧ nth l (zvx g l) = g
 | [], h => by cases h
 | x :: l, h => by
  rw [zvx]
  by_cases e : x = g
  ·rw [if_pos e]; exact ⟨by simp, by simpa [nth] using e⟩
  ·rw [if_neg e]
   have hl : g ∈ l := by
    rcases List.mem_cons.1 h with h | h
    ·exact absurd h.symm e
    ·exact h
   obtain ⟨h1, h2⟩ := zz3 hl
   exact ⟨by simpa using h1, by simpa [nth] using h2⟩
theorem znz {g : Gate} : ∀ {l m : Gs}, g ∈ l → zvx g (l ++ m) = zvx g l
 | [], _, h => by cases h
 | x :: l, m, h => by
  rw [List.cons_append, zvx, zvx]
  by_cases e : x = g
  ·rw [if_pos e, if_pos e]
  ·rw [if_neg e, if_neg e]
   have hl : g ∈ l := by
    rcases List.mem_cons.1 h with h | h
    ·exact absurd h.symm e
    ·exact h
   rw [znz hl]
theorem zrd {g : Gate} : ∀ {l : Gs}, ¬ g ∈ l → zvx g (l ++ [g]) = l.length
 | [], _ => by simp [zvx]
 | x :: l, h => by
  rw [List.cons_append, zvx, if_neg (fun e => h (by simp [e])), zrd (fun h' => h (List.mem_cons_of_mem _ h'))]; rfl
abbrev Re := Gs × Int
def zct (m : Nat) (gs : Gs) (g : Gate) : Re := if g ∈ gs then (gs, ((m + zvx g gs : Nat) : Int)) else (gs ++ [g], ((m + gs.length : Nat) : Int))
def zfy (m : Nat) (gs : Gs) (x : Int) : Int := if (m : Int) ≤ x ∧ (nth gs (x - m).toNat).op = 1 then (nth gs (x - m).toNat).a else -1
def zlj (m : Nat) (gs : Gs) (x y : Int) : Bool := decide (zfy m gs x = y) || decide (zfy m gs y = x)
def zdk (m : Nat) (gs : Gs) (x : Int) : Re := if x < 2 then (gs, 1 - x) else if 0 ≤ zfy m gs x then (gs, zfy m gs x) else zct m gs ⟨1, x, 0, 0, 0⟩
def jn0 (m : Nat) (gs : Gs) (x y : Int) : Re := if x = 0 ∨ zlj m gs x y = true then (gs, 0) else if x = 1 ∨ x = y then (gs, y) else zct m gs ⟨2, x, y, 0, 0⟩
def zda (m : Nat) (gs : Gs) (x y : Int) : Re := jn0 m gs (min x y) (max x y)
def orS (m : Nat) (gs : Gs) (x y : Int) : Re := if x = 1 ∨ zlj m gs x y = true then (gs, 1) else if x = 0 ∨ x = y then (gs, y) else zct m gs ⟨3, x, y, 0, 0⟩
def orB (m : Nat) (gs : Gs) (x y : Int) : Re := orS m gs (min x y) (max x y)
def jn1 (m : Nat) (gs : Gs) (x y : Int) : Re := if x = 0 then (gs, y) else if x = 1 then zdk m gs y else if x = y then (gs, 0) else if zlj m gs x y = true then (gs, 1) else zct m gs ⟨4, x, y, 0, 0⟩
def zhj (m : Nat) (gs : Gs) (x y : Int) : Re := jn1 m gs (min x y) (max x y)
def zj0 (m : Nat) (gs : Gs) (x y z : Int) : Re :=
 if x = 0 then (gs, z) else if x = 1 ∨ y = z then (gs, y) else if y = 1 then orB m gs x z else if z = 0 then zda m gs x y
 else if y = 0 then (let n := zdk m gs x; zda m n.1 n.2 z) else if z = 1 then (let n := zdk m gs x; orB m n.1 n.2 y) else zct m gs ⟨5, x, y, z, 0⟩
def jn2 (m : Nat) (gs : Gs) (x y z : Int) : Re := if x = 0 then zda m gs y z else if x = 1 then orB m gs y z else if x = y ∨ y = z then (gs, y) else zct m gs ⟨6, x, y, z, 0⟩
def lo3 (x y z : Int) : Int := min (min x y) z
def hi3 (x y z : Int) : Int := max (max x y) z
def zz4 (m : Nat) (gs : Gs) (x y z : Int) : Re := jn2 m gs (lo3 x y z) (x + y + z - lo3 x y z - hi3 x y z) (hi3 x y z)
def zbs (st : Gs → Nat → Re) (gs : Gs) : Nat → Gs × List Int
 | 0 => (gs, [])
 | k + 1 => let s := zbs st gs k; let r := st s.1 k; (r.1, s.2 ++ [r.2])
theorem zre {st : Gs → Nat → Re} {gs : Gs} : ∀ k, (zbs st gs k).2.length = k
 | 0 => rfl
 | k + 1 => by simp [zbs, zre k]
def opB (o : Int) (m : Nat) (gs : Gs) (x y : Int) : Re := if o = 3 then zda m gs x y else if o = 4 then orB m gs x y else zhj m gs x y
structure Sm where
 gs : Gs
 c : Int
 l : List Int
def zfk (m : Nat) (gs : Gs) (x y : List Int) (c : Int) : Nat → Sm
 | 0 => ⟨gs, c, []⟩
 | k + 1 =>
  let s := zfk m gs x y c k
  let a := zhj m s.gs (nth x k) (nth y k)
  let b := zhj m a.1 a.2 s.c
  if k + 1 < x.length then (let d := zz4 m b.1 (nth x k) (nth y k) s.c; ⟨d.1, d.2, s.l ++ [b.2]⟩) else ⟨b.1, s.c, s.l ++ [b.2]⟩
def ztv (m : Nat) (gs : Gs) (x y : List Int) : Nat → Re
 | 0 => (gs, 1)
 | k + 1 => let s := ztv m gs x y k; let a := zhj m s.1 (nth x k) (nth y k); let n := zdk m a.1 a.2; zda m n.1 s.2 n.2
def ltB (m : Nat) (gs : Gs) (x y : List Int) : Nat → Re
 | 0 => (gs, 1)
 | k + 1 => let s := ltB m gs x y k; let n := zdk m s.1 (nth y k); zz4 m n.1 (nth x k) n.2 s.2
inductive Ex where
 | con (v w : Nat)
 | reg (i : Nat)
 | dat (i : Nat)
 | not (a : Ex)
 | two (o : Int) (a b : Ex)
 | add (a b : Ex)
 | sub (a b : Ex)
 | eq (a b : Ex)
 | lt (a b : Ex)
 | mux (a b c : Ex)
 | cat (a b : Ex)
 | slc (k w : Nat) (a : Ex)
 | ext (w : Nat) (a : Ex)
 | rd (k : Nat) (a : Ex)
 deriving Inhabited
structure Ct where
 regs : List Nat
 takes : List Nat
 mems : List (Nat × Nat)
def zjk (l : List Int) (words : Nat) : List Int := (List.range 3).map fun k => if k < l.length ∧ 2 ^ k < words then nth l k else 0
def zbz (c : Ct) (inp : Int → Nat → Nat → Int) (m : Nat) (data : List (List Int)) : Gs → Ex → Gs × List Int
 | gs, .con v w => (gs, (List.range w).map fun i => ((v / 2 ^ i % 2 : Nat) : Int))
 | gs, .reg i => (gs, (List.range (nth c.regs i)).map fun k => inp 1 i k)
 | gs, .dat i => (gs, nth data i)
 | gs, .not a => let r := zbz c inp m data gs a; zbs (fun gs i => zdk m gs (nth r.2 i)) r.1 r.2.length
 | gs, .two o a b => let r := zbz c inp m data gs a; let s := zbz c inp m data r.1 b; zbs (fun gs i => opB o m gs (nth r.2 i) (nth s.2 i)) s.1 r.2.length
 | gs, .add a b => let r := zbz c inp m data gs a; let s := zbz c inp m data r.1 b; let t := zfk m s.1 r.2 s.2 0 r.2.length; (t.gs, t.l)
 | gs, .sub a b => let r := zbz c inp m data gs a; let s := zbz c inp m data r.1 b; let n := zbs (fun gs i => zdk m gs (nth s.2 i)) s.1 s.2.length; let t := zfk m n.1 r.2 n.2 1 r.2.length; (t.gs, t.l)
 | gs, .eq a b => let r := zbz c inp m data gs a; let s := zbz c inp m data r.1 b; let t := ztv m s.1 r.2 s.2 r.2.length; (t.1, [t.2])
 | gs, .lt a b => let r := zbz c inp m data gs a; let s := zbz c inp m data r.1 b; let t := ltB m s.1 r.2 s.2 r.2.length; let n := zdk m t.1 t.2; (n.1, [n.2])
 | gs, .mux a b d => let r := zbz c inp m data gs a; let s := zbz c inp m data r.1 b; let t := zbz c inp m data s.1 d; zbs (fun gs i => zj0 m gs (nth r.2 0) (nth s.2 i) (nth t.2 i)) t.1 s.2.length
 | gs, .cat a b => let r := zbz c inp m data gs a; let s := zbz c inp m data r.1 b; (s.1, s.2 ++ r.2)
 | gs, .slc k w a => let r := zbz c inp m data gs a; (r.1, (r.2.drop k).take w)
 | gs, .ext w a => let r := zbz c inp m data gs a; (r.1, r.2 ++ List.replicate (w - r.2.length) 0)
 | gs, .rd k a => let r := zbz c inp m data gs a; let d := zjk r.2 (nth c.mems k).1; zbs (fun gs i => zct m gs ⟨7, nth d 0, nth d 1, nth d 2, ((8 * k + i : Nat) : Int)⟩) r.1 (nth c.mems k).2
def NdB (m : Nat) (gs : Gs) (x : Int) : Prop := 0 ≤ x ∧ x < (m : Int) + gs.length
structure RgG (lim : Int) (g : Gate) : Prop where
 o1 : 1 ≤ g.op
 o2 : g.op ≤ 7
 a0 : 0 ≤ g.a
 a1 : g.a < lim
 b0 : 0 ≤ g.b
 b1 : g.b < lim
 c0 : 0 ≤ g.c
 c1 : g.c < lim
 n0 : 0 ≤ g.n
 n1 : g.n < 64
 nz : g.op ≠ 7 → g.n = 0
 bz : g.op = 1 → g.b = 0
 cz : g.op ≤ 4 → g.c = 0
structure NoG (m : Nat) (gs : Gs) (g : Gate) : Prop where
 nt : g.op = 1 → 2 ≤ g.a ∧ zfy m gs g.a = -1
 tw : 2 ≤ g.op → g.op ≤ 4 → 2 ≤ g.a ∧ g.a < g.b ∧ zfy m gs g.a ≠ g.b ∧ zfy m gs g.b ≠ g.a
 mx : g.op = 5 → 2 ≤ g.a ∧ 2 ≤ g.b ∧ 2 ≤ g.c ∧ g.b ≠ g.c
 mj : g.op = 6 → 2 ≤ g.a ∧ g.a < g.b ∧ g.b < g.c
structure GI (m : Nat) (gs : Gs) : Prop where
 rg : ∀ k, k < gs.length → RgG ((m : Int) + k) (nth gs k)
 no : ∀ k, k < gs.length → NoG m gs (nth gs k)
 nd : gs.Nodup
theorem jis {α : Type} [Inhabited α] {l t : List α} {k : Nat} (h : k < l.length) : nth (l ++ t) k = nth l k := by
 unfold nth; simp [List.getD_eq_getElem?_getD, List.getElem?_append_left h]
theorem jvx {α : Type} [Inhabited α] {l : List α} {x : α} : nth (l ++ [x]) l.length = x := by unfold nth; simp [List.getD_eq_getElem?_getD]
theorem zrf {m : Nat} {gs t : Gs} {x : Int} (h : x < (m : Int) + gs.length) : zfy m (gs ++ t) x = zfy m gs x := by
 unfold zfy
 by_cases hx : (m : Int) ≤ x
 ·rw [jis (show (x - m).toNat < gs.length by omega)]
 ·rw [if_neg (fun e => hx e.1), if_neg (fun e => hx e.1)]
theorem zvy {m : Nat} {gs gs' : Gs} {x : Int} (hp : gs <+: gs') (h : x < (m : Int) + gs.length) : zfy m gs' x = zfy m gs x := by
 obtain ⟨t, rfl⟩ := hp; exact zrf h
theorem NdB.pre {m : Nat} {gs gs' : Gs} {x : Int} (h : NdB m gs x) (hp : gs <+: gs') : NdB m gs' x := by
 have := hp.length_le
 exact ⟨h.1, by have := h.2; omega⟩
theorem NoG.app {m : Nat} {gs t : Gs} {g : Gate} (h : NoG m gs g) (hr : RgG ((m : Int) + gs.length) g) : NoG m (gs ++ t) g := by
 have ha := hr.a1
 have hb := hr.b1
 exact ⟨fun e => by rw [zrf ha]; exact h.nt e, fun e f => by rw [zrf ha, zrf hb]; exact h.tw e f, h.mx, h.mj⟩
theorem RgG.mono {a b : Int} {g : Gate} (h : RgG a g) (hab : a ≤ b) : RgG b g := by
 obtain ⟨o1, o2, a0, a1, b0, b1, c0, c1, n0, n1, z1, z2, z3⟩ := h
 exact ⟨o1, o2, a0, by omega, b0, by omega, c0, by omega, n0, n1, z1, z2, z3⟩
theorem GI.nil (m : Nat) : GI m [] := ⟨fun k h => by simp at h, fun k h => by simp at h, .nil⟩
theorem GI.snoc {m : Nat} {gs : Gs} {g : Gate} (h : GI m gs) (hr : RgG ((m : Int) + gs.length) g) (hn : NoG m gs g) (hm : ¬ g ∈ gs) : GI m (gs ++ [g]) := by
 refine ⟨fun k hk => ?_, fun k hk => ?_, ?_⟩
 ·by_cases hl : k < gs.length
  ·rw [jis hl]; exact h.rg k hl
  ·have : k = gs.length := by simp at hk; omega
   subst this
   rw [jvx]; exact hr
 ·by_cases hl : k < gs.length
  ·rw [jis hl]; exact (h.no k hl).app ((h.rg k hl).mono (by omega))
  ·have : k = gs.length := by simp at hk; omega
   subst this
   rw [jvx]; exact hn.app hr
 ·rw [List.nodup_append]
  exact ⟨h.nd, by simp, fun a ha b hb e => by simp at hb; subst hb; subst e; exact hm ha⟩
structure Rs (m n : Nat) (gs : Gs) (r : Re) : Prop where
 pre : gs <+: r.1
 gi : GI m r.1
 len : r.1.length ≤ gs.length + n
 nd : NdB m r.1 r.2
theorem Rs.mono {m n k : Nat} {gs : Gs} {r : Re} (h : Rs m n gs r) (hk : n ≤ k) : Rs m k gs r := ⟨h.pre, h.gi, by have := h.len; omega, h.nd⟩
theorem Rs.same {m n : Nat} {gs : Gs} {x : Int} (h : GI m gs) (hx : NdB m gs x) : Rs m n gs (gs, x) := ⟨List.prefix_refl _, h, by simp, hx⟩
theorem zir {m : Nat} {gs : Gs} {g : Gate} (h : GI m gs) (hr : RgG ((m : Int) + gs.length) g) (hn : NoG m gs g) : Rs m 1 gs (zct m gs g) := by
 unfold zct
 by_cases hm : g ∈ gs
 ·rw [if_pos hm]
  have := (zz3 hm).1
  exact Rs.same h ⟨by omega, by omega⟩
 ·rw [if_neg hm]
  exact ⟨List.prefix_append _ _, h.snoc hr hn hm, by simp, by simp only; omega, by simp; omega⟩
theorem jvy {m : Nat} {gs : Gs} {x : Int} (h : GI m gs) (hx : NdB m gs x) : zfy m gs x = -1 ∨ (2 ≤ zfy m gs x ∧ zfy m gs x < x ∧ zfy m gs (zfy m gs x) = -1) := by
 by_cases e : (m : Int) ≤ x ∧ (nth gs (x - m).toNat).op = 1
 ·right
  have hk : (x - m).toNat < gs.length := by have := hx.2; omega
  have h1 := h.rg _ hk
  have h2 := (h.no _ hk).nt e.2
  have e1 : zfy m gs x = (nth gs (x - m).toNat).a := by unfold zfy; rw [if_pos e]
  have := h1.a1
  rw [e1]
  exact ⟨h2.1, by omega, h2.2⟩
 ·left; unfold zfy; rw [if_neg e]
theorem zfu {m : Nat} {gs : Gs} {x : Int} (h2 : 2 ≤ m) (h : GI m gs) (hx : NdB m gs x) : Rs m 1 gs (zdk m gs x) := by
 unfold zdk
 by_cases h1 : x < 2
 ·rw [if_pos h1]; exact Rs.same h ⟨by have := hx.1; omega, by have := hx.1; omega⟩
 ·rw [if_neg h1]
  rcases jvy h hx with hi | ⟨hi, hj, _⟩
  ·rw [if_neg (by omega)]
   have hx1 := hx.2
   exact zir h ⟨by simp, by simp, hx.1, hx1, by simp, by simp only; omega, by simp, by simp only; omega, by simp, by simp, fun _ => rfl, fun _ => rfl, fun _ => rfl⟩ ⟨fun _ => ⟨by simp only; omega, hi⟩, fun a => absurd a (by simp), fun a => absurd a (by simp), fun a => absurd a (by simp)⟩
  ·rw [if_pos (by omega)]
   exact Rs.same h ⟨by omega, by have := hx.2; omega⟩
theorem jf4 {m : Nat} {gs : Gs} {x y o : Int} (h2 : 2 ≤ m) (o1 : 2 ≤ o) (o2 : o ≤ 4) (hx : NdB m gs x) (hy : NdB m gs y) : RgG ((m : Int) + gs.length) ⟨o, x, y, 0, 0⟩ :=
 ⟨by simp only; omega, by simp only; omega, hx.1, hx.2, hy.1, hy.2, by simp, by simp only; omega, by simp, by simp, fun _ => rfl, fun e => absurd e (by simp only; omega), fun _ => rfl⟩
theorem jf5 {m : Nat} {gs : Gs} {x y o : Int} (o1 : 2 ≤ o) (o2 : o ≤ 4) (hx : 2 ≤ x) (hxy : x < y) (hi : zlj m gs x y = false) : NoG m gs ⟨o, x, y, 0, 0⟩ := by
 simp only [zlj, Bool.or_eq_false_iff, decide_eq_false_iff_not] at hi
 exact ⟨fun e => absurd e (by simp only; omega), fun _ _ => ⟨hx, hxy, hi.1, hi.2⟩, fun e => absurd e (by simp only; omega), fun e => absurd e (by simp only; omega)⟩
theorem jvz {m : Nat} {gs : Gs} {x y : Int} (h2 : 2 ≤ m) (h : GI m gs) (hx : NdB m gs x) (hy : NdB m gs y) (hxy : x ≤ y) : Rs m 1 gs (jn0 m gs x y) := by
 unfold jn0
 have x0 := hx.1
 by_cases h1 : x = 0 ∨ zlj m gs x y = true
 ·rw [if_pos h1]; exact Rs.same h ⟨by omega, by omega⟩
 ·rw [if_neg h1]
  by_cases h3 : x = 1 ∨ x = y
  ·rw [if_pos h3]; exact Rs.same h hy
  ·rw [if_neg h3]
   exact zir h (jf4 h2 (by decide) (by decide) hx hy) (jf5 (by decide) (by decide) (by omega) (by omega) (by simpa using fun e => h1 (.inr e)))
theorem ye9 {m : Nat} {gs : Gs} {x y : Int} (h2 : 2 ≤ m) (h : GI m gs) (hx : NdB m gs x) (hy : NdB m gs y) (hxy : x ≤ y) : Rs m 1 gs (orS m gs x y) := by
 unfold orS
 have x0 := hx.1
 by_cases h1 : x = 1 ∨ zlj m gs x y = true
 ·rw [if_pos h1]; exact Rs.same h ⟨by omega, by omega⟩
 ·rw [if_neg h1]
  by_cases h3 : x = 0 ∨ x = y
  ·rw [if_pos h3]; exact Rs.same h hy
  ·rw [if_neg h3]
   exact zir h (jf4 h2 (by decide) (by decide) hx hy) (jf5 (by decide) (by decide) (by omega) (by omega) (by simpa using fun e => h1 (.inr e)))
theorem jv0 {m : Nat} {gs : Gs} {x y : Int} (h2 : 2 ≤ m) (h : GI m gs) (hx : NdB m gs x) (hy : NdB m gs y) (hxy : x ≤ y) : Rs m 1 gs (jn1 m gs x y) := by
 unfold jn1
 have x0 := hx.1
 by_cases h1 : x = 0
 ·rw [if_pos h1]; exact Rs.same h hy
 ·rw [if_neg h1]
  by_cases h3 : x = 1
  ·rw [if_pos h3]; exact zfu h2 h hy
  ·rw [if_neg h3]
   by_cases h4 : x = y
   ·rw [if_pos h4]; exact Rs.same h ⟨by omega, by omega⟩
   ·rw [if_neg h4]
    by_cases h5 : zlj m gs x y = true
    ·rw [if_pos h5]; exact Rs.same h ⟨by omega, by omega⟩
    ·rw [if_neg h5]
     exact zir h (jf4 h2 (by decide) (by decide) hx hy) (jf5 (by decide) (by decide) (by omega) (by omega) (by simpa using h5))
theorem zk9 {m : Nat} {gs : Gs} {x y : Int} (hx : NdB m gs x) (hy : NdB m gs y) : NdB m gs (min x y) := by rcases Int.le_total x y with h | h <;> simp only [h, Int.min_eq_left, Int.min_eq_right] <;> assumption
theorem zla {m : Nat} {gs : Gs} {x y : Int} (hx : NdB m gs x) (hy : NdB m gs y) : NdB m gs (max x y) := by rcases Int.le_total x y with h | h <;> simp only [h, Int.max_eq_left, Int.max_eq_right] <;> assumption
theorem jbv (x y : Int) : min x y ≤ max x y := by omega
section
variable {m : Nat} {gs : Gs} {x y z : Int}
theorem zgi (h2 : 2 ≤ m) (h : GI m gs) (hx : NdB m gs x) (hy : NdB m gs y) : Rs m 1 gs (zda m gs x y) := jvz h2 h (zk9 hx hy) (zla hx hy) (jbv x y)
theorem zvz (h2 : 2 ≤ m) (h : GI m gs) (hx : NdB m gs x) (hy : NdB m gs y) : Rs m 1 gs (orB m gs x y) := ye9 h2 h (zk9 hx hy) (zla hx hy) (jbv x y)
theorem zj1 (h2 : 2 ≤ m) (h : GI m gs) (hx : NdB m gs x) (hy : NdB m gs y) : Rs m 1 gs (zhj m gs x y) := jv0 h2 h (zk9 hx hy) (zla hx hy) (jbv x y)
theorem Rs.trans {n k : Nat} {r s : Re} (h : Rs m n gs r) (t : Rs m k r.1 s) : Rs m (n + k) gs s := ⟨h.pre.trans t.pre, t.gi, by have := h.len; have := t.len; omega, t.nd⟩
theorem ycd {o : Int} (h2 : 2 ≤ m) (h : GI m gs) (hx : NdB m gs x) (hy : NdB m gs y) : Rs m 1 gs (opB o m gs x y) := by
 unfold opB
 split
 ·exact zgi h2 h hx hy
 ·split
  ·exact zvz h2 h hx hy
  ·exact zj1 h2 h hx hy
theorem ztw (h2 : 2 ≤ m) (h : GI m gs) (hx : NdB m gs x) (hy : NdB m gs y) (hz : NdB m gs z) : Rs m 2 gs (zj0 m gs x y z) := by
 have x0 := hx.1
 have y0 := hy.1
 have z0 := hz.1
 unfold zj0
 by_cases h1 : x = 0
 ·rw [if_pos h1]; exact Rs.same h hz
 rw [if_neg h1]
 by_cases h3 : x = 1 ∨ y = z
 ·rw [if_pos h3]; exact Rs.same h hy
 rw [if_neg h3]
 by_cases h4 : y = 1
 ·rw [if_pos h4]; exact (zvz h2 h hx hz).mono (by omega)
 rw [if_neg h4]
 by_cases h5 : z = 0
 ·rw [if_pos h5]; exact (zgi h2 h hx hy).mono (by omega)
 rw [if_neg h5]
 have hn := zfu h2 h hx
 by_cases h6 : y = 0
 ·rw [if_pos h6]; exact hn.trans (zgi h2 hn.gi hn.nd (hz.pre hn.pre))
 rw [if_neg h6]
 by_cases h7 : z = 1
 ·rw [if_pos h7]; exact hn.trans (zvz h2 hn.gi hn.nd (hy.pre hn.pre))
 rw [if_neg h7]
 exact (zir h ⟨by simp, by simp, x0, hx.2, y0, hy.2, z0, hz.2, by simp, by simp, fun _ => rfl, fun e => absurd e (by simp), fun e => absurd e (by simp)⟩
  ⟨fun e => absurd e (by simp), fun _ e => absurd e (by simp), fun _ => ⟨by simp only; omega, by simp only; omega, by simp only; omega, fun e => h3 (.inr e)⟩, fun e => absurd e (by simp)⟩).mono (by omega)
theorem yce (h2 : 2 ≤ m) (h : GI m gs) (hx : NdB m gs x) (hy : NdB m gs y) (hz : NdB m gs z) (h1 : x ≤ y) (h3 : y ≤ z) : Rs m 1 gs (jn2 m gs x y z) := by
 have x0 := hx.1
 unfold jn2
 by_cases h4 : x = 0
 ·rw [if_pos h4]; exact zgi h2 h hy hz
 rw [if_neg h4]
 by_cases h5 : x = 1
 ·rw [if_pos h5]; exact zvz h2 h hy hz
 rw [if_neg h5]
 by_cases h6 : x = y ∨ y = z
 ·rw [if_pos h6]; exact Rs.same h hy
 rw [if_neg h6]
 exact zir h ⟨by simp, by simp, x0, hx.2, hy.1, hy.2, hz.1, hz.2, by simp, by simp, fun _ => rfl, fun e => absurd e (by simp), fun e => absurd e (by simp)⟩
  ⟨fun e => absurd e (by simp), fun _ e => absurd e (by simp), fun e => absurd e (by simp), fun _ => ⟨by simp only; omega, by simp only; omega, by simp only; omega⟩⟩
theorem jp3 (x y z : Int) : ∃ a b c, lo3 x y z = a ∧ x + y + z - lo3 x y z - hi3 x y z = b ∧ hi3 x y z = c ∧ a ≤ b ∧ b ≤ c ∧ ((a = x ∧ b = y ∧ c = z) ∨ (a = x ∧ b = z ∧ c = y) ∨ (a = y ∧ b = x ∧ c = z) ∨ (a = y ∧ b = z ∧ c = x) ∨ (a = z ∧ b = x ∧ c = y) ∨ (a = z ∧ b = y ∧ c = x)) := by
 refine ⟨_, _, _, rfl, rfl, rfl, ?_, ?_, ?_⟩ <;> unfold lo3 hi3 <;> omega
theorem jf6 (h2 : 2 ≤ m) (h : GI m gs) (hx : NdB m gs x) (hy : NdB m gs y) (hz : NdB m gs z) : Rs m 1 gs (zz4 m gs x y z) := by
 unfold zz4
 obtain ⟨a, b, c, e1, e2, e3, h1, h3, hh⟩ := jp3 x y z
 rw [e2, e1, e3]
 refine yce h2 h ?_ ?_ ?_ h1 h3 <;> (rcases hh with ⟨rfl, rfl, rfl⟩ | ⟨rfl, rfl, rfl⟩ | ⟨rfl, rfl, rfl⟩ | ⟨rfl, rfl, rfl⟩ | ⟨rfl, rfl, rfl⟩ | ⟨rfl, rfl, rfl⟩ <;> assumption)
end
structure Bs (m n w : Nat) (gs : Gs) (r : Gs × List Int) : Prop where
 pre : gs <+: r.1
 gi : GI m r.1
 len : r.1.length ≤ gs.length + n
 wid : r.2.length = w
 nd : ∀ k, k < w → NdB m r.1 (nth r.2 k)
theorem Bs.at {m n w : Nat} {gs : Gs} {r : Gs × List Int} (h : Bs m n w gs r) {gs' : Gs} (hp : r.1 <+: gs') {k : Nat} (hk : k < w) : NdB m gs' (nth r.2 k) := (h.nd k hk).pre hp
theorem zcv {m q : Nat} {gs : Gs} {st : Gs → Nat → Re} (h : GI m gs) : ∀ {n : Nat}, (∀ k, k < n → ∀ gs', gs <+: gs' → GI m gs' → Rs m q gs' (st gs' k)) → Bs m (q * n) n gs (zbs st gs n)
 | 0, _ => ⟨List.prefix_refl _, h, by simp [zbs], rfl, fun k hk => by omega⟩
 | n + 1, hs => by
  have ih := zcv (n := n) h fun k hk => hs k (by omega)
  have s := hs n (by omega) _ ih.pre ih.gi
  refine ⟨ih.pre.trans s.pre, s.gi, ?_, by simp [zbs, ih.wid], fun k hk => ?_⟩
  ·have h1 := ih.len
   have h2 := s.len
   show (st (zbs st gs n).1 n).1.length ≤ _
   rw [Nat.mul_succ]; omega
  ·show NdB m (st (zbs st gs n).1 n).1 (nth ((zbs st gs n).2 ++ [(st (zbs st gs n).1 n).2]) k)
   by_cases hl : k < n
   ·rw [jis (by rw [ih.wid]; exact hl)]; exact (ih.nd k hl).pre s.pre
   ·have : k = (zbs st gs n).2.length := by rw [ih.wid]; omega
    rw [this, jvx]; exact s.nd
structure Ss (m n w : Nat) (gs : Gs) (s : Sm) : Prop where
 bs : Bs m n w gs (s.gs, s.l)
 c : NdB m s.gs s.c
theorem zql {m : Nat} {gs : Gs} {x y : List Int} {c : Int} (h2 : 2 ≤ m) (h : GI m gs) (hx : ∀ k, k < x.length → NdB m gs (nth x k)) (hy : ∀ k, k < x.length → NdB m gs (nth y k)) (hc : NdB m gs c) : ∀ k, k ≤ x.length → Ss m (3 * k) k gs (zfk m gs x y c k)
 | 0, _ => ⟨⟨List.prefix_refl _, h, by simp [zfk], rfl, fun k hk => by omega⟩, hc⟩
 | k + 1, hk => by
  obtain ⟨ih, ihc⟩ := zql h2 h hx hy hc k (by omega)
  generalize es : zfk m gs x y c k = s at *
  have ha := zj1 h2 ih.gi ((hx k (by omega)).pre ih.pre) ((hy k (by omega)).pre ih.pre)
  have hb := zj1 h2 ha.gi ha.nd (ihc.pre ha.pre)
  have hab := ha.trans hb
  have bsr : ∀ r : Re, Rs m 1 (zhj m (zhj m s.gs (nth x k) (nth y k)).1 (zhj m s.gs (nth x k) (nth y k)).2 s.c).1 r → Bs m (3 * (k + 1)) (k + 1) gs (r.1, s.l ++ [(zhj m (zhj m s.gs (nth x k) (nth y k)).1 (zhj m s.gs (nth x k) (nth y k)).2 s.c).2]) := fun r hr => by
   have ht := hab.trans hr
   refine ⟨ih.pre.trans ht.pre, ht.gi, ?_, by simp [show s.l.length = k from ih.wid], fun j hj => ?_⟩
   ·have h1 := ih.len
    have h3 := ht.len
    simp only at *
    omega
   ·have hw : s.l.length = k := ih.wid
    by_cases hl : j < k
    ·simp only
     rw [jis (by rw [hw]; exact hl)]; exact (ih.nd j hl).pre ht.pre
    ·have : j = s.l.length := by omega
     simp only
     rw [this, jvx]; exact hb.nd.pre hr.pre
  rw [zfk]
  simp only [es]
  split
  ·have hd := jf6 h2 hb.gi ((hx k (by omega)).pre (ih.pre.trans hab.pre)) ((hy k (by omega)).pre (ih.pre.trans hab.pre)) (ihc.pre hab.pre)
   exact ⟨bsr _ hd, hd.nd⟩
  ·exact ⟨bsr (_, s.c) (Rs.same hb.gi (ihc.pre hab.pre)), ihc.pre hab.pre⟩
theorem jp4 {m : Nat} {gs : Gs} {x y : List Int} (h2 : 2 ≤ m) (h : GI m gs) (hx : ∀ k, k < x.length → NdB m gs (nth x k)) (hy : ∀ k, k < x.length → NdB m gs (nth y k)) : ∀ k, k ≤ x.length → Rs m (3 * k) gs (ztv m gs x y k)
 | 0, _ => Rs.same h ⟨by decide, by omega⟩
 | k + 1, hk => by
  have ih := jp4 h2 h hx hy k (by omega)
  have ha := zj1 h2 ih.gi ((hx k (by omega)).pre ih.pre) ((hy k (by omega)).pre ih.pre)
  have hn := zfu h2 ha.gi ha.nd
  have hd := zgi h2 hn.gi (ih.nd.pre (ha.pre.trans hn.pre)) hn.nd
  exact (((ih.trans ha).trans hn).trans hd).mono (by omega)
theorem jjz {m : Nat} {gs : Gs} {x y : List Int} (h2 : 2 ≤ m) (h : GI m gs) (hx : ∀ k, k < x.length → NdB m gs (nth x k)) (hy : ∀ k, k < x.length → NdB m gs (nth y k)) : ∀ k, k ≤ x.length → Rs m (2 * k) gs (ltB m gs x y k)
 | 0, _ => Rs.same h ⟨by decide, by omega⟩
 | k + 1, hk => by
  have ih := jjz h2 h hx hy k (by omega)
  have hn := zfu h2 ih.gi ((hy k (by omega)).pre ih.pre)
  have hd := jf6 h2 hn.gi ((hx k (by omega)).pre (ih.pre.trans hn.pre)) hn.nd (ih.nd.pre hn.pre)
  exact ((ih.trans hn).trans hd).mono (by omega)
def zb4 (c : Ct) : Ex → Nat
 | .con _ w => w
 | .reg i => nth c.regs i
 | .dat i => nth c.takes i
 | .not a => zb4 c a
 | .two _ a _ => zb4 c a
 | .add a _ => zb4 c a
 | .sub a _ => zb4 c a
 | .eq _ _ => 1
 | .lt _ _ => 1
 | .mux _ b _ => zb4 c b
 | .cat a b => zb4 c a + zb4 c b
 | .slc _ w _ => w
 | .ext w _ => w
 | .rd k _ => (nth c.mems k).2
def za0 (c : Ct) : Ex → Nat
 | .con _ _ => 0
 | .reg _ => 0
 | .dat _ => 0
 | .not a => za0 c a + zb4 c a
 | .two _ a b => za0 c a + za0 c b + zb4 c a
 | .add a b => za0 c a + za0 c b + 3 * zb4 c a
 | .sub a b => za0 c a + za0 c b + 4 * zb4 c a
 | .eq a b => za0 c a + za0 c b + 3 * zb4 c a
 | .lt a b => za0 c a + za0 c b + (2 * zb4 c a + 1)
 | .mux a b d => za0 c a + za0 c b + za0 c d + 2 * zb4 c b
 | .cat a b => za0 c a + za0 c b
 | .slc _ _ a => za0 c a
 | .ext _ a => za0 c a
 | .rd k a => za0 c a + (nth c.mems k).2
def WT (c : Ct) (q : Bool) : Ex → Prop
 | .con v w => 1 ≤ w ∧ w ≤ 8 ∧ v < 2 ^ w
 | .reg i => i < c.regs.length
 | .dat i => q = true ∧ i < c.takes.length
 | .not a => WT c q a
 | .two o a b => (o = 3 ∨ o = 4 ∨ o = 5) ∧ WT c q a ∧ WT c q b ∧ zb4 c a = zb4 c b
 | .add a b => WT c q a ∧ WT c q b ∧ zb4 c a = zb4 c b
 | .sub a b => WT c q a ∧ WT c q b ∧ zb4 c a = zb4 c b
 | .eq a b => WT c q a ∧ WT c q b ∧ zb4 c a = zb4 c b
 | .lt a b => WT c q a ∧ WT c q b ∧ zb4 c a = zb4 c b
 | .mux a b d => WT c q a ∧ WT c q b ∧ WT c q d ∧ zb4 c a = 1 ∧ zb4 c b = zb4 c d
 | .cat a b => WT c q a ∧ WT c q b ∧ zb4 c a + zb4 c b ≤ 8
 | .slc k w a => WT c q a ∧ 1 ≤ w ∧ k + w ≤ zb4 c a
 | .ext w a => WT c q a ∧ zb4 c a ≤ w ∧ w ≤ 8
 | .rd k a => WT c q a ∧ k < c.mems.length
structure CtOk (c : Ct) : Prop where
 r : ∀ i, i < c.regs.length → 1 ≤ nth c.regs i ∧ nth c.regs i ≤ 8
 t : ∀ i, i < c.takes.length → 1 ≤ nth c.takes i ∧ nth c.takes i ≤ 8
 m : ∀ i, i < c.mems.length → 1 ≤ (nth c.mems i).1 ∧ (nth c.mems i).1 ≤ 8 ∧ 1 ≤ (nth c.mems i).2 ∧ (nth c.mems i).2 ≤ 8
 l : c.mems.length ≤ 8
theorem zcn {c : Ct} {q : Bool} (hc : CtOk c) : ∀ {e : Ex}, WT c q e → 1 ≤ zb4 c e ∧ zb4 c e ≤ 8
 | .con v w, h => ⟨h.1, h.2.1⟩
 | .reg i, h => hc.r i h
 | .dat i, h => hc.t i h.2
 | .not a, h => zcn hc (e := a) h
 | .two o a b, h => zcn hc (e := a) h.2.1
 | .add a b, h => zcn hc (e := a) h.1
 | .sub a b, h => zcn hc (e := a) h.1
 | .eq a b, h => ⟨Nat.le_refl 1, by simp [zb4]⟩
 | .lt a b, h => ⟨Nat.le_refl 1, by simp [zb4]⟩
 | .mux a b d, h => zcn hc (e := b) h.2.1
 | .cat a b, h => by have := zcn hc (e := a) h.1; have := h.2.2; simp only [zb4]; omega
 | .slc k w a, h => by have := zcn hc (e := a) h.1; have := h.2; simp only [zb4]; omega
 | .ext w a, h => by have := zcn hc (e := a) h.1; have := h.2; simp only [zb4]; omega
 | .rd k a, h => (hc.m k h.2).2.2
structure InOk (c : Ct) (inp : Int → Nat → Nat → Int) (m : Nat) : Prop where
 r : ∀ i k, i < c.regs.length → k < nth c.regs i → 0 ≤ inp 1 i k ∧ inp 1 i k < m
structure DaOk (c : Ct) (q : Bool) (m : Nat) (gs : Gs) (data : List (List Int)) : Prop where
 l : q = true → data.length = c.takes.length
 w : q = true → ∀ i, i < c.takes.length → (nth data i).length = nth c.takes i
 nd : q = true → ∀ i, i < c.takes.length → ∀ k, k < nth c.takes i → NdB m gs (nth (nth data i) k)
theorem DaOk.pre {c : Ct} {q : Bool} {m : Nat} {gs gs' : Gs} {data : List (List Int)} (h : DaOk c q m gs data) (hp : gs <+: gs') : DaOk c q m gs' data := ⟨h.l, h.w, fun e i hi k hk => (h.nd e i hi k hk).pre hp⟩
theorem Bs.ext {m n w k : Nat} {gs : Gs} {r : Gs × List Int} (h : Bs m n w gs r) (hk : n ≤ k) : Bs m k w gs r := ⟨h.pre, h.gi, by have := h.len; omega, h.wid, h.nd⟩
theorem Bs.trans {m n k w v : Nat} {gs : Gs} {r s : Gs × List Int} (h : Bs m n w gs r) (t : Bs m k v r.1 s) : Bs m (n + k) v gs s := ⟨h.pre.trans t.pre, t.gi, by have := h.len; have := t.len; omega, t.wid, t.nd⟩
theorem ztx {m : Nat} {gs : Gs} {l : List Int} {words j : Nat} (h2 : 2 ≤ m) (h : ∀ k, k < l.length → NdB m gs (nth l k)) (hj : j < 3) : NdB m gs (nth (zjk l words) j) := by
 have e : nth (zjk l words) j = if j < l.length ∧ 2 ^ j < words then nth l j else 0 := by
  unfold zjk nth; simp [List.getD_eq_getElem?_getD, hj]
 rw [e]
 split
 ·rename_i hh; exact h j hh.1
 ·exact ⟨by decide, by omega⟩
theorem zlb {β : Type} [Inhabited β] {f : Nat → β} {n k : Nat} (h : k < n) : nth ((List.range n).map f) k = f k := by unfold nth; simp [List.getD_eq_getElem?_getD, h]
theorem jv1 {n k : Nat} {x : Int} (h : k < n) : nth (List.replicate n x) k = x := by unfold nth; simp [List.getD_eq_getElem?_getD, h]
theorem jsr {α : Type} [Inhabited α] {l t : List α} {k : Nat} (h : l.length ≤ k) : nth (l ++ t) k = nth t (k - l.length) := by
 unfold nth; simp [List.getD_eq_getElem?_getD, List.getElem?_append_right h]
theorem jv2 {α : Type} [Inhabited α] {l : List α} {a w k : Nat} (h : k < w) : nth ((l.drop a).take w) k = nth l (a + k) := by
 unfold nth; simp [List.getD_eq_getElem?_getD, List.getElem?_take_of_lt h]
theorem jf7 {m : Nat} {gs : Gs} {x : Int} (h : NdB m gs x) : ∀ k, k < 1 → NdB m gs (nth [x] k)
 | 0, _ => h
 | k + 1, hk => by omega
theorem zv0 {c : Ct} {q : Bool} {inp : Int → Nat → Nat → Int} {m : Nat} {data : List (List Int)} (h2 : 2 ≤ m) (hc : CtOk c) (hi : InOk c inp m) (e : Ex) : ∀ {gs : Gs}, GI m gs → DaOk c q m gs data → WT c q e → Bs m (za0 c e) (zb4 c e) gs (zbz c inp m data gs e) := by
 induction e with
 | con v w =>
  intro gs h hd ht
  refine ⟨List.prefix_refl _, h, by simp [zbz], by simp [zbz, zb4], fun k hk => ?_⟩
  simp only [zbz, zb4] at hk ⊢
  rw [zlb hk]
  have := Nat.mod_lt (v / 2 ^ k) (show 0 < 2 by decide)
  exact ⟨by omega, by omega⟩
 | reg i =>
  intro gs h hd ht
  refine ⟨List.prefix_refl _, h, by simp [zbz], by simp [zbz, zb4], fun k hk => ?_⟩
  simp only [zbz, zb4] at hk ⊢
  rw [zlb hk]
  have := hi.r i k ht hk
  exact ⟨this.1, by omega⟩
 | dat i =>
  intro gs h hd ht
  exact ⟨List.prefix_refl _, h, by simp [zbz], hd.w ht.1 i ht.2, fun k hk => hd.nd ht.1 i ht.2 k hk⟩
 | not a iha =>
  intro gs h hd ht
  have ha := iha h hd ht
  simp only [zbz, za0, zb4]
  generalize zbz c inp m data gs a = r at *
  rw [ha.wid]
  exact (ha.trans (zcv (q := 1) ha.gi fun k hk gs' hp hg => zfu h2 hg (ha.at hp hk))).ext (by omega)
 | two o a b iha ihb =>
  intro gs h hd ht
  obtain ⟨_, ta, tb, hw⟩ := ht
  have ha := iha h hd ta
  simp only [zbz, za0, zb4]
  generalize zbz c inp m data gs a = r at *
  have hb := ihb ha.gi (hd.pre ha.pre) tb
  generalize zbz c inp m data r.1 b = s at *
  rw [ha.wid]
  exact ((ha.trans hb).trans (zcv (q := 1) hb.gi fun k hk gs' hp hg => ycd h2 hg (ha.at (hb.pre.trans hp) hk) (hb.at hp (by omega)))).ext (by omega)
 | add a b iha ihb =>
  intro gs h hd ht
  obtain ⟨ta, tb, hw⟩ := ht
  have ha := iha h hd ta
  simp only [zbz, za0, zb4]
  generalize zbz c inp m data gs a = r at *
  have hb := ihb ha.gi (hd.pre ha.pre) tb
  generalize zbz c inp m data r.1 b = s at *
  rw [ha.wid]
  exact ((ha.trans hb).trans (zql h2 hb.gi (fun k hk => ha.at hb.pre (by rw [ha.wid] at hk; exact hk)) (fun k hk => hb.nd k (by rw [ha.wid] at hk; omega)) ⟨by decide, by omega⟩ _ (by rw [ha.wid]; exact Nat.le_refl _)).bs).ext (by omega)
 | sub a b iha ihb =>
  intro gs h hd ht
  obtain ⟨ta, tb, hw⟩ := ht
  have ha := iha h hd ta
  simp only [zbz, za0, zb4]
  generalize zbz c inp m data gs a = r at *
  have hb := ihb ha.gi (hd.pre ha.pre) tb
  generalize zbz c inp m data r.1 b = s at *
  rw [ha.wid, hb.wid]
  have hn := zcv (q := 1) (n := zb4 c b) hb.gi (st := fun gs i => zdk m gs (nth s.2 i)) fun k hk gs' hp hg => zfu h2 hg (hb.at hp hk)
  generalize zbs (fun gs i => zdk m gs (nth s.2 i)) s.1 (zb4 c b) = n at *
  exact (((ha.trans hb).trans hn).trans (zql h2 hn.gi (fun k hk => ha.at (hb.pre.trans hn.pre) (by rw [ha.wid] at hk; exact hk)) (fun k hk => hn.nd k (by rw [ha.wid] at hk; omega)) ⟨by decide, by omega⟩ _ (by rw [ha.wid]; exact Nat.le_refl _)).bs).ext (by omega)
 | eq a b iha ihb =>
  intro gs h hd ht
  obtain ⟨ta, tb, hw⟩ := ht
  have ha := iha h hd ta
  simp only [zbz, za0, zb4]
  generalize zbz c inp m data gs a = r at *
  have hb := ihb ha.gi (hd.pre ha.pre) tb
  generalize zbz c inp m data r.1 b = s at *
  have hs := jp4 h2 hb.gi (x := r.2) (y := s.2) (fun k hk => ha.at hb.pre (by rw [ha.wid] at hk; exact hk)) (fun k hk => hb.nd k (by rw [ha.wid] at hk; omega)) _ (Nat.le_refl _)
  rw [ha.wid] at hs ⊢
  exact ((ha.trans hb).trans (k := 3 * zb4 c a) (v := 1) ⟨hs.pre, hs.gi, hs.len, rfl, jf7 hs.nd⟩).ext (by omega)
 | lt a b iha ihb =>
  intro gs h hd ht
  obtain ⟨ta, tb, hw⟩ := ht
  have ha := iha h hd ta
  simp only [zbz, za0, zb4]
  generalize zbz c inp m data gs a = r at *
  have hb := ihb ha.gi (hd.pre ha.pre) tb
  generalize zbz c inp m data r.1 b = s at *
  have hs0 := jjz h2 hb.gi (x := r.2) (y := s.2) (fun k hk => ha.at hb.pre (by rw [ha.wid] at hk; exact hk)) (fun k hk => hb.nd k (by rw [ha.wid] at hk; omega)) _ (Nat.le_refl _)
  rw [ha.wid] at hs0 ⊢
  have hs := hs0.trans (zfu h2 hs0.gi hs0.nd)
  exact ((ha.trans hb).trans (k := 2 * zb4 c a + 1) (v := 1) ⟨hs.pre, hs.gi, hs.len, rfl, jf7 hs.nd⟩).ext (by omega)
 | mux a b d iha ihb ihd =>
  intro gs h hd ht
  obtain ⟨ta, tb, td, w1, hw⟩ := ht
  have ha := iha h hd ta
  simp only [zbz, za0, zb4]
  generalize zbz c inp m data gs a = r at *
  have hb := ihb ha.gi (hd.pre ha.pre) tb
  generalize zbz c inp m data r.1 b = s at *
  have hdd := ihd hb.gi (hd.pre (ha.pre.trans hb.pre)) td
  generalize zbz c inp m data s.1 d = t at *
  rw [hb.wid]
  exact (((ha.trans hb).trans hdd).trans (zcv (q := 2) hdd.gi fun k hk gs' hp hg => ztw h2 hg (ha.at (hb.pre.trans (hdd.pre.trans hp)) (by omega)) (hb.at (hdd.pre.trans hp) hk) (hdd.at hp (by omega)))).ext (by omega)
 | cat a b iha ihb =>
  intro gs h hd ht
  obtain ⟨ta, tb, hw⟩ := ht
  have ha := iha h hd ta
  simp only [zbz, za0, zb4]
  generalize zbz c inp m data gs a = r at *
  have hb := ihb ha.gi (hd.pre ha.pre) tb
  generalize zbz c inp m data r.1 b = s at *
  have hab := ha.trans hb
  refine ⟨hab.pre, hab.gi, hab.len, by simp only [List.length_append, hb.wid, ha.wid]; omega, fun k hk => ?_⟩
  by_cases hl : k < s.2.length
  ·rw [show (s.1, s.2 ++ r.2).2 = s.2 ++ r.2 from rfl, jis hl]; exact hb.nd k (by rw [← hb.wid]; exact hl)
  ·rw [show (s.1, s.2 ++ r.2).2 = s.2 ++ r.2 from rfl, jsr (by omega)]; exact ha.at hb.pre (by rw [hb.wid] at hl ⊢; omega)
 | slc k w a iha =>
  intro gs h hd ht
  obtain ⟨ta, w1, hw⟩ := ht
  have ha := iha h hd ta
  simp only [zbz, za0, zb4]
  generalize zbz c inp m data gs a = r at *
  refine ⟨ha.pre, ha.gi, ha.len, by simp only [List.length_take, List.length_drop, ha.wid]; omega, fun j hj => ?_⟩
  rw [show (r.1, (r.2.drop k).take w).2 = (r.2.drop k).take w from rfl, jv2 hj]
  exact ha.nd _ (by omega)
 | ext w a iha =>
  intro gs h hd ht
  obtain ⟨ta, hw, w8⟩ := ht
  have ha := iha h hd ta
  simp only [zbz, za0, zb4]
  generalize zbz c inp m data gs a = r at *
  refine ⟨ha.pre, ha.gi, ha.len, by simp only [List.length_append, List.length_replicate, ha.wid]; omega, fun k hk => ?_⟩
  by_cases hl : k < r.2.length
  ·rw [show (r.1, r.2 ++ List.replicate (w - r.2.length) (0 : Int)).2 = r.2 ++ List.replicate (w - r.2.length) 0 from rfl, jis hl]; exact ha.nd k (by rw [← ha.wid]; exact hl)
  ·rw [show (r.1, r.2 ++ List.replicate (w - r.2.length) (0 : Int)).2 = r.2 ++ List.replicate (w - r.2.length) 0 from rfl, jsr (by omega), jv1 (by omega)]; exact ⟨by decide, by omega⟩
 | rd k a iha =>
  intro gs h hd ht
  obtain ⟨ta, hk⟩ := ht
  have ha := iha h hd ta
  simp only [zbz, za0, zb4]
  generalize zbz c inp m data gs a = r at *
  have hm := hc.m k hk
  have hl := hc.l
  refine (ha.trans (zcv (q := 1) (n := (nth c.mems k).2) ha.gi fun i hik gs' hp hg => ?_)).ext (by omega)
  have n0 := ztx (m := m) (gs := gs') (l := r.2) (words := (nth c.mems k).1) (j := 0) h2 (fun j hj => ha.at hp (by rw [ha.wid] at hj; exact hj)) (by decide)
  have n1 := ztx (m := m) (gs := gs') (l := r.2) (words := (nth c.mems k).1) (j := 1) h2 (fun j hj => ha.at hp (by rw [ha.wid] at hj; exact hj)) (by decide)
  have n2 := ztx (m := m) (gs := gs') (l := r.2) (words := (nth c.mems k).1) (j := 2) h2 (fun j hj => ha.at hp (by rw [ha.wid] at hj; exact hj)) (by decide)
  exact zir hg ⟨by simp, by simp, n0.1, n0.2, n1.1, n1.2, n2.1, n2.2, by simp only; omega, by simp only; omega, fun e => absurd rfl e, fun e => absurd e (by simp), fun e => absurd e (by simp)⟩
   ⟨fun e => absurd e (by simp), fun _ e => absurd e (by simp), fun e => absurd e (by simp), fun e => absurd e (by simp)⟩
/- Processes, and the netlist that is built of one. -/
end
section
structure PReg where
 name : ByteArray
 w : Nat
 init : Int
 next : Ex
 rk : Int
 rf : ByteArray
 rn : Int
 deriving Inhabited
structure PMem where
 name : ByteArray
 w : Nat
 words : Nat
 en : Ex
 ad : Ex
 da : Ex
 rk : Int
 rf : ByteArray
 rn : Int
 deriving Inhabited
structure PTake where
 chan : Int
 w : Nat
 wh : Ex
 deriving Inhabited
structure PPut where
 chan : Int
 w : Nat
 wh : Ex
 da : Ex
 deriving Inhabited
structure Pr where
 name : ByteArray
 clock : ByteArray
 regs : List PReg
 mems : List PMem
 takes : List PTake
 puts : List PPut
 deriving Inhabited
def ctP (p : Pr) : Ct := ⟨p.regs.map (·.w), p.takes.map (·.w), p.mems.map fun x => (x.words, x.w)⟩
def zb2 (kind i : Int) (w : Nat) : List Wire := (List.range w).map fun (k : Nat) => (⟨kind, i, (k : Int)⟩ : Wire)
theorem zaz (kind i : Int) (w : Nat) : (zb2 kind i w).length = w := by simp [zb2]
theorem zgj (kind i : Int) (w : Nat) : zb2 kind i (w + 1) = zb2 kind i w ++ [⟨kind, i, (w : Int)⟩] := by simp [zb2, List.range_succ]
def zfe (p : Pr) : Nat → List Wire
 | 0 => []
 | k + 1 => zfe p k ++ zb2 1 k (nth p.regs k).w
def ze3 (p : Pr) : Nat → List Wire
 | 0 => zfe p p.regs.length
 | k + 1 => ze3 p k ++ zb2 2 k (nth p.takes k).w ++ zb2 3 k 1
def zfz (p : Pr) : Nat → List Wire
 | 0 => ze3 p p.takes.length
 | k + 1 => zfz p k ++ zb2 4 k 1
def zfi (p : Pr) : List Wire := zfz p p.puts.length
def mP (p : Pr) : Nat := 2 + (zfi p).length
instance : DecidableEq Wire := fun ⟨a1, a2, a3⟩ ⟨b1, b2, b3⟩ =>
 if h : a1 = b1 ∧ a2 = b2 ∧ a3 = b3 then isTrue (by obtain ⟨h1, h2, h3⟩ := h; subst h1 h2 h3; rfl)
 else isFalse fun e => h (by cases e; exact ⟨rfl, rfl, rfl⟩)
def zo8 (g : Wire) : List Wire → Nat
 | [] => 0
 | x :: l => if x = g then 0 else zo8 g l + 1
theorem zn0 {g : Wire} : ∀ {l : List Wire}, g ∈ l → zo8 g l < l.length ∧ nth l (zo8 g l) = g
 | [], h => by cases h
 | x :: l, h => by
  rw [zo8]
  by_cases e : x = g
  ·rw [if_pos e]; exact ⟨by simp, by simpa [nth] using e⟩
  ·rw [if_neg e]
   have hl : g ∈ l := by
    rcases List.mem_cons.1 h with h | h
    ·exact absurd h.symm e
    ·exact h
   obtain ⟨h1, h2⟩ := zn0 hl
   exact ⟨by simpa using h1, by simpa [nth] using h2⟩
theorem zz5 {g : Wire} : ∀ {l m : List Wire}, g ∈ l → zo8 g (l ++ m) = zo8 g l
 | [], _, h => by cases h
 | x :: l, m, h => by
  rw [List.cons_append, zo8, zo8]
  by_cases e : x = g
  ·rw [if_pos e, if_pos e]
  ·rw [if_neg e, if_neg e]
   have hl : g ∈ l := by
    rcases List.mem_cons.1 h with h | h
    ·exact absurd h.symm e
    ·exact h
   rw [zz5 hl]
def inp (p : Pr) (kind : Int) (i k : Nat) : Int := ((2 + zo8 ⟨kind, (i : Int), (k : Int)⟩ (zfi p) : Nat) : Int)
structure Fi where
 gs : Gs
 takes : List Int
 data : List (List Int)
structure Fq where
 gs : Gs
 puts : List Int
def zcp (p : Pr) (data : List (List Int)) (gs : Gs) (e : Ex) : Gs × List Int := zbz (ctP p) (inp p) (mP p) data gs e
def zc4 (p : Pr) : Nat → Fi
 | 0 => ⟨[], [], []⟩
 | k + 1 =>
  let s := zc4 p k
  let r := zcp p s.data s.gs (nth p.takes k).wh
  let t := zbs (fun gs i => zda (mP p) gs (nth r.2 0) (inp p 2 k i)) r.1 (nth p.takes k).w
  ⟨t.1, s.takes ++ [nth r.2 0], s.data ++ [t.2]⟩
def zj2 (p : Pr) : Nat → Fq
 | 0 => ⟨(zc4 p p.takes.length).gs, []⟩
 | k + 1 =>
  let s := zj2 p k
  let r := zcp p (zc4 p p.takes.length).data s.gs (nth p.puts k).wh
  ⟨r.1, s.puts ++ [nth r.2 0]⟩
def jbw (m : Nat) (gs : Gs) (fire due x : Int) : Re := let n := zdk m gs due; let o := orB m n.1 n.2 x; zda m o.1 fire o.2
def zgy (p : Pr) : Nat → Re
 | 0 => ((zj2 p p.puts.length).gs, 1)
 | k + 1 => let s := zgy p k; jbw (mP p) s.1 s.2 (nth (zc4 p p.takes.length).takes k) (inp p 3 k 0)
def zh3 (p : Pr) : Nat → Re
 | 0 => zgy p p.takes.length
 | k + 1 => let s := zh3 p k; jbw (mP p) s.1 s.2 (nth (zj2 p p.puts.length).puts k) (inp p 4 k 0)
def zei (p : Pr) : List Int := (zc4 p p.takes.length).takes
def zea (p : Pr) : List Int := (zj2 p p.puts.length).puts
def zbd (p : Pr) : List (List Int) := (zc4 p p.takes.length).data
def zcf (p : Pr) : Int := (zh3 p p.puts.length).2
structure Os where
 gs : Gs
 out : List Wire
 dr : List Int
def zbu (p : Pr) : Nat → Os
 | 0 => ⟨(zh3 p p.puts.length).1, [], []⟩
 | i + 1 =>
  let s := zbu p i
  let r := zcp p (zbd p) s.gs (nth p.regs i).next
  let t := zbs (fun gs k => zj0 (mP p) gs (zcf p) (nth r.2 k) (inp p 1 i k)) r.1 r.2.length
  ⟨t.1, s.out ++ zb2 1 i r.2.length, s.dr ++ t.2⟩
def zc8 (p : Pr) : Nat → Os
 | 0 => zbu p p.regs.length
 | i + 1 =>
  let s := zc8 p i
  let a := zda (mP p) s.gs (zcf p) (nth (zei p) i)
  ⟨a.1, s.out ++ [⟨5, i, 0⟩], s.dr ++ [a.2]⟩
def zc3 (p : Pr) : Nat → Os
 | 0 => zc8 p p.takes.length
 | i + 1 =>
  let s := zc3 p i
  let a := zda (mP p) s.gs (zcf p) (nth (zea p) i)
  let r := zcp p (zbd p) a.1 (nth p.puts i).da
  let t := zbs (fun gs k => zda (mP p) gs a.2 (nth r.2 k)) r.1 r.2.length
  ⟨t.1, s.out ++ [⟨6, i, 0⟩] ++ zb2 7 i r.2.length, s.dr ++ [a.2] ++ t.2⟩
def zcg (p : Pr) : Nat → Os
 | 0 => zc3 p p.puts.length
 | i + 1 =>
  let s := zcg p i
  let e := zcp p (zbd p) s.gs (nth p.mems i).en
  let a := zda (mP p) e.1 (zcf p) (nth e.2 0)
  let d := zcp p (zbd p) a.1 (nth p.mems i).ad
  let w := zcp p (zbd p) d.1 (nth p.mems i).da
  ⟨w.1, s.out ++ [⟨8, i, 0⟩] ++ zb2 9 i 3 ++ zb2 10 i w.2.length, s.dr ++ [a.2] ++ zjk d.2 (nth p.mems i).words ++ w.2⟩
def ze4 (p : Pr) : Net := let o := zcg p p.mems.length; ⟨zfi p, o.gs, o.out, o.dr⟩
def cTP (p : Pr) : Nat → Nat
 | 0 => 0
 | k + 1 => cTP p k + (za0 (ctP p) (nth p.takes k).wh + (nth p.takes k).w)
def cQP (p : Pr) : Nat → Nat
 | 0 => cTP p p.takes.length
 | k + 1 => cQP p k + za0 (ctP p) (nth p.puts k).wh
def cRP (p : Pr) : Nat → Nat
 | 0 => cQP p p.puts.length + 3 * p.takes.length + 3 * p.puts.length
 | k + 1 => cRP p k + (za0 (ctP p) (nth p.regs k).next + 2 * (nth p.regs k).w)
def cUP (p : Pr) : Nat → Nat
 | 0 => cRP p p.regs.length + p.takes.length
 | k + 1 => cUP p k + (1 + za0 (ctP p) (nth p.puts k).da + (nth p.puts k).w)
def cMP (p : Pr) : Nat → Nat
 | 0 => cUP p p.puts.length
 | k + 1 => cMP p k + (za0 (ctP p) (nth p.mems k).en + 1 + za0 (ctP p) (nth p.mems k).ad + za0 (ctP p) (nth p.mems k).da)
def zgz (p : Pr) : Nat := cMP p p.mems.length
structure PrOk (p : Pr) : Prop where
 ct : CtOk (ctP p)
 tw : ∀ i, i < p.takes.length → WT (ctP p) false (nth p.takes i).wh ∧ zb4 (ctP p) (nth p.takes i).wh = 1
 rn : ∀ i, i < p.regs.length → WT (ctP p) true (nth p.regs i).next ∧ zb4 (ctP p) (nth p.regs i).next = (nth p.regs i).w
 qw : ∀ i, i < p.puts.length → WT (ctP p) true (nth p.puts i).wh ∧ zb4 (ctP p) (nth p.puts i).wh = 1
 qd : ∀ i, i < p.puts.length → WT (ctP p) true (nth p.puts i).da ∧ zb4 (ctP p) (nth p.puts i).da = (nth p.puts i).w
 qb : ∀ i, i < p.puts.length → 1 ≤ (nth p.puts i).w ∧ (nth p.puts i).w ≤ 8
 me : ∀ i, i < p.mems.length → WT (ctP p) true (nth p.mems i).en ∧ zb4 (ctP p) (nth p.mems i).en = 1
 ma : ∀ i, i < p.mems.length → WT (ctP p) true (nth p.mems i).ad
 md : ∀ i, i < p.mems.length → WT (ctP p) true (nth p.mems i).da ∧ zb4 (ctP p) (nth p.mems i).da = (nth p.mems i).w
 rl : p.regs.length ≤ 100
 tl : p.takes.length ≤ 100
 ql : p.puts.length ≤ 100
 cl : zgz p ≤ 100000
theorem jbx {α β : Type} [Inhabited α] [Inhabited β] {f : α → β} {l : List α} {k : Nat} (h : k < l.length) : nth (l.map f) k = f (nth l k) := by
 unfold nth; simp [List.getD_eq_getElem?_getD, h]
theorem zrg {kind i : Int} {w k : Nat} (h : k < w) : (⟨kind, i, (k : Int)⟩ : Wire) ∈ zb2 kind i w := List.mem_map.2 ⟨k, List.mem_range.2 h, rfl⟩
section
variable {p : Pr}
theorem jv3 : ∀ {n i k : Nat}, i < n → k < (nth p.regs i).w → (⟨1, (i : Int), (k : Int)⟩ : Wire) ∈ zfe p n
 | n + 1, i, k, h, hk => by
  rw [zfe]
  by_cases e : i < n
  ·exact List.mem_append_left _ (jv3 e hk)
  ·have : i = n := by omega
   subst this
   exact List.mem_append_right _ (zrg hk)
theorem jn3 {x : Wire} (h : x ∈ zfe p p.regs.length) : ∀ n, x ∈ ze3 p n
 | 0 => h
 | n + 1 => by rw [ze3]; exact List.mem_append_left _ (List.mem_append_left _ (jn3 h n))
theorem jn4 : ∀ {n i k : Nat}, i < n → k < (nth p.takes i).w → (⟨2, (i : Int), (k : Int)⟩ : Wire) ∈ ze3 p n
 | n + 1, i, k, h, hk => by
  rw [ze3]
  by_cases e : i < n
  ·exact List.mem_append_left _ (List.mem_append_left _ (jn4 e hk))
  ·have : i = n := by omega
   subst this
   exact List.mem_append_left _ (List.mem_append_right _ (zrg hk))
theorem jn5 : ∀ {n i : Nat}, i < n → (⟨3, (i : Int), 0⟩ : Wire) ∈ ze3 p n
 | n + 1, i, h => by
  rw [ze3]
  by_cases e : i < n
  ·exact List.mem_append_left _ (List.mem_append_left _ (jn5 e))
  ·have : i = n := by omega
   subst this
   exact List.mem_append_right _ (zrg (k := 0) (by decide))
theorem zz6 {x : Wire} (h : x ∈ ze3 p p.takes.length) : ∀ n, x ∈ zfz p n
 | 0 => h
 | n + 1 => by rw [zfz]; exact List.mem_append_left _ (zz6 h n)
theorem jn6 : ∀ {n i : Nat}, i < n → (⟨4, (i : Int), 0⟩ : Wire) ∈ zfz p n
 | n + 1, i, h => by
  rw [zfz]
  by_cases e : i < n
  ·exact List.mem_append_left _ (jn6 e)
  ·have : i = n := by omega
   subst this
   exact List.mem_append_right _ (zrg (k := 0) (by decide))
theorem in1 {i k : Nat} (h : i < p.regs.length) (hk : k < (nth p.regs i).w) : (⟨1, (i : Int), (k : Int)⟩ : Wire) ∈ zfi p := zz6 (jn3 (jv3 h hk) _) _
theorem in2 {i k : Nat} (h : i < p.takes.length) (hk : k < (nth p.takes i).w) : (⟨2, (i : Int), (k : Int)⟩ : Wire) ∈ zfi p := zz6 (jn4 h hk) _
theorem in3 {i : Nat} (h : i < p.takes.length) : (⟨3, (i : Int), ((0 : Nat) : Int)⟩ : Wire) ∈ zfi p := zz6 (jn5 h) _
theorem in4 {i : Nat} (h : i < p.puts.length) : (⟨4, (i : Int), ((0 : Nat) : Int)⟩ : Wire) ∈ zfi p := jn6 h
theorem zor {kind : Int} {i k : Nat} (h : (⟨kind, (i : Int), (k : Int)⟩ : Wire) ∈ zfi p) (gs : Gs) : NdB (mP p) gs (inp p kind i k) := by
 have := (zn0 h).1
 unfold NdB inp mP
 constructor <;> omega
theorem yar (h : PrOk p) : InOk (ctP p) (inp p) (mP p) := ⟨fun i k hi hk => by
 have hi' : i < p.regs.length := by simpa [ctP] using hi
 have e : nth (ctP p).regs i = (nth p.regs i).w := jbx hi'
 rw [e] at hk
 have := zor (in1 hi' hk) []
 exact ⟨this.1, by have := this.2; simpa using this⟩⟩
theorem mP2 : 2 ≤ mP p := by unfold mP; omega
theorem yas {i : Nat} (h : i < p.takes.length) : nth (ctP p).takes i = (nth p.takes i).w := jbx h
structure TkOk (p : Pr) (k : Nat) (s : Fi) : Prop where
 gi : GI (mP p) s.gs
 len : s.gs.length ≤ cTP p k
 tl : s.takes.length = k
 tn : ∀ i, i < k → NdB (mP p) s.gs (nth s.takes i)
 dl : s.data.length = k
 dw : ∀ i, i < k → (nth s.data i).length = (nth p.takes i).w
 dn : ∀ i, i < k → ∀ j, j < (nth p.takes i).w → NdB (mP p) s.gs (nth (nth s.data i) j)
theorem zgk {α : Type} [Inhabited α] {l : List α} {x : α} {i k : Nat} (hl : l.length = k) (hi : i < k + 1) : (i < k ∧ nth (l ++ [x]) i = nth l i) ∨ (i = k ∧ nth (l ++ [x]) i = x) := by
 by_cases h : i < k
 ·exact .inl ⟨h, jis (by omega)⟩
 ·have : i = l.length := by omega
  exact .inr ⟨by omega, by rw [this, jvx]⟩
structure TkS (p : Pr) (k : Nat) (s : Fi) (r : Gs × List Int) : Prop where
 b : Bs (mP p) (za0 (ctP p) (nth p.takes k).wh) 1 s.gs r
 t : Bs (mP p) (1 * (nth p.takes k).w) (nth p.takes k).w r.1 (zbs (fun gs i => zda (mP p) gs (nth r.2 0) (inp p 2 k i)) r.1 (nth p.takes k).w)
theorem jn7 (h : PrOk p) {k : Nat} (hk : k < p.takes.length) {s : Fi} (hs : TkOk p k s) : TkS p k s (zcp p s.data s.gs (nth p.takes k).wh) := by
 have hw := h.tw k hk
 have hb := zv0 (q := false) (data := s.data) mP2 h.ct (yar h) (nth p.takes k).wh hs.gi (DaOk.mk (by intro e; cases e) (by intro e; cases e) (by intro e; cases e)) hw.1
 rw [hw.2] at hb
 exact ⟨hb, zcv hb.gi fun i hi gs' hp hg => zgi mP2 hg (hb.at hp (by decide)) (zor (in2 hk hi) _)⟩
theorem zis (h : PrOk p) : ∀ k, k ≤ p.takes.length → TkOk p k (zc4 p k)
 | 0, _ => ⟨GI.nil _, by simp [zc4], rfl, fun i hi => by omega, rfl, fun i hi => by omega, fun i hi => by omega⟩
 | k + 1, hk => by
  have ih := zis h k (by omega)
  obtain ⟨hb, ht⟩ := jn7 h (show k < p.takes.length by omega) ih
  simp only [zc4]
  generalize zc4 p k = s at *
  generalize zcp p s.data s.gs (nth p.takes k).wh = r at *
  generalize zbs (fun gs i => zda (mP p) gs (nth r.2 0) (inp p 2 k i)) r.1 (nth p.takes k).w = t at *
  have hpt := hb.pre.trans ht.pre
  refine ⟨ht.gi, ?_, by simp [ih.tl], fun i hi => ?_, by simp [ih.dl], fun i hi => ?_, fun i hi j hj => ?_⟩
  ·have h1 := ih.len; have h2 := hb.len; have h3 := ht.len
   rw [cTP]; simp only; omega
  ·rcases zgk (x := nth r.2 0) ih.tl hi with ⟨hl, e⟩ | ⟨hl, e⟩
   ·simp only; rw [e]; exact (ih.tn i hl).pre hpt
   ·simp only; rw [e]; exact hb.at ht.pre (by decide)
  ·rcases zgk (x := t.2) ih.dl hi with ⟨hl, e⟩ | ⟨hl, e⟩
   ·simp only; rw [e]; exact ih.dw i hl
   ·simp only; rw [e, hl]; exact ht.wid
  ·rcases zgk (x := t.2) ih.dl hi with ⟨hl, e⟩ | ⟨hl, e⟩
   ·simp only; rw [e]; exact (ih.dn i hl j hj).pre hpt
   ·simp only; rw [e]; subst hl; exact ht.nd j hj
theorem jp5 (h : PrOk p) {gs : Gs} (hp : (zc4 p p.takes.length).gs <+: gs) : DaOk (ctP p) true (mP p) gs (zbd p) := by
 have ht := zis h _ (Nat.le_refl _)
 refine ⟨fun _ => by show (zc4 p p.takes.length).data.length = _; rw [ht.dl]; simp [ctP], fun _ i hi => ?_, fun _ i hi k hk => ?_⟩
 ·have hi' : i < p.takes.length := by simpa [ctP] using hi
  rw [yas hi']; exact ht.dw i hi'
 ·have hi' : i < p.takes.length := by simpa [ctP] using hi
  rw [yas hi'] at hk
  exact (ht.dn i hi' k hk).pre hp
theorem jn8 (h : PrOk p) {gs : Gs} (hg : GI (mP p) gs) (hp : (zc4 p p.takes.length).gs <+: gs) {e : Ex} (ht : WT (ctP p) true e) : Bs (mP p) (za0 (ctP p) e) (zb4 (ctP p) e) gs (zcp p (zbd p) gs e) :=
 zv0 mP2 h.ct (yar h) e hg (jp5 h hp) ht
structure PtOk (p : Pr) (k : Nat) (s : Fq) : Prop where
 pre : (zc4 p p.takes.length).gs <+: s.gs
 gi : GI (mP p) s.gs
 len : s.gs.length ≤ cQP p k
 ql : s.puts.length = k
 qn : ∀ i, i < k → NdB (mP p) s.gs (nth s.puts i)
theorem jv4 (h : PrOk p) {k : Nat} (hk : k < p.puts.length) {s : Fq} (hs : PtOk p k s) : Bs (mP p) (za0 (ctP p) (nth p.puts k).wh) 1 s.gs (zcp p (zbd p) s.gs (nth p.puts k).wh) := by
 have := jn8 h hs.gi hs.pre (h.qw k hk).1
 rwa [(h.qw k hk).2] at this
theorem zj3 (h : PrOk p) : ∀ k, k ≤ p.puts.length → PtOk p k (zj2 p k)
 | 0, _ => by
  have ht := zis h _ (Nat.le_refl _)
  exact ⟨List.prefix_refl _, ht.gi, ht.len, rfl, fun i hi => by omega⟩
 | k + 1, hk => by
  have ih := zj3 h k (by omega)
  have hb := jv4 h (show k < p.puts.length by omega) ih
  unfold zbd at hb
  simp only [zj2]
  generalize zj2 p k = s at *
  generalize zcp p (zc4 p p.takes.length).data s.gs (nth p.puts k).wh = r at *
  refine ⟨ih.pre.trans hb.pre, hb.gi, ?_, by simp [ih.ql], fun i hi => ?_⟩
  ·have h1 := ih.len; have h2 := hb.len
   rw [cQP]; simp only; omega
  ·rcases zgk (x := nth r.2 0) ih.ql hi with ⟨hl, e⟩ | ⟨hl, e⟩
   ·simp only; rw [e]; exact (ih.qn i hl).pre hb.pre
   ·simp only; rw [e]; exact hb.nd 0 (by decide)
theorem zv1 {m : Nat} {gs : Gs} {f d x : Int} (h2 : 2 ≤ m) (h : GI m gs) (hf : NdB m gs f) (hd : NdB m gs d) (hx : NdB m gs x) : Rs m 3 gs (jbw m gs f d x) := by
 have hn := zfu h2 h hd
 have ho := zvz h2 hn.gi hn.nd (hx.pre hn.pre)
 have ha := zgi h2 ho.gi (hf.pre (hn.pre.trans ho.pre)) ho.nd
 exact ((hn.trans ho).trans ha).mono (by omega)
theorem zrh (h : PrOk p) : ∀ k, k ≤ p.takes.length → Rs (mP p) (3 * k) (zj2 p p.puts.length).gs (zgy p k)
 | 0, _ => Rs.same (zj3 h _ (Nat.le_refl _)).gi ⟨by decide, by have := @mP2 p; omega⟩
 | k + 1, hk => by
  have ih := zrh h k (by omega)
  have hq := zj3 h _ (Nat.le_refl _)
  have ht := zis h _ (Nat.le_refl _)
  exact (ih.trans (zv1 mP2 ih.gi ih.nd ((ht.tn k (by omega)).pre (hq.pre.trans ih.pre)) (zor (in3 (by omega)) _))).mono (by omega)
theorem zjl (h : PrOk p) : ∀ k, k ≤ p.puts.length → Rs (mP p) (3 * p.takes.length + 3 * k) (zj2 p p.puts.length).gs (zh3 p k)
 | 0, _ => zrh h _ (Nat.le_refl _)
 | k + 1, hk => by
  have ih := zjl h k (by omega)
  have hq := zj3 h _ (Nat.le_refl _)
  exact (ih.trans (zv1 mP2 ih.gi ih.nd ((hq.qn k (by omega)).pre ih.pre) (zor (in4 (by omega)) _))).mono (by omega)
structure OsOk (p : Pr) (n : Nat) (s : Os) : Prop where
 pre : (zh3 p p.puts.length).1 <+: s.gs
 gi : GI (mP p) s.gs
 len : s.gs.length ≤ n
 ol : s.out.length = s.dr.length
 dn : ∀ i, i < s.dr.length → NdB (mP p) s.gs (nth s.dr i)
section
variable {n : Nat} {s : Os}
theorem OsOk.tp (h : PrOk p) (hs : OsOk p n s) : (zc4 p p.takes.length).gs <+: s.gs := (zj3 h _ (Nat.le_refl _)).pre.trans ((zjl h _ (Nat.le_refl _)).pre.trans hs.pre)
theorem OsOk.bits (h : PrOk p) (hs : OsOk p n s) {gs : Gs} (hp : s.gs <+: gs) (hg : GI (mP p) gs) {e : Ex} (ht : WT (ctP p) true e) : Bs (mP p) (za0 (ctP p) e) (zb4 (ctP p) e) gs (zcp p (zbd p) gs e) := jn8 h hg ((hs.tp h).trans hp) ht
theorem OsOk.fire (h : PrOk p) (hs : OsOk p n s) {gs : Gs} (hp : s.gs <+: gs) : NdB (mP p) gs (zcf p) := (zjl h _ (Nat.le_refl _)).nd.pre (hs.pre.trans hp)
theorem OsOk.dueT (h : PrOk p) (hs : OsOk p n s) {gs : Gs} (hp : s.gs <+: gs) {i : Nat} (hi : i < p.takes.length) : NdB (mP p) gs (nth (zei p) i) := ((zis h _ (Nat.le_refl _)).tn i hi).pre ((hs.tp h).trans hp)
theorem OsOk.dueQ (h : PrOk p) (hs : OsOk p n s) {gs : Gs} (hp : s.gs <+: gs) {i : Nat} (hi : i < p.puts.length) : NdB (mP p) gs (nth (zea p) i) := ((zj3 h _ (Nat.le_refl _)).qn i hi).pre ((zjl h _ (Nat.le_refl _)).pre.trans (hs.pre.trans hp))
theorem OsOk.app (hs : OsOk p n s) {k : Nat} {gs : Gs} {o : List Wire} {d : List Int} (hp : s.gs <+: gs) (hg : GI (mP p) gs) (hl : gs.length ≤ k) (ho : o.length = d.length) (hd : ∀ i, i < d.length → NdB (mP p) gs (nth d i)) : OsOk p k ⟨gs, s.out ++ o, s.dr ++ d⟩ := by
 refine ⟨hs.pre.trans hp, hg, hl, by simp [hs.ol, ho], fun i hi => ?_⟩
 simp only at hi ⊢
 by_cases h : i < s.dr.length
 ·rw [jis h]; exact (hs.dn i h).pre hp
 ·rw [jsr (by omega)]; exact hd _ (by simp at hi; omega)
end
structure RgS (p : Pr) (i : Nat) (s : Os) (r : Gs × List Int) : Prop where
 b : Bs (mP p) (za0 (ctP p) (nth p.regs i).next) (nth p.regs i).w s.gs r
 t : Bs (mP p) (2 * (nth p.regs i).w) (nth p.regs i).w r.1 (zbs (fun gs k => zj0 (mP p) gs (zcf p) (nth r.2 k) (inp p 1 i k)) r.1 (nth p.regs i).w)
theorem zhx (h : PrOk p) {i n : Nat} {s : Os} (hi : i < p.regs.length) (hs : OsOk p n s) : RgS p i s (zcp p (zbd p) s.gs (nth p.regs i).next) := by
 have hb := hs.bits h (List.prefix_refl _) hs.gi (h.rn i hi).1
 rw [(h.rn i hi).2] at hb
 exact ⟨hb, zcv hb.gi fun k hk gs' hp hg => ztw mP2 hg (hs.fire h (hb.pre.trans hp)) (hb.at hp hk) (zor (in1 hi hk) _)⟩
theorem zeb (h : PrOk p) : ∀ i, i ≤ p.regs.length → OsOk p (cRP p i) (zbu p i)
 | 0, _ => by
  have hf := zjl h _ (Nat.le_refl _)
  have hq := zj3 h _ (Nat.le_refl _)
  exact ⟨List.prefix_refl _, hf.gi, by have := hf.len; have := hq.len; simp only [zbu, cRP]; omega, rfl, fun i hi => by simp [zbu] at hi⟩
 | i + 1, hi => by
  have ih := zeb h i (by omega)
  obtain ⟨hb, ht⟩ := zhx h (show i < p.regs.length by omega) ih
  simp only [zbu]
  generalize zbu p i = s at *
  generalize zcp p (zbd p) s.gs (nth p.regs i).next = r at *
  rw [hb.wid]
  refine ih.app (hb.pre.trans ht.pre) ht.gi ?_ (by rw [zaz, ht.wid]) fun k hk => ht.nd k (by rw [ht.wid] at hk; exact hk)
  have h1 := ih.len; have h2 := hb.len; have h3 := ht.len
  rw [cRP]; omega
theorem zv2 (h : PrOk p) : ∀ i, i ≤ p.takes.length → OsOk p (cRP p p.regs.length + i) (zc8 p i)
 | 0, _ => zeb h _ (Nat.le_refl _)
 | i + 1, hi => by
  have ih := zv2 h i (by omega)
  have ha := zgi mP2 ih.gi (ih.fire h (List.prefix_refl _)) (ih.dueT h (List.prefix_refl _) (show i < p.takes.length by omega))
  simp only [zc8]
  exact ih.app ha.pre ha.gi (by have := ha.len; have := ih.len; omega) rfl (jf7 ha.nd)
structure PuS (p : Pr) (i : Nat) (s : Os) (a : Re) (r : Gs × List Int) : Prop where
 ha : Rs (mP p) 1 s.gs a
 hb : Bs (mP p) (za0 (ctP p) (nth p.puts i).da) (nth p.puts i).w a.1 r
 ht : Bs (mP p) (1 * (nth p.puts i).w) (nth p.puts i).w r.1 (zbs (fun gs k => zda (mP p) gs a.2 (nth r.2 k)) r.1 (nth p.puts i).w)
theorem zmg (h : PrOk p) {i n : Nat} {s : Os} (hi : i < p.puts.length) (hs : OsOk p n s) : PuS p i s (zda (mP p) s.gs (zcf p) (nth (zea p) i)) (zcp p (zbd p) (zda (mP p) s.gs (zcf p) (nth (zea p) i)).1 (nth p.puts i).da) := by
 have ha := zgi mP2 hs.gi (hs.fire h (List.prefix_refl _)) (hs.dueQ h (List.prefix_refl _) hi)
 have hb := hs.bits h ha.pre ha.gi (h.qd i hi).1
 rw [(h.qd i hi).2] at hb
 exact ⟨ha, hb, zcv hb.gi fun k hk gs' hp hg => zgi mP2 hg (ha.nd.pre (hb.pre.trans hp)) (hb.at hp hk)⟩
theorem zhk (h : PrOk p) : ∀ i, i ≤ p.puts.length → OsOk p (cUP p i) (zc3 p i)
 | 0, _ => zv2 h _ (Nat.le_refl _)
 | i + 1, hi => by
  have ih := zhk h i (by omega)
  obtain ⟨ha, hb, ht⟩ := zmg h (show i < p.puts.length by omega) ih
  simp only [zc3]
  generalize zc3 p i = s at *
  generalize zda (mP p) s.gs (zcf p) (nth (zea p) i) = a at *
  generalize zcp p (zbd p) a.1 (nth p.puts i).da = r at *
  rw [hb.wid, List.append_assoc, List.append_assoc]
  refine ih.app (ha.pre.trans (hb.pre.trans ht.pre)) ht.gi ?_ (by simp [zaz, ht.wid]) fun k hk => ?_
  ·have h1 := ih.len; have h2 := hb.len; have h3 := ht.len; have h4 := ha.len
   rw [cUP]; omega
  ·simp only [List.length_append, List.length_cons, List.length_nil, ht.wid] at hk
   by_cases e : k = 0
   ·subst e; exact ha.nd.pre (hb.pre.trans ht.pre)
   ·rw [jsr (by simp only [List.length_cons, List.length_nil]; omega)]; exact ht.nd _ (by simp only [List.length_cons, List.length_nil]; omega)
structure MeS (p : Pr) (i : Nat) (s : Os) (e : Gs × List Int) (a : Re) (d w : Gs × List Int) : Prop where
 he : Bs (mP p) (za0 (ctP p) (nth p.mems i).en) 1 s.gs e
 ha : Rs (mP p) 1 e.1 a
 hd : Bs (mP p) (za0 (ctP p) (nth p.mems i).ad) (zb4 (ctP p) (nth p.mems i).ad) a.1 d
 hw : Bs (mP p) (za0 (ctP p) (nth p.mems i).da) (nth p.mems i).w d.1 w
theorem zmh (h : PrOk p) {i n : Nat} {s : Os} (hi : i < p.mems.length) (hs : OsOk p n s) {e : Gs × List Int} {a : Re} {d w : Gs × List Int} (he : e = zcp p (zbd p) s.gs (nth p.mems i).en) (ha : a = zda (mP p) e.1 (zcf p) (nth e.2 0)) (hd : d = zcp p (zbd p) a.1 (nth p.mems i).ad) (hw : w = zcp p (zbd p) d.1 (nth p.mems i).da) : MeS p i s e a d w := by
 have h1 := hs.bits h (List.prefix_refl _) hs.gi (h.me i hi).1
 rw [(h.me i hi).2, ← he] at h1
 have h2 := zgi mP2 h1.gi (hs.fire h h1.pre) (h1.nd 0 (by decide))
 rw [← ha] at h2
 have h3 := hs.bits h (h1.pre.trans h2.pre) h2.gi (h.ma i hi)
 rw [← hd] at h3
 have h4 := hs.bits h (h1.pre.trans (h2.pre.trans h3.pre)) h3.gi (h.md i hi).1
 rw [(h.md i hi).2, ← hw] at h4
 exact ⟨h1, h2, h3, h4⟩
theorem zg0 (l : List Int) (n : Nat) : (zjk l n).length = 3 := by simp [zjk]
theorem zdy (h : PrOk p) : ∀ i, i ≤ p.mems.length → OsOk p (cMP p i) (zcg p i)
 | 0, _ => zhk h _ (Nat.le_refl _)
 | i + 1, hi => by
  have ih := zdy h i (by omega)
  simp only [zcg]
  generalize zcg p i = s at *
  generalize he : zcp p (zbd p) s.gs (nth p.mems i).en = e
  generalize ha : zda (mP p) e.1 (zcf p) (nth e.2 0) = a
  generalize hd : zcp p (zbd p) a.1 (nth p.mems i).ad = d
  generalize hw : zcp p (zbd p) d.1 (nth p.mems i).da = w
  obtain ⟨h1, h2, h3, h4⟩ := zmh h (show i < p.mems.length by omega) ih he.symm ha.symm hd.symm hw.symm
  rw [h4.wid, List.append_assoc, List.append_assoc, List.append_assoc, List.append_assoc]
  refine ih.app (h1.pre.trans (h2.pre.trans (h3.pre.trans h4.pre))) h4.gi ?_ (by simp [zaz, h4.wid, zg0]) fun k hk => ?_
  ·have l1 := ih.len; have l2 := h1.len; have l3 := h2.len; have l4 := h3.len; have l5 := h4.len
   rw [cMP]; omega
  ·simp only [List.length_append, List.length_cons, List.length_nil, h4.wid, zg0] at hk
   by_cases e0 : k = 0
   ·subst e0; exact h2.nd.pre (h3.pre.trans h4.pre)
   ·rw [jsr (by simp only [List.length_cons, List.length_nil]; omega)]
    simp only [List.length_cons, List.length_nil]
    by_cases e1 : k - (0 + 1) < 3
    ·rw [jis (by rw [zg0]; exact e1)]
     exact (ztx mP2 (fun j hj => h3.nd j (by rw [h3.wid] at hj; exact hj)) e1).pre h4.pre
    ·rw [jsr (by rw [zg0]; omega), zg0]
     exact h4.nd _ (by omega)
end
theorem zos {f : Nat → Nat} (h : ∀ k, f k ≤ f (k + 1)) {a b : Nat} (hab : a ≤ b) : f a ≤ f b := by
 induction b with
 | zero =>
   have : a = 0 := by omega
   subst this; exact Nat.le_refl _
 | succ b ih =>
  by_cases e : a = b + 1
  ·subst e; exact Nat.le_refl _
  ·exact Nat.le_trans (ih (by omega)) (h b)
section
variable {p : Pr}
theorem jf8 {k : Nat} (hk : k ≤ p.mems.length) : cMP p k ≤ zgz p := zos (fun k => by rw [cMP]; omega) hk
theorem jf9 {k : Nat} (hk : k ≤ p.puts.length) : cUP p k ≤ zgz p := Nat.le_trans (zos (fun k => by rw [cUP]; omega) hk) (jf8 (k := 0) (by omega))
theorem zz7 {k : Nat} (hk : k ≤ p.regs.length) : cRP p k ≤ zgz p := Nat.le_trans (zos (fun k => by rw [cRP]; omega) hk) (Nat.le_trans (by rw [cUP]; omega) (jf9 (k := 0) (by omega)))
theorem jga {k : Nat} (hk : k ≤ p.puts.length) : cQP p k ≤ zgz p := Nat.le_trans (zos (fun k => by rw [cQP]; omega) hk) (Nat.le_trans (by rw [cRP]; omega) (zz7 (k := 0) (by omega)))
theorem jv5 {k : Nat} (hk : k ≤ p.takes.length) : cTP p k ≤ zgz p := Nat.le_trans (zos (fun k => by rw [cTP]; omega) hk) (Nat.le_trans (by rw [cQP]; omega) (jga (k := 0) (by omega)))
end
/- Keys of the maps: structs of whole numbers. -/
end
theorem ycf {n : Int} (h : I64 n) : (Lit.int .i64 n).wf = true := by
 obtain ⟨h1, h2⟩ := h
 simp [Lit.wf]; exact ⟨h1, by omega⟩
theorem zit {P : Program} {e : TypeId} (hu : P.underlying e = some (.int .i64)) {n : Int} (hn : I64 n) (d : Nat) : P.keyLits (d + 1) e [.int .i64 n] = some [.int .i64 n] := by
 simp [Program.keyLits, hu, ycf hn]
theorem zz8 {n : Nat} (h : Nat.ble 1 n = true) : ∃ d, n = d + 1 := ⟨n - 1, by have := Nat.le_of_ble_eq_true h; omega⟩
theorem zpp {n : Int} (h0 : -1000000000000 ≤ n) (h1 : n ≤ 1000000000000) : I64 n := ⟨by omega, by omega⟩
def wV (w : Wire) : Value := .agg #[.int .i64 w.kind, .int .i64 w.i, .int .i64 w.bit]
def gV (g : Gate) : Value := .agg #[.int .i64 g.op, .int .i64 g.a, .int .i64 g.b, .int .i64 g.c, .int .i64 g.n]
theorem jv6 {a b : Wire} (h : wV a = wV b) : a = b := by
 unfold wV at h
 injection h with h
 have h' := congrArg Array.toList h
 cases a; cases b
 simpa using h'
theorem jv7 {a b : Gate} (h : gV a = gV b) : a = b := by
 unfold gV at h
 injection h with h
 have h' := congrArg Array.toList h
 cases a; cases b
 simpa using h'
theorem zty {a b c : Int} (ha : I64 a) (hb : I64 b) (hc : I64 c) : zsa Try.prog 194 (.agg #[.int .i64 a, .int .i64 b, .int .i64 c]) := by
 refine ⟨rfl, fun kt et hm => ?_⟩
 have h0 : zkq Try.prog 194 = some (71, 3) := by kernel_rfl
 rw [h0] at hm; cases hm
 obtain ⟨nn, hnn⟩ : ∃ nn, Try.prog.types.size = nn + 1 := zz8 (by kernel_rfl)
 have h1 : Try.prog.keyType 71 = true := by kernel_rfl
 have h2 : Try.prog.cellsOf 71 = 3 := by kernel_rfl
 have h3 : Try.prog.cellsOf 3 = 1 := by kernel_rfl
 unfold keyOf
 rw [Try.underlying71]
 have h4 : Value.formed Try.prog 71 (.agg #[.int .i64 a, .int .i64 b, .int .i64 c]) = true := by
  unfold Value.formed
  simp only [Try.underlying71, h2]; rfl
 simp only [h1, h4, Bool.and_self, if_true, hnn]
 unfold Program.keyLits
 simp only [Try.underlying71, h2, h3, Value.cells, List.mapM_cons, List.mapM_nil, List.drop_zero, List.drop_succ_cons, List.take_succ_cons, List.take_zero, zit Try.underlying3 ha, zit Try.underlying3 hb, zit Try.underlying3 hc]
 rw [if_pos ⟨rfl, by first | rfl | decide | simp⟩]; rfl
theorem jv8 {a b c d e : Int} (ha : I64 a) (hb : I64 b) (hc : I64 c) (hd : I64 d) (he : I64 e) : zsa Try.prog 193 (.agg #[.int .i64 a, .int .i64 b, .int .i64 c, .int .i64 d, .int .i64 e]) := by
 refine ⟨rfl, fun kt et hm => ?_⟩
 have h0 : zkq Try.prog 193 = some (95, 3) := by kernel_rfl
 rw [h0] at hm; cases hm
 obtain ⟨nn, hnn⟩ : ∃ nn, Try.prog.types.size = nn + 1 := zz8 (by kernel_rfl)
 have h1 : Try.prog.keyType 95 = true := by kernel_rfl
 have h2 : Try.prog.cellsOf 95 = 5 := by kernel_rfl
 have h3 : Try.prog.cellsOf 3 = 1 := by kernel_rfl
 unfold keyOf
 rw [Try.underlying95]
 have h4 : Value.formed Try.prog 95 (.agg #[.int .i64 a, .int .i64 b, .int .i64 c, .int .i64 d, .int .i64 e]) = true := by
  unfold Value.formed
  simp only [Try.underlying95, h2]; rfl
 simp only [h1, h4, Bool.and_self, if_true, hnn]
 unfold Program.keyLits
 simp only [Try.underlying95, h2, h3, Value.cells, List.mapM_cons, List.mapM_nil, List.drop_zero, List.drop_succ_cons, List.take_succ_cons, List.take_zero, zit Try.underlying3 ha, zit Try.underlying3 hb, zit Try.underlying3 hc, zit Try.underlying3 hd, zit Try.underlying3 he]
 rw [if_pos ⟨rfl, by first | rfl | decide | simp⟩]; rfl
end Go.Proofs.Ytapjobndmmkanaa
