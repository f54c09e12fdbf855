/- Every function of some variables has a tree; the trees of all nodes of a net. -/
import Derived.Test.YtignimmnnccblaaGa
import Derived.Test.YtignimmnnccblaaGe
import Derived.Test.YtignimmnnccblaaCu
set_option linter.unusedVariables false
set_option linter.unusedSimpArgs false
namespace Go.Proofs.Ytignimmnnccblaa
open Go Go.RowKit
def mkF (f : (Nat → Bool) → Bool) : Nat → Nat → (Nat → Bool) → T
 | 0, _, a => .leaf (f a)
 | m + 1, k, a => mkT k (mkF f m (k + 1) (upd a k false)) (mkF f m (k + 1) (upd a k true))
theorem jei (f : (Nat → Bool) → Bool) (V : Nat) : ∀ (m k : Nat) (a : Nat → Bool), k + m = V → (mkF f m k a).Ok V k
 | 0, _, a, _ => trivial
 | m + 1, k, a, h => jpg (by omega) (jei f V m (k + 1) _ (by omega)) (jei f V m (k + 1) _ (by omega))
theorem zx9 (f : (Nat → Bool) → Bool) (b : Nat → Bool) : ∀ (m k : Nat) (a : Nat → Bool), (mkF f m k a).eval b = f fun i => if k ≤ i ∧ i < k + m then b i else a i
 | 0, k, a => by
  show f a = _
  congr 1
  funext i
  rw [if_neg (by omega)]
 | m + 1, k, a => by
  have key : ∀ c, b k = c → (mkF f m (k + 1) (upd a k c)).eval b = f fun i => if k ≤ i ∧ i < k + (m + 1) then b i else a i := fun c hc => by
   rw [zx9 f b m (k + 1)]
   congr 1
   funext i
   unfold upd
   by_cases h1 : i = k
   ·subst h1
    rw [if_neg (by omega), if_pos rfl, if_pos (by omega), hc]
   ·by_cases h2 : k + 1 ≤ i ∧ i < k + 1 + m
    ·rw [if_pos h2, if_pos (by omega)]
    ·rw [if_neg h2, if_neg h1, if_neg (by omega)]
  show (mkT _ _ _).eval b = _
  rw [zwn]
  cases hb : b k with
  | false => exact key false hb
  | true => exact key true hb
theorem jth {V : Nat} {f : (Nat → Bool) → Bool} (h : ∀ a b : Nat → Bool, (∀ i, i < V → a i = b i) → f a = f b) : ∃ t : T, t.Ok V 0 ∧ ∀ a, t.eval a = f a :=
 ⟨mkF f V 0 fun _ => false, jei f V V 0 _ (by omega), fun a => by
  rw [zx9]
  exact h _ _ fun i hi => by rw [if_pos (by omega)]⟩
theorem jrv {V : Nat} {fs : List T} (hf : ∀ t ∈ fs, t.Ok V 0) {a b : Nat → Bool} (h : ∀ i, i < V → a i = b i) (k : Nat) : (nth fs k).eval a = (nth fs k).eval b := by
 by_cases hk : k < fs.length
 ·exact (hf _ (zb3 hk)).eval_eq fun i _ hi => h i hi
 ·have : nth fs k = default := by unfold nth; simp [List.getD_eq_getElem?_getD, List.getElem?_eq_none (Nat.le_of_not_lt hk)]
  rw [this]; rfl
theorem jej {ins : Nat} {sh : Sh} {fs : List T} {g : Gate} (hf : ∀ t ∈ fs, t.Ok (zdm ins sh) 0) {a b : Nat → Bool} (h : ∀ i, i < zdm ins sh → a i = b i) : ziw ins sh fs g a = ziw ins sh fs g b := by
 have hn := jrv hf h
 have hlow : low fs [g.a, g.b, g.c] a 3 = low fs [g.a, g.b, g.c] b 3 := by
  have h1 := znr (fs := fs) (a := a) (x := g.a) (y := g.b) (z := g.c)
  have h2 := znr (fs := fs) (a := b) (x := g.a) (y := g.b) (z := g.c)
  rw [hn, hn, hn] at h1
  omega
 unfold ziw
 rw [hn, hn, hn, hlow]
 congr 6
 unfold zsy
 by_cases c1 : g.n.toNat / 8 < sh.length
 ·by_cases c2 : g.n.toNat % 8 < (nth sh (g.n.toNat / 8)).2
  ·by_cases c3 : low fs [g.a, g.b, g.c] b 3 < (nth sh (g.n.toNat / 8)).1
   ·rw [h _ (zxx c1 c3 c2)]
   ·rw [decide_eq_false c3]; simp
  ·rw [decide_eq_false c2]; simp
 ·rw [decide_eq_false c1]; simp
theorem jlu {ins : Nat} {sh : Sh} {gates : List Gate} : ∀ j, j ≤ gates.length → ∃ fs, FsP (zdm ins sh) ins sh gates j fs
 | 0, _ => ⟨_, .base (by unfold zdm zbz; exact Nat.le_add_right _ _)⟩
 | j + 1, h => by
  obtain ⟨fs, hF⟩ := jlu (ins := ins) (sh := sh) (gates := gates) j (by omega)
  obtain ⟨t, h1, h2⟩ := jth (f := ziw ins sh fs (nth gates j)) fun a b hab => jej hF.ok hab
  exact ⟨_, hF.snoc h1 h2⟩
end Go.Proofs.Ytignimmnnccblaa

/- What is built is determined, and is what the reference builds. -/
set_option linter.unusedVariables false
set_option linter.unusedSimpArgs false
namespace Go.Proofs.Ytignimmnnccblaa
open Go Go.RowKit
theorem FsP.cut {V ins : Nat} {sh : Sh} {gates : List Gate} {j : Nat} {fs : List T} (h : FsP V ins sh gates j fs) (hj : j ≤ gates.length) : FsP V ins sh (gates.take j) (gates.take j).length fs := by
 have e : (gates.take j).length = j := by rw [List.length_take]; omega
 rw [e]
 exact ⟨h.len, h.ok, h.f0, h.f1, h.fv, fun q hq a => by rw [h.fg q hq a, zei ⟨hq, by omega⟩]⟩
theorem GatesOk.cut {m : Nat} {gates : List Gate} (h : GatesOk m gates) (j : Nat) : GatesOk m (gates.take j) := fun k hk => by
 rw [List.length_take] at hk
 rw [zei ⟨by omega, by omega⟩]
 exact h k (by omega)
theorem jek {V ins : Nat} {sh : Sh} {gates : List Gate} {j : Nat} {f1 f2 : List T} (h1 : FsP V ins sh gates j f1) (hj : j ≤ gates.length) (h2 : FsP V ins sh gates gates.length f2) (hg : GatesOk (2 + ins) gates) : f1 = f2.take (2 + ins + j) := by
 have l1 := h1.len
 have l2 := h2.len
 have hs := jlq (h1.cut hj) h2 (List.take_prefix _ _) (hg.cut j)
 rw [show (gates.take j).length = j by rw [List.length_take]; omega] at hs
 refine zpr (by rw [List.length_take]; omega) fun k hk => ?_
 rw [zei ⟨by omega, by omega⟩, hs k (by omega)]
end Go.Proofs.Ytignimmnnccblaa

/- Of no program: the miter of two nets, and what it computes. -/
set_option linter.unusedVariables false
set_option linter.unusedSimpArgs false
namespace Go.Proofs.Ytignimmnnccblaa
open Go Go.RowKit
theorem zs4 (M : List (List Int)) (v : List Bool) (l m : List Gate) : zcu M v (l ++ m) = zcu M (zcu M v l) m := by unfold zcu; rw [List.foldl_append]
theorem zg8 (M : List (List Int)) : ∀ (l : List Gate) (v : List Bool) (k : Nat), k < v.length → nth (zcu M v l) k = nth v k
 | [], v, k, _ => rfl
 | g :: l, v, k, h => by
  show nth (zcu M (v ++ [opN M v g]) l) k = _
  rw [zg8 M l _ k (by simp; omega), zbs h]
theorem jj3 {M : List (List Int)} {v w : List Bool} {g h : Gate} (ho : g.op = h.op) (hn : g.n = h.n) (ha : nth v g.a.toNat = nth w h.a.toNat) (hb : nth v g.b.toNat = nth w h.b.toNat) (hc : nth v g.c.toNat = nth w h.c.toNat) : opN M v g = opN M w h := by
 unfold opN
 rw [ho, hn, ha, hb, hc]
theorem zs5 {M : List (List Int)} {v : List Bool} {l : List Gate} (hg : GatesOk v.length l) {q : Nat} (hq : q < l.length) : nth (zcu M v l) (v.length + q) = opN M (zcu M v l) (nth l q) := by
 have e : l = l.take (q + 1) ++ l.drop (q + 1) := (List.take_append_drop _ _).symm
 have h1 : zcu M v l = zcu M (zcu M v (l.take (q + 1))) (l.drop (q + 1)) := by
  rw [← zs4, ← e]
 have hl : (zcu M v (l.take (q + 1))).length = v.length + (q + 1) := by rw [za3, List.length_take]; omega
 have hl2 : (zcu M v (l.take q)).length = v.length + q := by rw [za3, List.length_take]; omega
 have key : ∀ k, k < v.length + q → nth (zcu M v l) k = nth (zcu M v (l.take q)) k := fun k hk => by
  rw [h1, zg8 M _ _ k (by omega), zdb M v hq, zbs (by omega)]
 have h2 : nth (zcu M v l) (v.length + q) = opN M (zcu M v (l.take q)) (nth l q) := by
  rw [h1, zg8 M _ _ _ (by omega), zdb M v hq, ← hl2, zdw]
 have g := hg q hq
 have a0 := g.a0; have a1 := g.a1; have b0 := g.b0; have b1 := g.b1; have c0 := g.c0; have c1 := g.c1
 rw [h2]
 exact jj3 rfl rfl (key _ (by omega)).symm (key _ (by omega)).symm (key _ (by omega)).symm
theorem GatesOk.app {m : Nat} {l k : List Gate} (h : GatesOk m l) (h2 : GatesOk (m + l.length) k) : GatesOk m (l ++ k) := fun q hq => by
 by_cases hl : q < l.length
 ·rw [zbs hl]; exact h q hl
 ·rw [zda (by omega)]
  have := h2 (q - l.length) (by rw [List.length_append] at hq; omega)
  rw [show m + l.length + (q - l.length) = m + q by omega] at this
  exact this
def mvI (first d : Nat) (x : Int) : Int := if x < first then x else x + d
def mvG (first d : Nat) (g : Gate) : Gate := ⟨g.op, mvI first d g.a, mvI first d g.b, mvI first d g.c, g.n⟩
def jg0 (first d : Nat) (da db : List Int) (k : Nat) : List Gate := (List.range k).map fun i => ⟨4, nth da i, mvI first d (nth db i), 0, 0⟩
def zya (base k : Nat) : Nat → Int
 | 0 => base
 | i + 1 => ((base + k + i : Nat) : Int)
def orL (base k : Nat) (n : Nat) : List Gate := (List.range n).map fun i => ⟨3, zya base k i, ((base + (i + 1) : Nat) : Int), 0, 0⟩
def zs6 (first : Nat) (a b : Net) (i j : Nat) : List Gate :=
 a.gates ++ b.gates.map (mvG first a.gates.length) ++ jg0 first a.gates.length a.drive b.drive i ++ orL (first + a.gates.length + b.gates.length) a.drive.length j
def zhw (a b : Net) : Net :=
 ⟨a.ins, zs6 (2 + a.ins.length) a b a.drive.length (a.drive.length - 1), [⟨6, 0, 0⟩], [zya (2 + a.ins.length + a.gates.length + b.gates.length) a.drive.length (a.drive.length - 1)]⟩
theorem jg1 {first d m : Nat} {x : Int} (h1 : x < m) (hm : first ≤ m) : mvI first d x < (m + d : Nat) := by
 unfold mvI; split <;> omega
theorem jg2 {first d : Nat} {x : Int} (h0 : 0 ≤ x) : 0 ≤ mvI first d x := by
 unfold mvI; split <;> omega
theorem jrw {first d m : Nat} {g : Gate} (h : GateOk m g) (hm : first ≤ m) : GateOk (m + d) (mvG first d g) :=
 ⟨h.o1, h.o2, jg2 h.a0, jg1 h.a1 hm, jg2 h.b0, jg1 h.b1 hm, jg2 h.c0, jg1 h.c1 hm, h.n0, h.n1⟩
theorem jti {first d : Nat} {l : List Gate} (h : GatesOk first l) : GatesOk (first + d) (l.map (mvG first d)) := fun k hk => by
 rw [List.length_map] at hk
 rw [zif hk]
 have := jrw (d := d) (h k hk) (Nat.le_add_right first k)
 rw [show first + k + d = first + d + k by omega] at this
 exact this
theorem jrx (base k : Nat) : ∀ i, 0 ≤ zya base k i ∧ (i = 0 → zya base k i = base) ∧ ∀ j, i = j + 1 → zya base k i = ((base + k + j : Nat) : Int)
 | 0 => ⟨by show (0 : Int) ≤ base; omega, fun _ => rfl, fun j h => by omega⟩
 | i + 1 => ⟨by show (0 : Int) ≤ ((base + k + i : Nat) : Int); omega, fun h => by omega, fun j h => by
  have : i = j := by omega
  subst this; rfl⟩
structure MitOk (first : Nat) (a b : Net) : Prop where
 f2 : 2 ≤ first
 ga : GatesOk first a.gates
 gb : GatesOk first b.gates
 da : ∀ k, k < a.drive.length → 0 ≤ nth a.drive k ∧ nth a.drive k < (first + a.gates.length : Nat)
 db : ∀ k, k < b.drive.length → 0 ≤ nth b.drive k ∧ nth b.drive k < (first + b.gates.length : Nat)
 dl : a.drive.length = b.drive.length
theorem zhn (first d : Nat) (da db : List Int) (k : Nat) : (jg0 first d da db k).length = k := by simp [jg0]
theorem jel (base k n : Nat) : (orL base k n).length = n := by simp [orL]
theorem jem (first : Nat) (a b : Net) (i j : Nat) : (zs6 first a b i j).length = a.gates.length + b.gates.length + i + j := by simp [zs6, zhn, jel]; omega
theorem zs7 {first : Nat} {a b : Net} (h : MitOk first a b) {i j : Nat} (hi : i ≤ a.drive.length) (hj : j = 0 ∨ (i = a.drive.length ∧ j + 1 ≤ i)) : GatesOk first (zs6 first a b i j) := by
 have f2 := h.f2
 refine (h.ga.app (jti h.gb) |>.app fun k hk => ?_).app fun k hk => ?_
 ·rw [zhn] at hk
  unfold jg0
  rw [zcj hk]
  have h1 := h.da k (by omega)
  have h2 := h.db k (by rw [← h.dl]; omega)
  simp only [List.length_append, List.length_map]
  have h3 := jg1 (d := a.gates.length) h2.2 (Nat.le_add_right first _)
  exact ⟨show (1 : Int) ≤ 4 by decide, show (4 : Int) ≤ 7 by decide, h1.1, by show nth a.drive k < _; omega, jg2 h2.1, by show mvI first a.gates.length (nth b.drive k) < _; omega, by show (0 : Int) ≤ 0; omega, by show (0 : Int) < _; omega, by show (0 : Int) ≤ 0; omega, by show (0 : Int) < 1000000; omega⟩
 ·rw [jel] at hk
  unfold orL
  rw [zcj hk]
  simp only [List.length_append, List.length_map, zhn]
  obtain ⟨b0, b1, b2⟩ := jrx (first + a.gates.length + b.gates.length) a.drive.length k
  have b3 : zya (first + a.gates.length + b.gates.length) a.drive.length k < ((first + (a.gates.length + b.gates.length + i) + k : Nat) : Int) := by
   cases k with
   | zero => rw [b1 rfl]; omega
   | succ k => rw [b2 k rfl]; omega
  exact ⟨show (1 : Int) ≤ 3 by decide, show (3 : Int) ≤ 7 by decide, b0, b3, by show (0 : Int) ≤ ((_ : Nat) : Int); omega, by show ((_ : Nat) : Int) < _; omega, by show (0 : Int) ≤ 0; omega, by show (0 : Int) < _; omega, by show (0 : Int) ≤ 0; omega, by show (0 : Int) < 1000000; omega⟩
def zqz (v : List Bool) (dr : List Int) : List Bool := dr.map fun d => nth v d.toNat
def jj4 (x y : List Bool) : Nat → Bool
 | 0 => nth x 0 != nth y 0
 | i + 1 => jj4 x y i || (nth x (i + 1) != nth y (i + 1))
theorem dif_all {x y : List Bool} : ∀ {i : Nat}, jj4 x y i = false ↔ ∀ k, k ≤ i → nth x k = nth y k
 | 0 => by
  unfold jj4
  rw [bne_eq_false_iff_eq]
  exact ⟨fun h k hk => by rw [Nat.le_zero.1 hk]; exact h, fun h => h 0 (Nat.le_refl _)⟩
 | i + 1 => by
  unfold jj4
  rw [Bool.or_eq_false_iff, bne_eq_false_iff_eq, dif_all (i := i)]
  exact ⟨fun ⟨h, h2⟩ k hk => by
   by_cases e : k = i + 1
   ·rw [e]; exact h2
   ·exact h k (by omega), fun h => ⟨fun k hk => h k (by omega), h _ (Nat.le_refl _)⟩⟩
theorem jry {x y : List Bool} (hx : 1 ≤ x.length) (hl : x.length = y.length) : jj4 x y (x.length - 1) = !decide (x = y) := by
 cases h : jj4 x y (x.length - 1) with
 | false =>
  have := dif_all.1 h
  rw [decide_eq_true (zpr hl fun k hk => this k (by omega))]; rfl
 | true =>
  rw [decide_eq_false fun e => ?_]; rfl
  have : jj4 x y (x.length - 1) = false := dif_all.2 fun k _ => by rw [e]
  rw [h] at this; cases this
theorem zs8 {a b : Net} {v : List Bool} (h : MitOk v.length a b) (M : List (List Int)) (hd : 1 ≤ a.drive.length) :
  nth (zcu M v (zs6 v.length a b a.drive.length (a.drive.length - 1))) (zya (v.length + a.gates.length + b.gates.length) a.drive.length (a.drive.length - 1)).toNat =
   !decide (zqz (zcu M v a.gates) a.drive = zqz (zcu M v b.gates) b.drive) := by
 obtain ⟨V, hV⟩ : ∃ V, V = zcu M v (zs6 v.length a b a.drive.length (a.drive.length - 1)) := ⟨_, rfl⟩
 have hG := zs7 h (i := a.drive.length) (j := a.drive.length - 1) (Nat.le_refl _) (.inr ⟨rfl, by omega⟩)
 have hlen := jem v.length a b a.drive.length (a.drive.length - 1)
 have hfix : ∀ q, q < a.gates.length + b.gates.length + a.drive.length + (a.drive.length - 1) → nth V (v.length + q) = opN M V (nth (zs6 v.length a b a.drive.length (a.drive.length - 1)) q) := fun q hq => by
  rw [hV]; exact zs5 hG (by omega)
 rw [← hV]
 have hA : ∀ k, k < v.length + a.gates.length → nth V k = nth (zcu M v a.gates) k := fun k hk => by
  rw [hV]; unfold zs6
  rw [List.append_assoc, List.append_assoc, zs4, zg8 M _ _ k (by rw [za3]; exact hk)]
 have hB : ∀ k, k < v.length + b.gates.length → nth V (mvI v.length a.gates.length (k : Int)).toNat = nth (zcu M v b.gates) k := fun k => by
  induction k using Nat.strongRecOn with
  | _ k ih =>
   intro hk
   by_cases hc : k < v.length
   ·have e : mvI v.length a.gates.length (k : Int) = k := by unfold mvI; rw [if_pos (by omega)]
    rw [e, show (k : Int).toNat = k by omega, hA k (by omega), zg8 M _ _ k hc, zg8 M _ _ k hc]
   ·have e : mvI v.length a.gates.length (k : Int) = ((v.length + (a.gates.length + (k - v.length)) : Nat) : Int) := by unfold mvI; rw [if_neg (by omega)]; omega
    obtain ⟨q, hq⟩ : ∃ q, q = k - v.length := ⟨_, rfl⟩
    have hkq : k = v.length + q := by omega
    rw [e, show (((v.length + (a.gates.length + (k - v.length)) : Nat) : Int)).toNat = v.length + (a.gates.length + q) by omega, hfix _ (by omega)]
    have hg : nth (zs6 v.length a b a.drive.length (a.drive.length - 1)) (a.gates.length + q) = mvG v.length a.gates.length (nth b.gates q) := by
     unfold zs6
     rw [zbs (by simp [zhn]; omega), zbs (by simp; omega), zda (by omega), zif (by omega)]
     congr 2; omega
    rw [hg, hkq, zs5 h.gb (show q < b.gates.length by omega)]
    have g := h.gb q (by omega)
    have a0 := g.a0; have a1 := g.a1; have b0 := g.b0; have b1 := g.b1; have c0 := g.c0; have c1 := g.c1
    have one : ∀ x : Int, 0 ≤ x → x < (v.length + q : Nat) → nth V (mvI v.length a.gates.length x).toNat = nth (zcu M v b.gates) x.toNat := fun x h0 h1 => by
     have := ih x.toNat (by omega) (by omega)
     rw [show ((x.toNat : Nat) : Int) = x by omega] at this
     exact this
    exact jj3 rfl rfl (one _ a0 (by omega)) (one _ b0 (by omega)) (one _ c0 (by omega))
 obtain ⟨base, hbase⟩ : ∃ base, base = v.length + a.gates.length + b.gates.length := ⟨_, rfl⟩
 rw [← hbase]
 have hX : ∀ i, i < a.drive.length → nth V (base + i) = (nth (zqz (zcu M v a.gates) a.drive) i != nth (zqz (zcu M v b.gates) b.drive) i) := fun i hi => by
  have h1 := h.da i hi
  have h2 := h.db i (by rw [← h.dl]; exact hi)
  have hdl := h.dl
  have hg : nth (zs6 v.length a b a.drive.length (a.drive.length - 1)) (a.gates.length + b.gates.length + i) = ⟨4, nth a.drive i, mvI v.length a.gates.length (nth b.drive i), 0, 0⟩ := by
   unfold zs6
   rw [zbs (by simp [zhn]; omega), zda (by simp)]
   simp only [List.length_append, List.length_map]
   rw [show a.gates.length + b.gates.length + i - (a.gates.length + b.gates.length) = i by omega]
   unfold jg0
   rw [zcj hi]
  rw [hbase, show v.length + a.gates.length + b.gates.length + i = v.length + (a.gates.length + b.gates.length + i) by omega, hfix _ (by omega), hg]
  have e1 := hA (nth a.drive i).toNat (by omega)
  have e2 := hB (nth b.drive i).toNat (by omega)
  rw [show (((nth b.drive i).toNat : Nat) : Int) = nth b.drive i by omega] at e2
  show (nth V (nth a.drive i).toNat != nth V (mvI v.length a.gates.length (nth b.drive i)).toNat) = _
  rw [e1, e2]
  unfold zqz
  rw [zif hi, zif (by omega)]
 have hO : ∀ i, i < a.drive.length → nth V (zya base a.drive.length i).toNat = jj4 (zqz (zcu M v a.gates) a.drive) (zqz (zcu M v b.gates) b.drive) i := fun i => by
  induction i with
  | zero =>
   intro hi
   show nth V ((base : Int)).toNat = _
   rw [show ((base : Int)).toNat = base + 0 by omega, hX 0 hi]; rfl
  | succ i ih =>
   intro hi
   have hg : nth (zs6 v.length a b a.drive.length (a.drive.length - 1)) (a.gates.length + b.gates.length + a.drive.length + i) = ⟨3, zya base a.drive.length i, ((base + (i + 1) : Nat) : Int), 0, 0⟩ := by
    unfold zs6
    rw [zda (by simp [zhn]; omega)]
    simp only [List.length_append, List.length_map, zhn]
    rw [show a.gates.length + b.gates.length + a.drive.length + i - (a.gates.length + b.gates.length + a.drive.length) = i by omega]
    unfold orL
    rw [zcj (by omega), ← hbase]
   show nth V (((base + a.drive.length + i : Nat) : Int)).toNat = _
   rw [show (((base + a.drive.length + i : Nat) : Int)).toNat = v.length + (a.gates.length + b.gates.length + a.drive.length + i) by omega, hfix _ (by omega), hg]
   show (nth V (zya base a.drive.length i).toNat || nth V (((base + (i + 1) : Nat) : Int)).toNat) = _
   rw [ih (by omega), show (((base + (i + 1) : Nat) : Int)).toNat = base + (i + 1) by omega, hX _ hi]; rfl
 rw [hO _ (by omega)]
 have hol : (zqz (zcu M v a.gates) a.drive).length = a.drive.length := by simp [zqz]
 have := jry (x := zqz (zcu M v a.gates) a.drive) (y := zqz (zcu M v b.gates) b.drive) (by rw [hol]; exact hd) (by simp [zqz, h.dl])
 rw [hol] at this
 exact this
end Go.Proofs.Ytignimmnnccblaa
