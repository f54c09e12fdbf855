/- Processes, and the netlist that is built of one. -/
import Derived.Test.YtapjobndmmkanaaOa
set_option linter.unusedVariables false
set_option linter.unusedSimpArgs false
namespace Go.Proofs.Ytapjobndmmkanaa
open Go Go.RowKit
structure PReg where
 name : ByteArray
 w : Nat
 init : Int
 next : Ex
 rk : Int
 rf : ByteArray
 rn : Int
 deriving Inhabited
structure PMem where
 name : ByteArray
 w : Nat
 words : Nat
 en : Ex
 ad : Ex
 da : Ex
 rk : Int
 rf : ByteArray
 rn : Int
 deriving Inhabited
structure PTake where
 chan : Int
 w : Nat
 wh : Ex
 deriving Inhabited
structure PPut where
 chan : Int
 w : Nat
 wh : Ex
 da : Ex
 deriving Inhabited
structure Pr where
 name : ByteArray
 clock : ByteArray
 regs : List PReg
 mems : List PMem
 takes : List PTake
 puts : List PPut
 deriving Inhabited
def ctP (p : Pr) : Ct := ⟨p.regs.map (·.w), p.takes.map (·.w), p.mems.map fun x => (x.words, x.w)⟩
def zji (kind i : Int) (w : Nat) : List Wire := (List.range w).map fun (k : Nat) => (⟨kind, i, (k : Int)⟩ : Wire)
theorem za9 (kind i : Int) (w : Nat) : (zji kind i w).length = w := by simp [zji]
theorem zi9 (kind i : Int) (w : Nat) : zji kind i (w + 1) = zji kind i w ++ [⟨kind, i, (w : Int)⟩] := by simp [zji, List.range_succ]
def zpg (p : Pr) : Nat → List Wire
 | 0 => []
 | k + 1 => zpg p k ++ zji 1 k (nth p.regs k).w
def zmg (p : Pr) : Nat → List Wire
 | 0 => zpg p p.regs.length
 | k + 1 => zmg p k ++ zji 2 k (nth p.takes k).w ++ zji 3 k 1
def zoa (p : Pr) : Nat → List Wire
 | 0 => zmg p p.takes.length
 | k + 1 => zoa p k ++ zji 4 k 1
def zbl (p : Pr) : List Wire := zoa p p.puts.length
def mP (p : Pr) : Nat := 2 + (zbl p).length
instance : DecidableEq Wire := fun ⟨a1, a2, a3⟩ ⟨b1, b2, b3⟩ =>
 if h : a1 = b1 ∧ a2 = b2 ∧ a3 = b3 then isTrue (by obtain ⟨h1, h2, h3⟩ := h; subst h1 h2 h3; rfl)
 else isFalse fun e => h (by cases e; exact ⟨rfl, rfl, rfl⟩)
def jce (g : Wire) : List Wire → Nat
 | [] => 0
 | x :: l => if x = g then 0 else jce g l + 1
theorem zhg {g : Wire} : ∀ {l : List Wire}, g ∈ l → jce g l < l.length ∧ nth l (jce g l) = g
 | [], h => by cases h
 | x :: l, h => by
  rw [jce]
  by_cases e : x = g
  ·rw [if_pos e]; exact ⟨by simp, by simpa [nth] using e⟩
  ·rw [if_neg e]
   have hl : g ∈ l := by
    rcases List.mem_cons.1 h with h | h
    ·exact absurd h.symm e
    ·exact h
   obtain ⟨h1, h2⟩ := zhg hl
   exact ⟨by simpa using h1, by simpa [nth] using h2⟩
theorem jgg {g : Wire} {l : List Wire} {k : Nat} (hk : k < l.length) (h : ∀ j, j < k → nth l j ≠ g) (e : nth l k = g) : jce g l = k := by
 induction l generalizing k with
 | nil => simp at hk
 | cons y l ih =>
  rw [jce]
  cases k with
  | zero => rw [if_pos (by simpa [nth] using e)]
  | succ k =>
   rw [if_neg (by have := h 0 (by omega); simpa [nth] using this)]
   rw [ih (k := k) (by simpa using hk) (fun j hj => by have := h (j + 1) (by omega); simpa [nth] using this) (by simpa [nth] using e)]
def inp (p : Pr) (kind : Int) (i k : Nat) : Int := ((2 + jce ⟨kind, (i : Int), (k : Int)⟩ (zbl p) : Nat) : Int)
structure Fi where
 gs : Gs
 takes : List Int
 data : List (List Int)
structure Fq where
 gs : Gs
 puts : List Int
def zci (p : Pr) (data : List (List Int)) (gs : Gs) (e : Ex) : Gs × List Int := zbz (ctP p) (inp p) (mP p) data gs e
def zcx (p : Pr) : Nat → Fi
 | 0 => ⟨[], [], []⟩
 | k + 1 =>
  let s := zcx p k
  let r := zci p s.data s.gs (nth p.takes k).wh
  let t := zbh (fun gs i => zg4 (mP p) gs (nth r.2 0) (inp p 2 k i)) r.1 (nth p.takes k).w
  ⟨t.1, s.takes ++ [nth r.2 0], s.data ++ [t.2]⟩
def zp5 (p : Pr) : Nat → Fq
 | 0 => ⟨(zcx p p.takes.length).gs, []⟩
 | k + 1 =>
  let s := zp5 p k
  let r := zci p (zcx p p.takes.length).data s.gs (nth p.puts k).wh
  ⟨r.1, s.puts ++ [nth r.2 0]⟩
def jgh (m : Nat) (gs : Gs) (fire due x : Int) : Re := let n := zj7 m gs due; let o := orB m n.1 n.2 x; zg4 m o.1 fire o.2
def jbv (p : Pr) : Nat → Re
 | 0 => ((zp5 p p.puts.length).gs, 1)
 | k + 1 => let s := jbv p k; jgh (mP p) s.1 s.2 (nth (zcx p p.takes.length).takes k) (inp p 3 k 0)
def zp6 (p : Pr) : Nat → Re
 | 0 => jbv p p.takes.length
 | k + 1 => let s := zp6 p k; jgh (mP p) s.1 s.2 (nth (zp5 p p.puts.length).puts k) (inp p 4 k 0)
def zhh (p : Pr) : List Int := (zcx p p.takes.length).takes
def zg6 (p : Pr) : List Int := (zp5 p p.puts.length).puts
def zcb (p : Pr) : List (List Int) := (zcx p p.takes.length).data
def zf3 (p : Pr) : Int := (zp6 p p.puts.length).2
structure Os where
 gs : Gs
 out : List Wire
 dr : List Int
def zdx (p : Pr) : Nat → Os
 | 0 => ⟨(zp6 p p.puts.length).1, [], []⟩
 | i + 1 =>
  let s := zdx p i
  let r := zci p (zcb p) s.gs (nth p.regs i).next
  let t := zbh (fun gs k => ztb (mP p) gs (zf3 p) (nth r.2 k) (inp p 1 i k)) r.1 r.2.length
  ⟨t.1, s.out ++ zji 1 i r.2.length, s.dr ++ t.2⟩
def zdq (p : Pr) : Nat → Os
 | 0 => zdx p p.regs.length
 | i + 1 =>
  let s := zdq p i
  let a := zg4 (mP p) s.gs (zf3 p) (nth (zhh p) i)
  ⟨a.1, s.out ++ [⟨5, i, 0⟩], s.dr ++ [a.2]⟩
def zdl (p : Pr) : Nat → Os
 | 0 => zdq p p.takes.length
 | i + 1 =>
  let s := zdl p i
  let a := zg4 (mP p) s.gs (zf3 p) (nth (zg6 p) i)
  let r := zci p (zcb p) a.1 (nth p.puts i).da
  let t := zbh (fun gs k => zg4 (mP p) gs a.2 (nth r.2 k)) r.1 r.2.length
  ⟨t.1, s.out ++ [⟨6, i, 0⟩] ++ zji 7 i r.2.length, s.dr ++ [a.2] ++ t.2⟩
def zcm (p : Pr) : Nat → Os
 | 0 => zdl p p.puts.length
 | i + 1 =>
  let s := zcm p i
  let e := zci p (zcb p) s.gs (nth p.mems i).en
  let a := zg4 (mP p) e.1 (zf3 p) (nth e.2 0)
  let d := zci p (zcb p) a.1 (nth p.mems i).ad
  let w := zci p (zcb p) d.1 (nth p.mems i).da
  ⟨w.1, s.out ++ [⟨8, i, 0⟩] ++ zji 9 i 3 ++ zji 10 i w.2.length, s.dr ++ [a.2] ++ jcd d.2 (nth p.mems i).words ++ w.2⟩
def jrc (p : Pr) : Net := let o := zcm p p.mems.length; ⟨zbl p, o.gs, o.out, o.dr⟩
def cTP (p : Pr) : Nat → Nat
 | 0 => 0
 | k + 1 => cTP p k + (zbw (ctP p) (nth p.takes k).wh + (nth p.takes k).w)
def cQP (p : Pr) : Nat → Nat
 | 0 => cTP p p.takes.length
 | k + 1 => cQP p k + zbw (ctP p) (nth p.puts k).wh
def cRP (p : Pr) : Nat → Nat
 | 0 => cQP p p.puts.length + 3 * p.takes.length + 3 * p.puts.length
 | k + 1 => cRP p k + (zbw (ctP p) (nth p.regs k).next + 2 * (nth p.regs k).w)
def cUP (p : Pr) : Nat → Nat
 | 0 => cRP p p.regs.length + p.takes.length
 | k + 1 => cUP p k + (1 + zbw (ctP p) (nth p.puts k).da + (nth p.puts k).w)
def cMP (p : Pr) : Nat → Nat
 | 0 => cUP p p.puts.length
 | k + 1 => cMP p k + (zbw (ctP p) (nth p.mems k).en + 1 + zbw (ctP p) (nth p.mems k).ad + zbw (ctP p) (nth p.mems k).da)
def zo8 (p : Pr) : Nat := cMP p p.mems.length
structure PrOk (p : Pr) : Prop where
 ct : CtOk (ctP p)
 tw : ∀ i, i < p.takes.length → WT (ctP p) false (nth p.takes i).wh ∧ zck (ctP p) (nth p.takes i).wh = 1
 rn : ∀ i, i < p.regs.length → WT (ctP p) true (nth p.regs i).next ∧ zck (ctP p) (nth p.regs i).next = (nth p.regs i).w
 qw : ∀ i, i < p.puts.length → WT (ctP p) true (nth p.puts i).wh ∧ zck (ctP p) (nth p.puts i).wh = 1
 qd : ∀ i, i < p.puts.length → WT (ctP p) true (nth p.puts i).da ∧ zck (ctP p) (nth p.puts i).da = (nth p.puts i).w
 qb : ∀ i, i < p.puts.length → 1 ≤ (nth p.puts i).w ∧ (nth p.puts i).w ≤ 8
 me : ∀ i, i < p.mems.length → WT (ctP p) true (nth p.mems i).en ∧ zck (ctP p) (nth p.mems i).en = 1
 ma : ∀ i, i < p.mems.length → WT (ctP p) true (nth p.mems i).ad
 md : ∀ i, i < p.mems.length → WT (ctP p) true (nth p.mems i).da ∧ zck (ctP p) (nth p.mems i).da = (nth p.mems i).w
 rl : p.regs.length ≤ 100
 tl : p.takes.length ≤ 100
 ql : p.puts.length ≤ 100
 cl : zo8 p ≤ 100000
theorem jpt {α β : Type} [Inhabited α] [Inhabited β] {f : α → β} {l : List α} {k : Nat} (h : k < l.length) : nth (l.map f) k = f (nth l k) := by
 unfold nth; simp [List.getD_eq_getElem?_getD, h]
theorem zsx {kind i : Int} {w k : Nat} (h : k < w) : (⟨kind, i, (k : Int)⟩ : Wire) ∈ zji kind i w := List.mem_map.2 ⟨k, List.mem_range.2 h, rfl⟩
section
variable {p : Pr}
theorem jv1 : ∀ {n i k : Nat}, i < n → k < (nth p.regs i).w → (⟨1, (i : Int), (k : Int)⟩ : Wire) ∈ zpg p n
 | n + 1, i, k, h, hk => by
  rw [zpg]
  by_cases e : i < n
  ·exact List.mem_append_left _ (jv1 e hk)
  ·have : i = n := by omega
   subst this
   exact List.mem_append_right _ (zsx hk)
theorem jnf {x : Wire} (h : x ∈ zpg p p.regs.length) : ∀ n, x ∈ zmg p n
 | 0 => h
 | n + 1 => by rw [zmg]; exact List.mem_append_left _ (List.mem_append_left _ (jnf h n))
theorem jng : ∀ {n i k : Nat}, i < n → k < (nth p.takes i).w → (⟨2, (i : Int), (k : Int)⟩ : Wire) ∈ zmg p n
 | n + 1, i, k, h, hk => by
  rw [zmg]
  by_cases e : i < n
  ·exact List.mem_append_left _ (List.mem_append_left _ (jng e hk))
  ·have : i = n := by omega
   subst this
   exact List.mem_append_left _ (List.mem_append_right _ (zsx hk))
theorem jnh : ∀ {n i : Nat}, i < n → (⟨3, (i : Int), 0⟩ : Wire) ∈ zmg p n
 | n + 1, i, h => by
  rw [zmg]
  by_cases e : i < n
  ·exact List.mem_append_left _ (List.mem_append_left _ (jnh e))
  ·have : i = n := by omega
   subst this
   exact List.mem_append_right _ (zsx (k := 0) (by decide))
theorem jai {x : Wire} (h : x ∈ zmg p p.takes.length) : ∀ n, x ∈ zoa p n
 | 0 => h
 | n + 1 => by rw [zoa]; exact List.mem_append_left _ (jai h n)
theorem jni : ∀ {n i : Nat}, i < n → (⟨4, (i : Int), 0⟩ : Wire) ∈ zoa p n
 | n + 1, i, h => by
  rw [zoa]
  by_cases e : i < n
  ·exact List.mem_append_left _ (jni e)
  ·have : i = n := by omega
   subst this
   exact List.mem_append_right _ (zsx (k := 0) (by decide))
theorem in1 {i k : Nat} (h : i < p.regs.length) (hk : k < (nth p.regs i).w) : (⟨1, (i : Int), (k : Int)⟩ : Wire) ∈ zbl p := jai (jnf (jv1 h hk) _) _
theorem in2 {i k : Nat} (h : i < p.takes.length) (hk : k < (nth p.takes i).w) : (⟨2, (i : Int), (k : Int)⟩ : Wire) ∈ zbl p := jai (jng h hk) _
theorem in3 {i : Nat} (h : i < p.takes.length) : (⟨3, (i : Int), ((0 : Nat) : Int)⟩ : Wire) ∈ zbl p := jai (jnh h) _
theorem in4 {i : Nat} (h : i < p.puts.length) : (⟨4, (i : Int), ((0 : Nat) : Int)⟩ : Wire) ∈ zbl p := jni h
theorem zij {kind : Int} {i k : Nat} (h : (⟨kind, (i : Int), (k : Int)⟩ : Wire) ∈ zbl p) (gs : Gs) : NdB (mP p) gs (inp p kind i k) := by
 have := (zhg h).1
 unfold NdB inp mP
 constructor <;> omega
theorem jzv (h : PrOk p) : InOk (ctP p) (inp p) (mP p) := ⟨fun i k hi hk => by
 have hi' : i < p.regs.length := by simpa [ctP] using hi
 have e : nth (ctP p).regs i = (nth p.regs i).w := jpt hi'
 rw [e] at hk
 have := zij (in1 hi' hk) []
 exact ⟨this.1, by have := this.2; simpa using this⟩⟩
theorem mP2 : 2 ≤ mP p := by unfold mP; omega
theorem jzw {i : Nat} (h : i < p.takes.length) : nth (ctP p).takes i = (nth p.takes i).w := jpt h
structure TkOk (p : Pr) (k : Nat) (s : Fi) : Prop where
 gi : GI (mP p) s.gs
 len : s.gs.length ≤ cTP p k
 tl : s.takes.length = k
 tn : ∀ i, i < k → NdB (mP p) s.gs (nth s.takes i)
 dl : s.data.length = k
 dw : ∀ i, i < k → (nth s.data i).length = (nth p.takes i).w
 dn : ∀ i, i < k → ∀ j, j < (nth p.takes i).w → NdB (mP p) s.gs (nth (nth s.data i) j)
theorem zhi {α : Type} [Inhabited α] {l : List α} {x : α} {i k : Nat} (hl : l.length = k) (hi : i < k + 1) : (i < k ∧ nth (l ++ [x]) i = nth l i) ∨ (i = k ∧ nth (l ++ [x]) i = x) := by
 by_cases h : i < k
 ·exact .inl ⟨h, jhx (by omega)⟩
 ·have : i = l.length := by omega
  exact .inr ⟨by omega, by rw [this, jvx]⟩
structure TkS (p : Pr) (k : Nat) (s : Fi) (r : Gs × List Int) : Prop where
 b : Bs (mP p) (zbw (ctP p) (nth p.takes k).wh) 1 s.gs r
 t : Bs (mP p) (1 * (nth p.takes k).w) (nth p.takes k).w r.1 (zbh (fun gs i => zg4 (mP p) gs (nth r.2 0) (inp p 2 k i)) r.1 (nth p.takes k).w)
theorem jnj (h : PrOk p) {k : Nat} (hk : k < p.takes.length) {s : Fi} (hs : TkOk p k s) : TkS p k s (zci p s.data s.gs (nth p.takes k).wh) := by
 have hw := h.tw k hk
 have hb := zwp (q := false) (data := s.data) mP2 h.ct (jzv h) (nth p.takes k).wh hs.gi (DaOk.mk (by intro e; cases e) (by intro e; cases e) (by intro e; cases e)) hw.1
 rw [hw.2] at hb
 exact ⟨hb, zda hb.gi fun i hi gs' hp hg => zg5 mP2 hg (hb.at hp (by decide)) (zij (in2 hk hi) _)⟩
theorem zhj (h : PrOk p) : ∀ k, k ≤ p.takes.length → TkOk p k (zcx p k)
 | 0, _ => ⟨GI.nil _, by simp [zcx], rfl, fun i hi => by omega, rfl, fun i hi => by omega, fun i hi => by omega⟩
 | k + 1, hk => by
  have ih := zhj h k (by omega)
  obtain ⟨hb, ht⟩ := jnj h (show k < p.takes.length by omega) ih
  simp only [zcx]
  generalize zcx p k = s at *
  generalize zci p s.data s.gs (nth p.takes k).wh = r at *
  generalize zbh (fun gs i => zg4 (mP p) gs (nth r.2 0) (inp p 2 k i)) r.1 (nth p.takes k).w = t at *
  have hpt := hb.pre.trans ht.pre
  refine ⟨ht.gi, ?_, by simp [ih.tl], fun i hi => ?_, by simp [ih.dl], fun i hi => ?_, fun i hi j hj => ?_⟩
  ·have h1 := ih.len; have h2 := hb.len; have h3 := ht.len
   rw [cTP]; simp only; omega
  ·rcases zhi (x := nth r.2 0) ih.tl hi with ⟨hl, e⟩ | ⟨hl, e⟩
   ·simp only; rw [e]; exact (ih.tn i hl).pre hpt
   ·simp only; rw [e]; exact hb.at ht.pre (by decide)
  ·rcases zhi (x := t.2) ih.dl hi with ⟨hl, e⟩ | ⟨hl, e⟩
   ·simp only; rw [e]; exact ih.dw i hl
   ·simp only; rw [e, hl]; exact ht.wid
  ·rcases zhi (x := t.2) ih.dl hi with ⟨hl, e⟩ | ⟨hl, e⟩
   ·simp only; rw [e]; exact (ih.dn i hl j hj).pre hpt
   ·simp only; rw [e]; subst hl; exact ht.nd j hj
theorem zwq (h : PrOk p) {gs : Gs} (hp : (zcx p p.takes.length).gs <+: gs) : DaOk (ctP p) true (mP p) gs (zcb p) := by
 have ht := zhj h _ (Nat.le_refl _)
 refine ⟨fun _ => by show (zcx p p.takes.length).data.length = _; rw [ht.dl]; simp [ctP], fun _ i hi => ?_, fun _ i hi k hk => ?_⟩
 ·have hi' : i < p.takes.length := by simpa [ctP] using hi
  rw [jzw hi']; exact ht.dw i hi'
 ·have hi' : i < p.takes.length := by simpa [ctP] using hi
  rw [jzw hi'] at hk
  exact (ht.dn i hi' k hk).pre hp
theorem jnk (h : PrOk p) {gs : Gs} (hg : GI (mP p) gs) (hp : (zcx p p.takes.length).gs <+: gs) {e : Ex} (ht : WT (ctP p) true e) : Bs (mP p) (zbw (ctP p) e) (zck (ctP p) e) gs (zci p (zcb p) gs e) :=
 zwp mP2 h.ct (jzv h) e hg (zwq h hp) ht
structure PtOk (p : Pr) (k : Nat) (s : Fq) : Prop where
 pre : (zcx p p.takes.length).gs <+: s.gs
 gi : GI (mP p) s.gs
 len : s.gs.length ≤ cQP p k
 ql : s.puts.length = k
 qn : ∀ i, i < k → NdB (mP p) s.gs (nth s.puts i)
theorem jv2 (h : PrOk p) {k : Nat} (hk : k < p.puts.length) {s : Fq} (hs : PtOk p k s) : Bs (mP p) (zbw (ctP p) (nth p.puts k).wh) 1 s.gs (zci p (zcb p) s.gs (nth p.puts k).wh) := by
 have := jnk h hs.gi hs.pre (h.qw k hk).1
 rwa [(h.qw k hk).2] at this
theorem zju (h : PrOk p) : ∀ k, k ≤ p.puts.length → PtOk p k (zp5 p k)
 | 0, _ => by
  have ht := zhj h _ (Nat.le_refl _)
  exact ⟨List.prefix_refl _, ht.gi, ht.len, rfl, fun i hi => by omega⟩
 | k + 1, hk => by
  have ih := zju h k (by omega)
  have hb := jv2 h (show k < p.puts.length by omega) ih
  unfold zcb at hb
  simp only [zp5]
  generalize zp5 p k = s at *
  generalize zci p (zcx p p.takes.length).data s.gs (nth p.puts k).wh = r at *
  refine ⟨ih.pre.trans hb.pre, hb.gi, ?_, by simp [ih.ql], fun i hi => ?_⟩
  ·have h1 := ih.len; have h2 := hb.len
   rw [cQP]; simp only; omega
  ·rcases zhi (x := nth r.2 0) ih.ql hi with ⟨hl, e⟩ | ⟨hl, e⟩
   ·simp only; rw [e]; exact (ih.qn i hl).pre hb.pre
   ·simp only; rw [e]; exact hb.nd 0 (by decide)
theorem jgi {m : Nat} {gs : Gs} {f d x : Int} (h2 : 2 ≤ m) (h : GI m gs) (hf : NdB m gs f) (hd : NdB m gs d) (hx : NdB m gs x) : Rs m 3 gs (jgh m gs f d x) := by
 have hn := zfz h2 h hd
 have ho := zwo h2 hn.gi hn.nd (hx.pre hn.pre)
 have ha := zg5 h2 ho.gi (hf.pre (hn.pre.trans ho.pre)) ho.nd
 exact ((hn.trans ho).trans ha).mono (by omega)
theorem zsy (h : PrOk p) : ∀ k, k ≤ p.takes.length → Rs (mP p) (3 * k) (zp5 p p.puts.length).gs (jbv p k)
 | 0, _ => Rs.same (zju h _ (Nat.le_refl _)).gi ⟨by decide, by have := @mP2 p; omega⟩
 | k + 1, hk => by
  have ih := zsy h k (by omega)
  have hq := zju h _ (Nat.le_refl _)
  have ht := zhj h _ (Nat.le_refl _)
  exact (ih.trans (jgi mP2 ih.gi ih.nd ((ht.tn k (by omega)).pre (hq.pre.trans ih.pre)) (zij (in3 (by omega)) _))).mono (by omega)
theorem zja (h : PrOk p) : ∀ k, k ≤ p.puts.length → Rs (mP p) (3 * p.takes.length + 3 * k) (zp5 p p.puts.length).gs (zp6 p k)
 | 0, _ => zsy h _ (Nat.le_refl _)
 | k + 1, hk => by
  have ih := zja h k (by omega)
  have hq := zju h _ (Nat.le_refl _)
  exact (ih.trans (jgi mP2 ih.gi ih.nd ((hq.qn k (by omega)).pre ih.pre) (zij (in4 (by omega)) _))).mono (by omega)
structure OsOk (p : Pr) (n : Nat) (s : Os) : Prop where
 pre : (zp6 p p.puts.length).1 <+: s.gs
 gi : GI (mP p) s.gs
 len : s.gs.length ≤ n
 ol : s.out.length = s.dr.length
 dn : ∀ i, i < s.dr.length → NdB (mP p) s.gs (nth s.dr i)
section
variable {n : Nat} {s : Os}
theorem OsOk.tp (h : PrOk p) (hs : OsOk p n s) : (zcx p p.takes.length).gs <+: s.gs := (zju h _ (Nat.le_refl _)).pre.trans ((zja h _ (Nat.le_refl _)).pre.trans hs.pre)
theorem OsOk.bits (h : PrOk p) (hs : OsOk p n s) {gs : Gs} (hp : s.gs <+: gs) (hg : GI (mP p) gs) {e : Ex} (ht : WT (ctP p) true e) : Bs (mP p) (zbw (ctP p) e) (zck (ctP p) e) gs (zci p (zcb p) gs e) := jnk h hg ((hs.tp h).trans hp) ht
theorem OsOk.fire (h : PrOk p) (hs : OsOk p n s) {gs : Gs} (hp : s.gs <+: gs) : NdB (mP p) gs (zf3 p) := (zja h _ (Nat.le_refl _)).nd.pre (hs.pre.trans hp)
theorem OsOk.dueT (h : PrOk p) (hs : OsOk p n s) {gs : Gs} (hp : s.gs <+: gs) {i : Nat} (hi : i < p.takes.length) : NdB (mP p) gs (nth (zhh p) i) := ((zhj h _ (Nat.le_refl _)).tn i hi).pre ((hs.tp h).trans hp)
theorem OsOk.dueQ (h : PrOk p) (hs : OsOk p n s) {gs : Gs} (hp : s.gs <+: gs) {i : Nat} (hi : i < p.puts.length) : NdB (mP p) gs (nth (zg6 p) i) := ((zju h _ (Nat.le_refl _)).qn i hi).pre ((zja h _ (Nat.le_refl _)).pre.trans (hs.pre.trans hp))
theorem OsOk.app (hs : OsOk p n s) {k : Nat} {gs : Gs} {o : List Wire} {d : List Int} (hp : s.gs <+: gs) (hg : GI (mP p) gs) (hl : gs.length ≤ k) (ho : o.length = d.length) (hd : ∀ i, i < d.length → NdB (mP p) gs (nth d i)) : OsOk p k ⟨gs, s.out ++ o, s.dr ++ d⟩ := by
 refine ⟨hs.pre.trans hp, hg, hl, by simp [hs.ol, ho], fun i hi => ?_⟩
 simp only at hi ⊢
 by_cases h : i < s.dr.length
 ·rw [jhx h]; exact (hs.dn i h).pre hp
 ·rw [jrb (by omega)]; exact hd _ (by simp at hi; omega)
end
structure RgS (p : Pr) (i : Nat) (s : Os) (r : Gs × List Int) : Prop where
 b : Bs (mP p) (zbw (ctP p) (nth p.regs i).next) (nth p.regs i).w s.gs r
 t : Bs (mP p) (2 * (nth p.regs i).w) (nth p.regs i).w r.1 (zbh (fun gs k => ztb (mP p) gs (zf3 p) (nth r.2 k) (inp p 1 i k)) r.1 (nth p.regs i).w)
theorem zu6 (h : PrOk p) {i n : Nat} {s : Os} (hi : i < p.regs.length) (hs : OsOk p n s) : RgS p i s (zci p (zcb p) s.gs (nth p.regs i).next) := by
 have hb := hs.bits h (List.prefix_refl _) hs.gi (h.rn i hi).1
 rw [(h.rn i hi).2] at hb
 exact ⟨hb, zda hb.gi fun k hk gs' hp hg => jaf mP2 hg (hs.fire h (hb.pre.trans hp)) (hb.at hp hk) (zij (in1 hi hk) _)⟩
theorem zlx (h : PrOk p) : ∀ i, i ≤ p.regs.length → OsOk p (cRP p i) (zdx p i)
 | 0, _ => by
  have hf := zja h _ (Nat.le_refl _)
  have hq := zju h _ (Nat.le_refl _)
  exact ⟨List.prefix_refl _, hf.gi, by have := hf.len; have := hq.len; simp only [zdx, cRP]; omega, rfl, fun i hi => by simp [zdx] at hi⟩
 | i + 1, hi => by
  have ih := zlx h i (by omega)
  obtain ⟨hb, ht⟩ := zu6 h (show i < p.regs.length by omega) ih
  simp only [zdx]
  generalize zdx p i = s at *
  generalize zci p (zcb p) s.gs (nth p.regs i).next = r at *
  rw [hb.wid]
  refine ih.app (hb.pre.trans ht.pre) ht.gi ?_ (by rw [za9, ht.wid]) fun k hk => ht.nd k (by rw [ht.wid] at hk; exact hk)
  have h1 := ih.len; have h2 := hb.len; have h3 := ht.len
  rw [cRP]; omega
theorem zwr (h : PrOk p) : ∀ i, i ≤ p.takes.length → OsOk p (cRP p p.regs.length + i) (zdq p i)
 | 0, _ => zlx h _ (Nat.le_refl _)
 | i + 1, hi => by
  have ih := zwr h i (by omega)
  have ha := zg5 mP2 ih.gi (ih.fire h (List.prefix_refl _)) (ih.dueT h (List.prefix_refl _) (show i < p.takes.length by omega))
  simp only [zdq]
  exact ih.app ha.pre ha.gi (by have := ha.len; have := ih.len; omega) rfl (jgf ha.nd)
structure PuS (p : Pr) (i : Nat) (s : Os) (a : Re) (r : Gs × List Int) : Prop where
 ha : Rs (mP p) 1 s.gs a
 hb : Bs (mP p) (zbw (ctP p) (nth p.puts i).da) (nth p.puts i).w a.1 r
 ht : Bs (mP p) (1 * (nth p.puts i).w) (nth p.puts i).w r.1 (zbh (fun gs k => zg4 (mP p) gs a.2 (nth r.2 k)) r.1 (nth p.puts i).w)
theorem zu7 (h : PrOk p) {i n : Nat} {s : Os} (hi : i < p.puts.length) (hs : OsOk p n s) : PuS p i s (zg4 (mP p) s.gs (zf3 p) (nth (zg6 p) i)) (zci p (zcb p) (zg4 (mP p) s.gs (zf3 p) (nth (zg6 p) i)).1 (nth p.puts i).da) := by
 have ha := zg5 mP2 hs.gi (hs.fire h (List.prefix_refl _)) (hs.dueQ h (List.prefix_refl _) hi)
 have hb := hs.bits h ha.pre ha.gi (h.qd i hi).1
 rw [(h.qd i hi).2] at hb
 exact ⟨ha, hb, zda hb.gi fun k hk gs' hp hg => zg5 mP2 hg (ha.nd.pre (hb.pre.trans hp)) (hb.at hp hk)⟩
theorem zly (h : PrOk p) : ∀ i, i ≤ p.puts.length → OsOk p (cUP p i) (zdl p i)
 | 0, _ => zwr h _ (Nat.le_refl _)
 | i + 1, hi => by
  have ih := zly h i (by omega)
  obtain ⟨ha, hb, ht⟩ := zu7 h (show i < p.puts.length by omega) ih
  simp only [zdl]
  generalize zdl p i = s at *
  generalize zg4 (mP p) s.gs (zf3 p) (nth (zg6 p) i) = a at *
  generalize zci p (zcb p) a.1 (nth p.puts i).da = r at *
  rw [hb.wid, List.append_assoc, List.append_assoc]
  refine ih.app (ha.pre.trans (hb.pre.trans ht.pre)) ht.gi ?_ (by simp [za9, ht.wid]) fun k hk => ?_
  ·have h1 := ih.len; have h2 := hb.len; have h3 := ht.len; have h4 := ha.len
   rw [cUP]; omega
  ·simp only [List.length_append, List.length_cons, List.length_nil, ht.wid] at hk
   by_cases e : k = 0
   ·subst e; exact ha.nd.pre (hb.pre.trans ht.pre)
   ·rw [jrb (by simp only [List.length_cons, List.length_nil]; omega)]; exact ht.nd _ (by simp only [List.length_cons, List.length_nil]; omega)
structure MeS (p : Pr) (i : Nat) (s : Os) (e : Gs × List Int) (a : Re) (d w : Gs × List Int) : Prop where
 he : Bs (mP p) (zbw (ctP p) (nth p.mems i).en) 1 s.gs e
 ha : Rs (mP p) 1 e.1 a
 hd : Bs (mP p) (zbw (ctP p) (nth p.mems i).ad) (zck (ctP p) (nth p.mems i).ad) a.1 d
 hw : Bs (mP p) (zbw (ctP p) (nth p.mems i).da) (nth p.mems i).w d.1 w
theorem zu8 (h : PrOk p) {i n : Nat} {s : Os} (hi : i < p.mems.length) (hs : OsOk p n s) {e : Gs × List Int} {a : Re} {d w : Gs × List Int} (he : e = zci p (zcb p) s.gs (nth p.mems i).en) (ha : a = zg4 (mP p) e.1 (zf3 p) (nth e.2 0)) (hd : d = zci p (zcb p) a.1 (nth p.mems i).ad) (hw : w = zci p (zcb p) d.1 (nth p.mems i).da) : MeS p i s e a d w := by
 have h1 := hs.bits h (List.prefix_refl _) hs.gi (h.me i hi).1
 rw [(h.me i hi).2, ← he] at h1
 have h2 := zg5 mP2 h1.gi (hs.fire h h1.pre) (h1.nd 0 (by decide))
 rw [← ha] at h2
 have h3 := hs.bits h (h1.pre.trans h2.pre) h2.gi (h.ma i hi)
 rw [← hd] at h3
 have h4 := hs.bits h (h1.pre.trans (h2.pre.trans h3.pre)) h3.gi (h.md i hi).1
 rw [(h.md i hi).2, ← hw] at h4
 exact ⟨h1, h2, h3, h4⟩
theorem zj8 (l : List Int) (n : Nat) : (jcd l n).length = 3 := by simp [jcd]
theorem zj9 (h : PrOk p) : ∀ i, i ≤ p.mems.length → OsOk p (cMP p i) (zcm p i)
 | 0, _ => zly h _ (Nat.le_refl _)
 | i + 1, hi => by
  have ih := zj9 h i (by omega)
  simp only [zcm]
  generalize zcm p i = s at *
  generalize he : zci p (zcb p) s.gs (nth p.mems i).en = e
  generalize ha : zg4 (mP p) e.1 (zf3 p) (nth e.2 0) = a
  generalize hd : zci p (zcb p) a.1 (nth p.mems i).ad = d
  generalize hw : zci p (zcb p) d.1 (nth p.mems i).da = w
  obtain ⟨h1, h2, h3, h4⟩ := zu8 h (show i < p.mems.length by omega) ih he.symm ha.symm hd.symm hw.symm
  rw [h4.wid, List.append_assoc, List.append_assoc, List.append_assoc, List.append_assoc]
  refine ih.app (h1.pre.trans (h2.pre.trans (h3.pre.trans h4.pre))) h4.gi ?_ (by simp [za9, h4.wid, zj8]) fun k hk => ?_
  ·have l1 := ih.len; have l2 := h1.len; have l3 := h2.len; have l4 := h3.len; have l5 := h4.len
   rw [cMP]; omega
  ·simp only [List.length_append, List.length_cons, List.length_nil, h4.wid, zj8] at hk
   by_cases e0 : k = 0
   ·subst e0; exact h2.nd.pre (h3.pre.trans h4.pre)
   ·rw [jrb (by simp only [List.length_cons, List.length_nil]; omega)]
    simp only [List.length_cons, List.length_nil]
    by_cases e1 : k - (0 + 1) < 3
    ·rw [jhx (by rw [zj8]; exact e1)]
     exact (zu5 mP2 (fun j hj => h3.nd j (by rw [h3.wid] at hj; exact hj)) e1).pre h4.pre
    ·rw [jrb (by rw [zj8]; omega), zj8]
     exact h4.nd _ (by omega)
end
theorem zo9 {f : Nat → Nat} (h : ∀ k, f k ≤ f (k + 1)) {a b : Nat} (hab : a ≤ b) : f a ≤ f b := by
 induction b with
 | zero =>
   have : a = 0 := by omega
   subst this; exact Nat.le_refl _
 | succ b ih =>
  by_cases e : a = b + 1
  ·subst e; exact Nat.le_refl _
  ·exact Nat.le_trans (ih (by omega)) (h b)
section
variable {p : Pr}
theorem jgj {k : Nat} (hk : k ≤ p.mems.length) : cMP p k ≤ zo8 p := zo9 (fun k => by rw [cMP]; omega) hk
theorem jgk {k : Nat} (hk : k ≤ p.puts.length) : cUP p k ≤ zo8 p := Nat.le_trans (zo9 (fun k => by rw [cUP]; omega) hk) (jgj (k := 0) (by omega))
theorem jnl {k : Nat} (hk : k ≤ p.regs.length) : cRP p k ≤ zo8 p := Nat.le_trans (zo9 (fun k => by rw [cRP]; omega) hk) (Nat.le_trans (by rw [cUP]; omega) (jgk (k := 0) (by omega)))
theorem jgl {k : Nat} (hk : k ≤ p.puts.length) : cQP p k ≤ zo8 p := Nat.le_trans (zo9 (fun k => by rw [cQP]; omega) hk) (Nat.le_trans (by rw [cRP]; omega) (jnl (k := 0) (by omega)))
theorem jv3 {k : Nat} (hk : k ≤ p.takes.length) : cTP p k ≤ zo8 p := Nat.le_trans (zo9 (fun k => by rw [cTP]; omega) hk) (Nat.le_trans (by rw [cQP]; omega) (jgl (k := 0) (by omega)))
end
end Go.Proofs.Ytapjobndmmkanaa
