/- The reference's builder: input wires. -/
import Derived.Test.YtapjobndmmkanaaQr
import Derived.Test.YtapjobndmmkanaaYb
import Derived.Test.YtapjobndmmkanaaVi
import Derived.Test.YtapjobndmmkanaaOe
import Derived.Test.YtapjobndmmkanaaVd
import Derived.Test.YtapjobndmmkanaaMpn
set_option linter.unusedVariables false
set_option linter.unusedSimpArgs false
set_option maxRecDepth 100000
set_option maxHeartbeats 4000000
namespace Go.Proofs.Ytapjobndmmkanaa
open Go Go.RowKit
section
theorem yh0 : (type_of% @zfs) := @zfs
section
variable {p : Pr}
theorem ydy (h : PrOk p) {i : Nat} (hi : i < p.regs.length) : (nth p.regs i).w ≤ 8 := by
 have := (h.ct.r i (by simpa [ctP] using hi)).2
 rwa [show nth (ctP p).regs i = (nth p.regs i).w from jbx hi] at this
end
/- The reference's builder: outputs. -/
end
theorem yh1 : (type_of% @jnr) := @jnr
/- The reference's builder: the due bits. -/
theorem yh2 : (type_of% @zfs) := @zfs
theorem jld {α : Type} [Inhabited α] {f : α → List D} {w : Nat} (hw : ∀ a, (f a).length = w) {l : List α} {k off n : Nat} (hk : k < l.length) (ho : off + n ≤ w) : zbv (l.flatMap f) (k * w + off) n = some (((f (nth l k)).drop off).take n) := by
 have e1 : (l.flatMap f).drop (k * w + off) = ((f (nth l k)).drop off) ++ (l.drop (k + 1)).flatMap f := by
  rw [← List.drop_drop, zij hw, zdd hk, List.drop_eq_getElem_cons hk, List.flatMap_cons, List.drop_append_of_le_length (by rw [hw]; omega)]
 unfold zbv
 rw [if_pos (by
  rw [zca hw]
  have := Nat.mul_le_mul_right w (show k + 1 ≤ l.length from hk)
  rw [Nat.add_mul] at this; omega), e1, List.take_append_of_le_length (by rw [List.length_drop, hw]; omega)]
/- The reference's builder: outputs for registers and takes. -/
theorem yh3 : (type_of% @zzw) := @zzw
theorem zrw {p : Pr} (h : PrOk p) : ∀ i, i ≤ p.regs.length → (zbu p i).out.length ≤ 8 * i
 | 0, _ => by simp [zbu]
 | i + 1, hi => by
  have ih := zrw h i (by omega)
  have hs := (zhx h (show i < p.regs.length by omega) (zeb h i (by omega))).b.wid
  have := ydy h (i := i) (by omega)
  rw [zbu]; simp only [List.length_append, zaz, hs]; omega
theorem zrx {p : Pr} (h : PrOk p) : ∀ i, i ≤ p.takes.length → (zc8 p i).out.length ≤ 800 + i
 | 0, _ => by have := zrw h _ (Nat.le_refl _); have := h.rl; rw [zc8]; omega
 | i + 1, hi => by
  have ih := zrx h i (by omega)
  rw [zc8]; simp only [List.length_append, List.length_cons, List.length_nil]; omega
/- The reference's builder: BuildIn. -/
theorem yh4 : (type_of% @zfs) := @zfs
theorem zry {p : Pr} (h : PrOk p) : ∀ i, i ≤ p.puts.length → (zc3 p i).out.length ≤ 900 + 9 * i
 | 0, _ => by have := zrx h _ (Nat.le_refl _); have := h.tl; rw [zc3]; omega
 | i + 1, hi => by
  have ih := zry h i (by omega)
  have hs := (zmg h (show i < p.puts.length by omega) (zhk h i (by omega))).hb.wid
  have := (h.qb i (by omega)).2
  rw [zc3]; simp only [List.length_append, List.length_cons, List.length_nil, zaz, hs]; omega
theorem jan {p : Pr} (h : PrOk p) : ∀ i, i ≤ p.mems.length → (zcg p i).out.length ≤ 1800 + 12 * i
 | 0, _ => by have := zry h _ (Nat.le_refl _); have := h.ql; rw [zcg]; omega
 | i + 1, hi => by
  have ih := jan h i (by omega)
  have hs := (zmh h (show i < p.mems.length by omega) (zdy h i (by omega)) rfl rfl rfl rfl).hw.wid
  have em : nth (ctP p).mems i = ((nth p.mems i).words, (nth p.mems i).w) := jbx (by omega)
  have hmm := h.ct.m i (by simp [ctP]; omega)
  rw [em] at hmm
  simp only at hmm
  rw [zcg]; simp only [List.length_append, List.length_cons, List.length_nil, zaz, hs]; omega
/- The reference's netlists of processes that bytes describe. -/
theorem yh5 : (type_of% @zph) := @zph
/- netsim: steps; the law of shapes. -/
theorem yh6 : (type_of% @zfr) := @zfr
structure NetW (n : Net) : Prop where
 il : n.ins.length ≤ 1000
 gl : n.gates.length ≤ 1000
 ol : n.out.length ≤ 1000
 od : n.out.length = n.drive.length
 g : zvw (2 + n.ins.length) n.gates
 d : zv3 (2 + n.ins.length + n.gates.length) n.drive
 wi : ∀ w ∈ n.ins, WireIn w
 wo : ∀ w ∈ n.out, WireOut w
/- Netlists of processes are valid. -/
section
section
variable {p : Pr}
theorem jy3 (h : Proc p) : ∀ i, i ≤ p.regs.length → (zbu p i).out.length ≤ 3 * i
 | 0, _ => by simp [zbu]
 | i + 1, hi => by
  have ih := jy3 h i (by omega)
  have hs := (zhx h.ok (show i < p.regs.length by omega) (zeb h.ok i (by omega))).b.wid
  have := (h.rw i (by omega)).2
  rw [zbu]; simp only [List.length_append, zaz, hs]; omega
theorem jy4 (h : Proc p) : ∀ i, i ≤ p.takes.length → (zc8 p i).out.length ≤ 9 + i
 | 0, _ => by have := jy3 h _ (Nat.le_refl _); have := h.r3; rw [zc8]; omega
 | i + 1, hi => by
  have ih := jy4 h i (by omega)
  rw [zc8]; simp only [List.length_append, List.length_cons, List.length_nil]; omega
theorem jy5 (h : Proc p) : ∀ i, i ≤ p.puts.length → (zc3 p i).out.length ≤ 11 + 3 * i
 | 0, _ => by have := jy4 h _ (Nat.le_refl _); have := h.t2; rw [zc3]; omega
 | i + 1, hi => by
  have ih := jy5 h i (by omega)
  have hs := (zmg h.ok (show i < p.puts.length by omega) (zhk h.ok i (by omega))).hb.wid
  have := (h.qw i (by omega)).2
  rw [zc3]; simp only [List.length_append, List.length_cons, List.length_nil, zaz, hs]; omega
theorem jy6 (h : Proc p) : ∀ i, i ≤ p.mems.length → (zcg p i).out.length ≤ 17 + 6 * i
 | 0, _ => by have := jy5 h _ (Nat.le_refl _); have := h.q2; rw [zcg]; omega
 | i + 1, hi => by
  have ih := jy6 h i (by omega)
  have hs := (zmh h.ok (show i < p.mems.length by omega) (zdy h.ok i (by omega)) rfl rfl rfl rfl).hw.wid
  have := (h.mw i (by omega)).2.1
  rw [zcg]; simp only [List.length_append, List.length_cons, List.length_nil, zaz, hs]; omega
theorem zcs {α : Type} {P : α → Prop} {l m : List α} (h : ∀ x ∈ l, P x) (h' : ∀ x ∈ m, P x) : ∀ x ∈ l ++ m, P x := fun x hx => by
 rcases List.mem_append.1 hx with hx | hx
 ·exact h x hx
 ·exact h' x hx
theorem zdn {P : Wire → Prop} {kind i : Int} {w : Nat} (h : ∀ k, k < w → P ⟨kind, i, (k : Int)⟩) : ∀ x ∈ zb2 kind i w, P x := fun x hx => by
 obtain ⟨k, hk, rfl⟩ := List.mem_map.1 hx
 exact h k (List.mem_range.1 hk)
theorem ygc (h : Proc p) : ∀ i, i ≤ p.regs.length → ∀ w ∈ zfe p i, WireIn w
 | 0, _ => by intro w hw; simp [zfe] at hw
 | i + 1, hi => by
  rw [zfe]
  have := (h.rw i (by omega)).2; have := h.r3
  exact zcs (ygc h i (by omega)) (zdn fun k hk => ⟨by simp, by simp, by simp, by simp, by simp only; omega, by simp only; omega⟩)
theorem ygd (h : Proc p) : ∀ i, i ≤ p.takes.length → ∀ w ∈ ze3 p i, WireIn w
 | 0, _ => ygc h _ (Nat.le_refl _)
 | i + 1, hi => by
  rw [ze3]
  have := (h.tw i (by omega)).2; have := h.t2
  exact zcs (zcs (ygd h i (by omega)) (zdn fun k hk => ⟨by simp, by simp, by simp, by simp, by simp only; omega, by simp only; omega⟩)) (zdn fun k hk => ⟨by simp, by simp, by simp, by simp, by simp only; omega, by simp only; omega⟩)
theorem yge (h : Proc p) : ∀ i, i ≤ p.puts.length → ∀ w ∈ zfz p i, WireIn w
 | 0, _ => ygd h _ (Nat.le_refl _)
 | i + 1, hi => by
  rw [zfz]
  have := h.q2
  exact zcs (yge h i (by omega)) (zdn fun k hk => ⟨by simp, by simp, by simp, by simp, by simp only; omega, by simp only; omega⟩)
theorem zqm {P : Wire → Prop} {x : Wire} (h : P x) : ∀ w ∈ [x], P w := fun w hw => by rw [List.mem_singleton.1 hw]; exact h
theorem ygf (h : Proc p) : ∀ i, i ≤ p.regs.length → ∀ w ∈ (zbu p i).out, WireOut w
 | 0, _ => by intro w hw; simp [zbu] at hw
 | i + 1, hi => by
  have hs := (zhx h.ok (show i < p.regs.length by omega) (zeb h.ok i (by omega))).b.wid
  rw [zbu]; simp only [hs]
  have := (h.rw i (by omega)).2; have := h.r3
  exact zcs (ygf h i (by omega)) (zdn fun k hk => ⟨by simp, by simp, by simp, by simp only; omega, by simp only; omega⟩)
theorem ygg (h : Proc p) : ∀ i, i ≤ p.takes.length → ∀ w ∈ (zc8 p i).out, WireOut w
 | 0, _ => ygf h _ (Nat.le_refl _)
 | i + 1, hi => by
  rw [zc8]; simp only
  have := h.t2
  exact zcs (ygg h i (by omega)) (zqm ⟨by simp, by simp, by simp, by simp, by simp only; omega⟩)
theorem ygh (h : Proc p) : ∀ i, i ≤ p.puts.length → ∀ w ∈ (zc3 p i).out, WireOut w
 | 0, _ => ygg h _ (Nat.le_refl _)
 | i + 1, hi => by
  have hs := (zmg h.ok (show i < p.puts.length by omega) (zhk h.ok i (by omega))).hb.wid
  rw [zc3]; simp only [hs]
  have := (h.qw i (by omega)).2; have := h.q2
  exact zcs (zcs (ygh h i (by omega)) (zqm ⟨by simp, by simp, by simp, by simp, by simp only; omega⟩)) (zdn fun k hk => ⟨by simp, by simp, by simp, by simp only; omega, by simp only; omega⟩)
theorem ygi (h : Proc p) : ∀ i, i ≤ p.mems.length → ∀ w ∈ (zcg p i).out, WireOut w
 | 0, _ => ygh h _ (Nat.le_refl _)
 | i + 1, hi => by
  have hs := (zmh h.ok (show i < p.mems.length by omega) (zdy h.ok i (by omega)) rfl rfl rfl rfl).hw.wid
  rw [zcg]; simp only [hs]
  have := (h.mw i (by omega)).2.1; have := h.m1
  exact zcs (zcs (zcs (ygi h i (by omega)) (zqm ⟨by simp, by simp, by simp, by simp, by simp only; omega⟩)) (zdn fun k hk => ⟨by simp, by simp, by simp, by simp only; omega, by simp only; omega⟩)) (zdn fun k hk => ⟨by simp, by simp, by simp, by simp only; omega, by simp only; omega⟩)
theorem ydz (h : Proc p) : NetW (ze4 p) := by
 have ho := zdy h.ok _ (Nat.le_refl _)
 have h1 := ho.len; have h2 := h.cost; have h3 := h.ins
 have h4 := jy6 h _ (Nat.le_refl _); have h5 := h.m1
 have hc : cMP p p.mems.length = zgz p := rfl
 refine ⟨by show (zfi p).length ≤ _; omega, by show (zcg p p.mems.length).gs.length ≤ _; omega, by show (zcg p p.mems.length).out.length ≤ _; omega, ho.ol, fun k hk => ?_, ?_, yge h _ (Nat.le_refl _), ygi h _ (Nat.le_refl _)⟩
 ·have := ho.gi.rg k hk
  exact ⟨this.o1, this.o2, this.a0, this.a1, this.b0, this.b1, this.c0, this.c1, this.n0, Int.lt_of_lt_of_le this.n1 (by decide)⟩
 ·exact fun k hk => ho.dn k hk
end
/- Netlists of processes are valid, in the words of package netlist. -/
end
theorem jht {p : Pr} (h : Proc p) : NetV (ze4 p) := by
 have hw := ydz h
 have ho := zdy h.ok _ (Nat.le_refl _)
 have h1 := ho.len; have h2 := h.cost; have h3 := h.ins
 have hc : cMP p p.mems.length = zgz p := rfl
 have hol := hw.ol
 refine ⟨by show 2 + (zfi p).length + (zcg p p.mems.length).gs.length ≤ 600; omega, hw.od, hw.wi, hw.wo, hw.g, fun g hg => ?_, hw.d, by rw [← hw.od]; exact hol⟩
 obtain ⟨k, hk, e⟩ := List.mem_iff_getElem.1 hg
 have hk' : k < (zcg p p.mems.length).gs.length := hk
 have := ho.gi.rg k hk'
 rw [show nth (zcg p p.mems.length).gs k = g by rw [zdd hk']; exact e] at this
 exact ⟨this.cz, this.bz, this.nz, by have := this.n1; omega⟩
end Go.Proofs.Ytapjobndmmkanaa
