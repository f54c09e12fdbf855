/- The order of the numbers: the law's walk. -/
import Derived.Test.YtignimmnnccblaaEd
set_option linter.unusedVariables false
set_option linter.unusedSimpArgs false
namespace Go.Proofs.Ytignimmnnccblaa
open Go Go.RowKit
end Go.Proofs.Ytignimmnnccblaa

/- The order of the numbers. -/
set_option linter.unusedVariables false
set_option linter.unusedSimpArgs false
namespace Go.Proofs.Ytignimmnnccblaa
open Go Go.RowKit
theorem jlq {V ins : Nat} {sh : Sh} {g1 g2 : List Gate} {f1 f2 : List T} (h1 : FsP V ins sh g1 g1.length f1) (h2 : FsP V ins sh g2 g2.length f2) (hp : g1 <+: g2) (hg : GatesOk (2 + ins) g1) : ∀ k, k < 2 + ins + g1.length → nth f2 k = nth f1 k := by
 intro k
 induction k using Nat.strongRecOn with
 | ind k ih =>
  intro hk
  by_cases h0 : k = 0
  ·subst h0; rw [h1.f0, h2.f0]
  by_cases hk1 : k = 1
  ·subst hk1; rw [h1.f1, h2.f1]
  by_cases hv : k < 2 + ins
  ·have a := h1.fv (k - 2) (by omega)
   have b := h2.fv (k - 2) (by omega)
   rw [show 2 + (k - 2) = k by omega] at a b
   rw [a, b]
  ·have hpl := hp.length_le
   obtain ⟨q, rfl⟩ : ∃ q, k = 2 + ins + q := ⟨k - (2 + ins), by omega⟩
   have hl1 := h1.len
   have hl2 := h2.len
   refine T.Ok.eq (h2.ok _ (zb3 (by omega))) (h1.ok _ (zb3 (by omega))) fun a => ?_
   rw [h1.fg q (by omega) a, h2.fg q (by omega) a]
   have eg : nth g2 q = nth g1 q := by
    obtain ⟨r, rfl⟩ := hp
    exact zbs (by omega)
   rw [eg]
   have hgo := hg q (by omega)
   have hx : ∀ j : Int, 0 ≤ j → j < (2 + ins + q : Nat) → nth (f2.take (2 + ins + q)) j.toNat = nth (f1.take (2 + ins + q)) j.toNat := fun j j0 j1 => by
    rw [zei ⟨by omega, by omega⟩, zei ⟨by omega, by omega⟩]
    exact ih j.toNat (by omega) (by omega)
   have ha := hx _ hgo.a0 hgo.a1
   have hb := hx _ hgo.b0 hgo.b1
   have hc := hx _ hgo.c0 hgo.c1
   unfold ziw
   have hlow : low (f2.take (2 + ins + q)) [(nth g1 q).a, (nth g1 q).b, (nth g1 q).c] a 3 = low (f1.take (2 + ins + q)) [(nth g1 q).a, (nth g1 q).b, (nth g1 q).c] a 3 := by
    have := znr (fs := f2.take (2 + ins + q)) (a := a) (x := (nth g1 q).a) (y := (nth g1 q).b) (z := (nth g1 q).c)
    have h2' := znr (fs := f1.take (2 + ins + q)) (a := a) (x := (nth g1 q).a) (y := (nth g1 q).b) (z := (nth g1 q).c)
    rw [ha, hb, hc] at this
    omega
   rw [ha, hb, hc, hlow]
end Go.Proofs.Ytignimmnnccblaa

/- Of no program: a row of rows of the call's own, as many as there are. -/
set_option linter.unusedVariables false
set_option linter.unusedSimpArgs false
namespace Go.Proofs.Ytignimmnnccblaa
open Go Go.RowKit
def hdl (n : Nat) : List (List D) → List AV
 | [] => []
 | l :: ls => .os 1 n 0 l.length :: hdl (n + 1) ls
end Go.Proofs.Ytignimmnnccblaa
