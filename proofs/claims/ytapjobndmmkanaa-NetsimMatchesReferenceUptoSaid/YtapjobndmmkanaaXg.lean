/- The law: values, inputs, effects, steps and sensitive outputs are the reference's. -/
import Derived.Test.YtapjobndmmkanaaXd
import Derived.Test.YtapjobndmmkanaaXe
import Derived.Test.YtapjobndmmkanaaXf
import Derived.Test.YtapjobndmmkanaaOj
set_option linter.unusedVariables false
set_option linter.unusedSimpArgs false
namespace Go.Proofs.Ytapjobndmmkanaa
open Go Go.RowKit
instance : Inhabited Net := ⟨⟨[], [], [], []⟩⟩
def jb8 (l : List Net) : D := .fs (l.flatMap zb1) l.length
theorem jn4 (n : Net) : (zb1 n).length = 4 := rfl
theorem jqw {l : List Net} {k : Nat} (h : k < l.length) : zb7 (l.flatMap zb1) (k * 4) 4 = some (zb1 (nth l k)) := zf8 jn4 h
theorem jhm (a : List Bool) (h : a.length ≤ 1000000) : zaz Try.prog 14 [boolsD a, boolsD a] (.d (oD true)) := by
 have := jpd a a (by unfold maxLen; omega)
 rwa [show decide (a = a) = true by simp] at this
theorem jx1 (a : List Int) (h : a.length ≤ 1000000) : zaz Try.prog 24 [intsD a, intsD a] (.d (oD true)) := by
 have := jfh a a (by unfold maxLen; omega)
 rwa [show decide (a = a) = true by simp] at this
theorem jhn {n : Net} {inp : List Bool} {mems : List (List Int)} {k : Int} : (zkx n inp mems k).length ≤ n.drive.length := by
 unfold zkx; split
 ·exact zsv _ _ _ _ _
 ·simp
structure RefOk (n : Net) (z : Odd) : Prop where
 ev : zaz Try.prog 15 [zby n, boolsD (zb9 n.ins.length z.v), intssD z.s.mems] (.d (boolsD (zhd n.gates (zb9 n.ins.length z.v) z.s.mems)))
 rv : zaz Try.prog 16 [zby n, boolsD (zb9 n.ins.length z.v), intssD z.s.mems] (.d (boolsD (zhd n.gates (zb9 n.ins.length z.v) z.s.mems)))
 eb : zaz Try.prog 14 [boolsD (zhd n.gates (zb9 n.ins.length z.v) z.s.mems), boolsD (zhd n.gates (zb9 n.ins.length z.v) z.s.mems)] (.d (oD true))
 ip : zaz Try.prog 17 [zby n, .agg (zcg z.s), za7 z.heads, boolsD z.rooms] (.d (boolsD (zme z.s z.heads z.rooms n.ins)))
 rp : zaz Try.prog 18 [zby n, .agg (zcg z.s), .agg (inC z.heads z.rooms)] (.d (boolsD (zme z.s z.heads z.rooms n.ins)))
 ib : zaz Try.prog 14 [boolsD (zme z.s z.heads z.rooms n.ins), boolsD (zme z.s z.heads z.rooms n.ins)] (.d (oD true))
 ef : zaz Try.prog 20 [zby n, .agg (zcg z.s), boolsD (zb9 n.out.length z.v), .agg [iD z.e0, iD z.e1]] (.d (.agg (zgv (efF n.out z.s (zb9 n.out.length z.v) z.e0.toNat z.e1.toNat))))
 rf : zaz Try.prog 21 [zby n, .agg (zcg z.s), .agg (efV (zb9 n.out.length z.v) z.e0 z.e1)] (.d (.agg (zgv (efF n.out z.s (zb9 n.out.length z.v) z.e0.toNat z.e1.toNat))))
 es : zaz Try.prog 19 [.agg (zgv (efF n.out z.s (zb9 n.out.length z.v) z.e0.toNat z.e1.toNat)), .agg (zgv (efF n.out z.s (zb9 n.out.length z.v) z.e0.toNat z.e1.toNat))] (.d (oD true))
 st : zaz Try.prog 22 [zby n, .agg (zcg z.s), .agg [za7 z.heads, boolsD z.rooms]] (.d (.agg (zgv (zwi n z.s z.heads z.rooms))))
 rt : zaz Try.prog 23 [zby n, .agg (zcg z.s), .agg (inC z.heads z.rooms)] (.d (.agg (zgv (zwi n z.s z.heads z.rooms))))
 ss : zaz Try.prog 19 [.agg (zgv (zwi n z.s z.heads z.rooms)), .agg (zgv (zwi n z.s z.heads z.rooms))] (.d (oD true))
 se : ∀ k, zaz Try.prog 25 [zby n, boolsD (zb9 n.ins.length z.v), intssD z.s.mems, iD k] (.d (intsD (zkx n (zb9 n.ins.length z.v) z.s.mems k)))
 re : ∀ k, zaz Try.prog 26 [zby n, .agg [boolsD (zb9 n.ins.length z.v), intssD z.s.mems], iD k] (.d (intsD (zkx n (zb9 n.ins.length z.v) z.s.mems k)))
 si : ∀ k, zaz Try.prog 24 [intsD (zkx n (zb9 n.ins.length z.v) z.s.mems k), intsD (zkx n (zb9 n.ins.length z.v) z.s.mems k)] (.d (oD true))
 bi : zaz Try.prog 13 [iD n.ins.length, bytesD z.v] (.d (boolsD (zb9 n.ins.length z.v)))
 bo : zaz Try.prog 13 [iD n.out.length, bytesD z.v] (.d (boolsD (zb9 n.out.length z.v)))
theorem jn5 {n : Net} {z : Odd} (hn : NetW n) (hv : zfx z.v) (ha : -128 ≤ z.e0 ∧ z.e0 < 128) (hb : -128 ≤ z.e1 ∧ z.e1 < 128) (hs : StSm z.s z.heads z.rooms) : RefOk n z := by
 have := hn.il; have := hn.gl; have := hn.ol; have := hn.od
 have := hs.r; have := hs.m; have := hs.h; have := hs.q
 have li := zcw n.ins.length z.v
 have lo := zcw n.out.length z.v
 have m3 : (1000 : Nat) ≤ maxLen := by unfold maxLen; decide
 have hg : GatesOk (2 + (zb9 n.ins.length z.v).length) n.gates := by rw [li]; exact hn.g
 have hd : DriveOk (2 + (zb9 n.ins.length z.v).length + n.gates.length) n.drive := by rw [li]; exact hn.d
 have hef := fun (v : List Bool) (hl : n.out.length ≤ v.length) => zu4 n z.s v z.e0 z.e1 (by omega) hl hn.wo (by omega) (by omega) (fun l hl => by have := hs.w l hl; omega) (by omega) (by omega) (by omega) (by omega)
 refine ⟨jm6 n _ _ hg (by omega) (by omega), zsu n _ _ hg (by omega) (by omega), jhm _ ?_, zz4 n z.s z.heads z.rooms (by omega) hn.wi (by omega) (by omega) (by omega), zu3 n z.s z.heads z.rooms (by omega) hn.wi (by omega) (by omega) (by omega), jhm _ ?_, ?_, hef _ (by omega), ?_, jo7 n z.s z.heads z.rooms hn hs, jpk n z.s z.heads z.rooms hn hs, ?_, fun k => ?_, fun k => ?_, fun k => jx1 _ ?_, jad _ _ (by omega) hv, jad _ _ (by omega) hv⟩
 ·rw [zbo]; omega
 ·rw [zbb]; omega
 ·exact zz8 n z.s _ z.e0 z.e1 (by omega) (by omega) hn.wo (by omega) (by omega) (fun l hl => by have := hs.w l hl; omega) (by omega) (by omega) (by omega) (by omega)
 ·exact jf7 _ _ _ _ _ (by omega) (by omega) (fun l hl => by have := hs.w l hl; omega) (by omega) (by omega)
 ·exact jf7 _ _ _ _ _ (by omega) (by omega) (fun l hl => by have := hs.w l hl; omega) (by omega) (by omega)
 ·exact zwm n _ _ k (by omega) hg (by omega) (by omega) hd (by omega)
 ·exact jpo n _ _ k (by omega) hg (by omega) (by omega) hd (by omega)
 ·have := jhn (n := n) (inp := zb9 n.ins.length z.v) (mems := z.s.mems) (k := k); omega
end Go.Proofs.Ytapjobndmmkanaa
