/- Build, of a shape and nodes that are not refused. -/
import Derived.Test.YtignimmnnccblaaQr
import Derived.Test.YtignimmnnccblaaCh
set_option linter.unusedVariables false
set_option linter.unusedSimpArgs false
set_option maxRecDepth 100000
set_option maxHeartbeats 4000000
namespace Go.Proofs.Ytignimmnnccblaa
open Go Go.RowKit
theorem zde : (((((((type_of% @zds) ∧ ((type_of% @zdt) ∧ (type_of% @zei))) ∧ ((type_of% @zej) ∧ ((type_of% @zj1) ∧ (type_of% @zj0)))) ∧ (((type_of% @zdc) ∧ ((type_of% @zdd) ∧ (type_of% @zfw))) ∧ ((type_of% @zfx) ∧ ((type_of% @zfy) ∧ (type_of% @zfz))))) ∧ ((((type_of% @ze9) ∧ ((type_of% @zfa) ∧ (type_of% @zfc))) ∧ ((type_of% @zdu) ∧ ((type_of% @zdv) ∧ (type_of% @zg1)))) ∧ (((type_of% @zg2) ∧ ((type_of% @zg3) ∧ (type_of% @zg4))) ∧ (((type_of% @jro) ∧ (type_of% @jrn)) ∧ ((type_of% @ze4) ∧ (type_of% @ze5)))))) ∧ (((((type_of% @ze6) ∧ ((type_of% @ze7) ∧ (type_of% @zwy))) ∧ ((type_of% @zwz) ∧ ((type_of% @zdf) ∧ (type_of% @zdg)))) ∧ (((type_of% @zdh) ∧ ((type_of% @zdq) ∧ (type_of% @jf7))) ∧ ((type_of% @jf8) ∧ ((type_of% @jen) ∧ (type_of% @jeo))))) ∧ ((((type_of% @ji7) ∧ ((type_of% @zw2) ∧ (type_of% @zw3))) ∧ ((type_of% @zw6) ∧ ((type_of% @zw7) ∧ (type_of% @zo4)))) ∧ (((type_of% @zo5) ∧ ((type_of% @ji6) ∧ (type_of% @ji5))) ∧ (((type_of% @zo6) ∧ (type_of% @zjd)) ∧ ((type_of% @zje) ∧ (type_of% @zjf))))))) ∧ ((((((type_of% @zga) ∧ ((type_of% @zgb) ∧ (type_of% @zhv))) ∧ ((type_of% @zhu) ∧ ((type_of% @zf5) ∧ (type_of% @zf6)))) ∧ (((type_of% @zf7) ∧ ((type_of% @zjz) ∧ (type_of% @zw8))) ∧ ((type_of% @zw9) ∧ ((type_of% @zxa) ∧ (type_of% @zxb))))) ∧ ((((type_of% @zxc) ∧ ((type_of% @zxd) ∧ (type_of% @zxe))) ∧ ((type_of% @zxf) ∧ ((type_of% @jja) ∧ (type_of% @zxg)))) ∧ (((type_of% @zxj) ∧ ((type_of% @zxm) ∧ (type_of% @zj2))) ∧ (((type_of% @zj3) ∧ (type_of% @ji9)) ∧ ((type_of% @ji8) ∧ (type_of% @zjb)))))) ∧ (((((type_of% @zjc) ∧ ((type_of% @zi9) ∧ (type_of% @zja))) ∧ ((type_of% @zhs) ∧ ((type_of% @zht) ∧ (type_of% @zhq)))) ∧ (((type_of% @zhr) ∧ ((type_of% @zjn) ∧ (type_of% @zjo))) ∧ ((type_of% @zjp) ∧ ((type_of% @zsy) ∧ (type_of% @zsx))))) ∧ ((((type_of% @zmr) ∧ ((type_of% @zms) ∧ (type_of% @zjq))) ∧ ((type_of% @zjr) ∧ ((type_of% @zl5) ∧ (type_of% @zl4)))) ∧ (((type_of% @zw0) ∧ ((type_of% @zw1) ∧ (type_of% @zf8))) ∧ (((type_of% @zf9) ∧ (type_of% @ji2)) ∧ ((type_of% @zww) ∧ (type_of% @zwx)))))))) := ⟨⟨⟨⟨⟨⟨@zds, ⟨@zdt, @zei⟩⟩, ⟨@zej, ⟨@zj1, @zj0⟩⟩⟩, ⟨⟨@zdc, ⟨@zdd, @zfw⟩⟩, ⟨@zfx, ⟨@zfy, @zfz⟩⟩⟩⟩, ⟨⟨⟨@ze9, ⟨@zfa, @zfc⟩⟩, ⟨@zdu, ⟨@zdv, @zg1⟩⟩⟩, ⟨⟨@zg2, ⟨@zg3, @zg4⟩⟩, ⟨⟨@jro, @jrn⟩, ⟨@ze4, @ze5⟩⟩⟩⟩⟩, ⟨⟨⟨⟨@ze6, ⟨@ze7, @zwy⟩⟩, ⟨@zwz, ⟨@zdf, @zdg⟩⟩⟩, ⟨⟨@zdh, ⟨@zdq, @jf7⟩⟩, ⟨@jf8, ⟨@jen, @jeo⟩⟩⟩⟩, ⟨⟨⟨@ji7, ⟨@zw2, @zw3⟩⟩, ⟨@zw6, ⟨@zw7, @zo4⟩⟩⟩, ⟨⟨@zo5, ⟨@ji6, @ji5⟩⟩, ⟨⟨@zo6, @zjd⟩, ⟨@zje, @zjf⟩⟩⟩⟩⟩⟩, ⟨⟨⟨⟨⟨@zga, ⟨@zgb, @zhv⟩⟩, ⟨@zhu, ⟨@zf5, @zf6⟩⟩⟩, ⟨⟨@zf7, ⟨@zjz, @zw8⟩⟩, ⟨@zw9, ⟨@zxa, @zxb⟩⟩⟩⟩, ⟨⟨⟨@zxc, ⟨@zxd, @zxe⟩⟩, ⟨@zxf, ⟨@jja, @zxg⟩⟩⟩, ⟨⟨@zxj, ⟨@zxm, @zj2⟩⟩, ⟨⟨@zj3, @ji9⟩, ⟨@ji8, @zjb⟩⟩⟩⟩⟩, ⟨⟨⟨⟨@zjc, ⟨@zi9, @zja⟩⟩, ⟨@zhs, ⟨@zht, @zhq⟩⟩⟩, ⟨⟨@zhr, ⟨@zjn, @zjo⟩⟩, ⟨@zjp, ⟨@zsy, @zsx⟩⟩⟩⟩, ⟨⟨⟨@zmr, ⟨@zms, @zjq⟩⟩, ⟨@zjr, ⟨@zl5, @zl4⟩⟩⟩, ⟨⟨@zw0, ⟨@zw1, @zf8⟩⟩, ⟨⟨@zf9, @ji2⟩, ⟨@zww, @zwx⟩⟩⟩⟩⟩⟩⟩
structure FsP (V ins : Nat) (sh : Sh) (gates : List Gate) (j : Nat) (fs : List T) : Prop where
 len : fs.length = 2 + ins + j
 ok : ∀ t ∈ fs, t.Ok V 0
 f0 : nth fs 0 = .leaf false
 f1 : nth fs 1 = .leaf true
 fv : ∀ v, v < ins → nth fs (2 + v) = zqz v
 fg : ∀ q, q < j → ∀ a, (nth fs (2 + ins + q)).eval a = zit ins sh (fs.take (2 + ins + q)) (nth gates q) a
def vfs (v : Nat) : List T := .leaf false :: .leaf true :: (List.range v).map zqz
theorem zbg (v : Nat) : (vfs v).length = 2 + v := by simp [vfs]; omega
theorem zx7 (v : Nat) : vfs (v + 1) = vfs v ++ [zqz v] := by simp [vfs, List.range_succ]
theorem FsP.base {V ins : Nat} {sh : Sh} {gates : List Gate} (h : ins ≤ V) : FsP V ins sh gates 0 (vfs ins) := by
 refine ⟨by rw [zbg]; rfl, fun t ht => ?_, rfl, rfl, fun v hv => ?_, fun q hq => absurd hq (by omega)⟩
 ·simp only [vfs, List.mem_cons] at ht
  rcases ht with rfl | rfl | ht
  ·trivial
  ·trivial
  ·obtain ⟨v, hv, rfl⟩ := List.mem_map.1 ht
   have := List.mem_range.1 hv
   exact ⟨Nat.zero_le _, by omega, fun e => (by cases e), trivial, trivial⟩
 ·unfold vfs
  rw [zb9 (by simp; omega)]
  simp [Nat.add_comm 2 v]
theorem zq3 {α : Type} {l m : List α} {k : Nat} (h : k ≤ l.length) : (l ++ m).take k = l.take k := List.take_append_of_le_length h
theorem FsP.snoc {V ins : Nat} {sh : Sh} {gates : List Gate} {j : Nat} {fs : List T} (h : FsP V ins sh gates j fs) {t : T} (ht : t.Ok V 0) (he : ∀ a, t.eval a = zit ins sh fs (nth gates j) a) : FsP V ins sh gates (j + 1) (fs ++ [t]) := by
 have hl := h.len
 refine ⟨by simp; omega, fun s hs => ?_, by rw [zbx (by omega)]; exact h.f0, by rw [zbx (by omega)]; exact h.f1, fun v hv => by rw [zbx (by omega)]; exact h.fv v hv, fun q hq a => ?_⟩
 ·rcases List.mem_append.1 hs with hs | hs
  ·exact h.ok s hs
  ·rw [List.mem_singleton.1 hs]; exact ht
 ·by_cases hqj : q < j
  ·rw [zbx (by omega), zq3 (by omega)]; exact h.fg q hqj a
  ·have : q = j := by omega
   subst this
   rw [← hl, zdy, zq3 (Nat.le_refl _), List.take_length]; exact he a
def zft (fs : List T) (nodes : List Int) : List T := nodes.map fun k => nth fs k.toNat
def jsh (rs : List T) : D := zby (zlo (zem rs)) (rs.map (num (zem rs)))
def BuK (V : Nat) (n : Net) (sh : Sh) (nodes : List Int) (r : AV) : Prop :=
 (∃ j fs, j ≤ n.gates.length ∧ FsP V n.ins.length sh n.gates j fs ∧ 3000 < (zem fs).length ∧ r = .tup [.d (zby [] []), .d (iD 2)]) ∨
 (∃ fs, FsP V n.ins.length sh n.gates n.gates.length fs ∧ (∀ q, q < n.gates.length → (zem (fs.take (2 + n.ins.length + (q + 1)))).length ≤ 3000) ∧ r = .tup [.d (jsh (zft fs nodes)), .d (iD 0)])
theorem zkw (fs : List T) (nodes : List Int) : (zft fs nodes).length = nodes.length := by simp [zft]
theorem jtn (ts fs : List T) : (fs.map (zb4 ts)).map D.fix = fs.map (zb4 ts) := zkd (fun _ => rfl) fs
def zdi (ts : List T) (fst : List Nat) (sh : Sh) (fs : List T) : zaq := [.cells [.op 0 0, .os 1 6 0 fst.length, .d (shD sh), .os 1 5 0 fs.length], .cells (avs (fs.map (zb4 ts))), .cells (avs (fst.map zb1))]
def shZ (sh : Sh) : List (Int × Int) := sh.map fun p => ((p.1 : Int), (p.2 : Int))
theorem jsi (sh : Sh) : shD sh = shI (shZ sh) := by
 unfold shD shI shZ
 rw [List.flatMap_map, List.length_map]; rfl
theorem jgh {sh : Sh} (h : ShOk sh) : (shZ sh).any jjs = false := by
 rw [List.any_eq_false]
 intro p hp
 obtain ⟨q, hq, rfl⟩ := List.mem_map.1 hp
 obtain ⟨k, hk, rfl⟩ := List.getElem_of_mem hq
 have := h.el k hk
 rw [zb9 hk] at this
 simp only [jjs, Bool.or_eq_true, decide_eq_true_eq, not_or]
 constructor <;> omega
theorem jgi : jcc [] = [⟨1000, 0, 0⟩, ⟨1000, 0, 0⟩] := by decide
theorem MS.nil {V : Nat} (hV : V ≤ 900) : MS V [] ([], 0) ([], 0) := ⟨.nil V, ⟨OkM.nil _ _, fun t ht => (by cases ht), fun k u hg => (by cases hg)⟩, ⟨OkM.nil _ _, fun k u hg => (by cases hg)⟩, by decide, hV⟩
theorem zug (base : Nat) (sh : Sh) {i : Nat} (h : i < sh.length) : (znl base sh).take (i + 1) = (znl base sh).take i ++ [zbw base sh i] := by rw [zee (by rw [zak]; exact h), zll h]
theorem znp {base : Nat} {sh : Sh} (h : ShOk sh) : ∀ {k : Nat}, k ≤ sh.length → zbw base sh k ≤ base + k * 64
 | 0, _ => by simp [zbw]
 | k + 1, hk => by
  have := znp (base := base) h (k := k) (by omega)
  have h2 := h.el k (by omega)
  have h3 := Nat.mul_le_mul h2.1 h2.2
  rw [zes (by omega)]; omega
theorem jdf {V : Nat} {ts fs : List T} (hr : RowOk V ts) (h : ∀ t ∈ fs, t ∈ zbu ts) : (zem fs).length ≤ ts.length := by
 obtain ⟨h1, h2⟩ := jdc hr h
 exact zud h1 h2
theorem jk2 (V : Nat) (n : Net) (sh : Sh) (nodes : List Int) (hsh : ShOk sh) (hV : zci n.ins.length sh = V) (hV9 : V ≤ 900) (hgs : ∀ k, k < n.gates.length → GOp (2 + n.ins.length + k) (nth n.gates k)) (hno : nodes.any (zuf (2 + n.ins.length + n.gates.length)) = false) (hnl : nodes.length ≤ 1000000) (hil : n.ins.length ≤ 1000) (hgl : n.gates.length ≤ 1000) (hB : n.ins.length + n.gates.length * (8 + 7 * 2 ^ V) + 32 * 2 ^ V ≤ zeo) : RCalls Try.prog 48 [zas n, shD sh, intsD nodes] (BuK V n sh nodes) := by
 have hpos : 0 < 2 ^ V := Nat.two_pow_pos V
 have hB' := hB
 unfold zeo at hB
 have hs8 := hsh.len
 have hiV : n.ins.length ≤ V := by rw [← hV]; have := zq0 (base := n.ins.length) (sh := sh) (d := sh.length) (k := 0) (by omega); unfold zci; simp [zbw] at this ⊢
 have q0 : decide ((8 : Int) < sh.length) = false := by simp; omega
 have hin := jgh hsh
 refine zfj (fn := Try.f48) (by kernel_rfl) Try.func48 rfl (Nat.le_of_ble_eq_true rfl) fun c hc hp => ?_
 refine zbk (τ' := frL [(0, .d (zas n)), (1, .d (shD sh)), (2, .d (intsD nodes))]) (by repeat (first | exact zal _ | refine zai ?_ (by first | rfl | (simp [r_f, zah, zae, zad, zak, zab, zaa, zbg, zbj, zam, shD]; done) | simp [r_f, zah, zae, zad, zak, zab, zaa, zbg, zbj, zam, shD, *]))) ?_
 refine zac hp zaj hc rfl fun K1 hK1 => ?_
 simp -dsimp -implicitDefEqProofs (disch := first | assumption | omega | (simp only [r_z, zah, zae, zad, zak, zab, zaa, zbg, zbj, zam] <;> omega) | decide) only [r_r, ↓reduceIte, Nat.reduceEqDiff, Nat.reduceAdd, D.fix, Int.reduceToNat, Nat.reduceMul, Nat.reduceBNe, Nat.reduceBEq, r_m, zbe, zbh, zbo, zbm, zdi, shD, gA, zb4, zb1, zas, zaz, zaf, zag, zax, zay, zar, zde]
 refine hK1 _ _ ?_
 refine zac hp zaj hc rfl fun K2 hK2 => ?_
 simp -dsimp -implicitDefEqProofs (disch := first | assumption | omega | (simp only [r_z, zah, zae, zad, zak, zab, zaa, zbg, zbj, zam] <;> omega) | decide) only [r_r, ↓reduceIte, Nat.reduceEqDiff, Nat.reduceAdd, D.fix, Int.reduceToNat, Nat.reduceMul, Nat.reduceBNe, Nat.reduceBEq, r_m, zbe, zbh, zbo, zbm, zdi, shD, gA, zb4, zb1, zas, zaz, zaf, zag, zax, zay, zar]
 refine hK2 _ _ ?_
 refine zac hp zaj hc rfl fun K3 hK3 => ?_
 simp -dsimp -implicitDefEqProofs (disch := first | assumption | omega | (simp only [r_z, zah, zae, zad, zak, zab, zaa, zbg, zbj, zam] <;> omega) | decide) only [r_r, ↓reduceIte, Nat.reduceEqDiff, Nat.reduceAdd, D.fix, Int.reduceToNat, Nat.reduceMul, Nat.reduceBNe, Nat.reduceBEq, r_m, zbe, zbh, zbo, zbm, zdi, shD, gA, zb4, zb1, zas, zaz, zaf, zag, zax, zay, zar, zde]
 refine hK3 _ _ ?_
 refine zac hp zaj hc rfl fun K4 hK4 => ?_
 simp -dsimp -implicitDefEqProofs (disch := first | assumption | omega | (simp only [r_z, zah, zae, zad, zak, zab, zaa, zbg, zbj, zam] <;> omega) | decide) only [r_r, ↓reduceIte, Nat.reduceEqDiff, Nat.reduceAdd, D.fix, Int.reduceToNat, Nat.reduceMul, Nat.reduceBNe, Nat.reduceBEq, r_m, zbe, zbh, zbo, zbm, zdi, shD, gA, zb4, zb1, zas, zaz, zaf, zag, zax, zay, zar]
 refine hK4 _ _ ?_
 refine zan fun K5 hK5 => ?_
 refine zac hp zaj hc rfl fun K6 hK6 => ?_
 simp -dsimp -implicitDefEqProofs (disch := first | assumption | omega | (simp only [r_z, zah, zae, zad, zak, zab, zaa, zbg, zbj, zam] <;> omega) | decide) only [r_r, ↓reduceIte, Nat.reduceEqDiff, Nat.reduceAdd, D.fix, Int.reduceToNat, Nat.reduceMul, Nat.reduceBNe, Nat.reduceBEq, r_m, zbe, zbh, zbo, zbm, zdi, shD, gA, zb4, zb1, zas, zaz, zaf, zag, zax, zay, zar, q0, zde]
 refine zb8 ((by have := zy8 (shZ sh) (by unfold shZ maxLen; simp; omega); rw [← jsi, hin] at this; exact this)) rfl ?_
 simp -dsimp -implicitDefEqProofs (disch := first | assumption | omega | (simp only [r_z, zah, zae, zad, zak, zab, zaa, zbg, zbj, zam] <;> omega) | decide) only [r_r, ↓reduceIte, Nat.reduceEqDiff, Nat.reduceAdd, D.fix, Int.reduceToNat, Nat.reduceMul, Nat.reduceBNe, Nat.reduceBEq, r_m, zbe, zbh, zbo, zbm, zdi, shD, gA, zb4, zb1, zas, zaz, zaf, zag, zax, zay, zar, q0, zde]
 refine zfq ((by have := zy9 nodes (2 + n.ins.length + n.gates.length) (by unfold maxLen; omega); rw [hno] at this; exact this)) ?_ ?_
 ·simp (disch := first | assumption | omega | (simp only [r_z, zah, zae, zad, zak, zab, zaa, zbg, zbj, zam] <;> omega) | decide) only [r_c, Nat.reduceAdd, D.fix, ↓reduceIte, Nat.reduceEqDiff, r_m, zbe, zbh, zbo, zbm, zdi, shD, gA, zb4, zb1, zas, zaz, zaf, zag, zax, zay, zar]
 simp -dsimp -implicitDefEqProofs (disch := first | assumption | omega | (simp only [r_z, zah, zae, zad, zak, zab, zaa, zbg, zbj, zam] <;> omega) | decide) only [r_r, ↓reduceIte, Nat.reduceEqDiff, Nat.reduceAdd, D.fix, Int.reduceToNat, Nat.reduceMul, Nat.reduceBNe, Nat.reduceBEq, r_m, zbe, zbh, zbo, zbm, zdi, shD, gA, zb4, zb1, zas, zaz, zaf, zag, zax, zay, zar, q0, zde]
 refine hK6 _ _ ?_
 refine zap rfl (fun ht => ?_) (fun ht => ?_)
 ·cases ht
 ·refine za0 (hK5 _ _ ?_)
  refine zac hp zaj hc rfl fun K7 hK7 => ?_
  simp -dsimp -implicitDefEqProofs (disch := first | assumption | omega | (simp only [r_z, zah, zae, zad, zak, zab, zaa, zbg, zbj, zam] <;> omega) | decide) only [r_r, ↓reduceIte, Nat.reduceEqDiff, Nat.reduceAdd, D.fix, Int.reduceToNat, Nat.reduceMul, Nat.reduceBNe, Nat.reduceBEq, r_m, zbe, zbh, zbo, zbm, zdi, shD, gA, zb4, zb1, zas, zaz, zaf, zag, zax, zay, zar, zde]
  refine jr5 ⟨by kernel_rfl, _, _, Try.func65, rfl, Nat.le_of_ble_eq_true rfl, fun c107 hc107 => ?_⟩
  refine jkt ?_
  refine zac (Kp.all c107) zaj hc107 rfl fun K108 hK108 => ?_
  simp -dsimp -implicitDefEqProofs (disch := first | assumption | omega | (simp only [r_z, zah, zae, zad, zak, zab, zaa, zbg, zbj, zam] <;> omega) | decide) only [r_r, ↓reduceIte, Nat.reduceEqDiff, Nat.reduceAdd, D.fix, Int.reduceToNat, Nat.reduceMul, Nat.reduceBNe, Nat.reduceBEq, r_m, zbe, zbh, zbo, zbm, zdi, shD, gA, zb4, zb1, zas, zaz, zaf, zag, zax, zay, zar]
  refine hK108 _ _ ?_
  refine zac (Kp.all c107) zaj hc107 rfl fun K109 hK109 => ?_
  simp -dsimp -implicitDefEqProofs (disch := first | assumption | omega | (simp only [r_z, zah, zae, zad, zak, zab, zaa, zbg, zbj, zam] <;> omega) | decide) only [r_r, ↓reduceIte, Nat.reduceEqDiff, Nat.reduceAdd, D.fix, Int.reduceToNat, Nat.reduceMul, Nat.reduceBNe, Nat.reduceBEq, r_m, zbe, zbh, zbo, zbm, zdi, shD, gA, zb4, zb1, zas, zaz, zaf, zag, zax, zay, zar, zde]
  refine hK109 _ _ ?_
  refine zac (Kp.all c107) zaj hc107 rfl fun K110 hK110 => ?_
  simp -dsimp -implicitDefEqProofs (disch := first | assumption | omega | (simp only [r_z, zah, zae, zad, zak, zab, zaa, zbg, zbj, zam] <;> omega) | decide) only [r_r, ↓reduceIte, Nat.reduceEqDiff, Nat.reduceAdd, D.fix, Int.reduceToNat, Nat.reduceMul, Nat.reduceBNe, Nat.reduceBEq, r_m, zbe, zbh, zbo, zbm, zdi, shD, gA, zb4, zb1, zas, zaz, zaf, zag, zax, zay, zar, zde]
  refine hK110 _ _ ?_
  refine za6 ?_
  refine zbs (t := 0) rfl ?_
  simp -dsimp -implicitDefEqProofs (disch := first | assumption | omega | (simp only [r_z, zah, zae, zad, zak, zab, zaa, zbg, zbj, zam] <;> omega) | decide) only [r_r, ↓reduceIte, Nat.reduceEqDiff, Nat.reduceAdd, D.fix, Int.reduceToNat, Nat.reduceMul, Nat.reduceBNe, Nat.reduceBEq, r_m, zbe, zbh, zbo, zbm, zdi, shD, gA, zb4, zb1, zas, zaz, zaf, zag, zax, zay, zar, zde]
  refine hK7 _ _ ?_
  refine zan fun K8 hK8 => ?_
  refine zac hp zaj hc rfl fun K9 hK9 => ?_
  simp -dsimp -implicitDefEqProofs (disch := first | assumption | omega | (simp only [r_z, zah, zae, zad, zak, zab, zaa, zbg, zbj, zam] <;> omega) | decide) only [r_r, ↓reduceIte, Nat.reduceEqDiff, Nat.reduceAdd, D.fix, Int.reduceToNat, Nat.reduceMul, Nat.reduceBNe, Nat.reduceBEq, r_m, zbe, zbh, zbo, zbm, zdi, shD, gA, zb4, zb1, zas, zaz, zaf, zag, zax, zay, zar, zde]
  refine hK9 _ _ ?_
  refine za1 ?_
  refine zbd hp (fun τ' H' mm => ∃ (v : Nat) (ts : List T) (μu μm : Mp), (v ≤ n.ins.length ∧ MS V ts μu μm ∧ ts.length ≤ v ∧ ∀ t ∈ vfs v, t ∈ zbu ts) ∧ mm = n.ins.length - v ∧ H' = zbe ts μu μm ++ zdi ts [] sh (vfs v) ++ [.cells (avs (zaz n)), .cells [.d (.val (.slice none 0 0)), .d (.val (.slice none 0 0))]] ∧ τ' = frL [(1, .d (shD sh)), (2, .d (intsD nodes)), (3, .op 7 0), (6, .op 8 0), (11, .op 4 0), (51, .d (iD n.ins.length)), (52, .d (iD v))]) (n.ins.length) ?_ ⟨0, [], ([], 0), ([], 0), ⟨Nat.zero_le _, MS.nil hV9, Nat.zero_le _, fun t ht => ht⟩, rfl, rfl, rfl⟩ ?_
  ·refine Rt.trans (Rt.nilc 8 1 1 rfl rfl) ?_
   refine Rt.trans (Rt.gc (keep := [6,4,5,3,8,7,9,0,1]) (by decide) (by decide) (by simp [fzH, gcH])) ?_
   refine Rt.end (by repeat (first | exact zal _ | refine zai ?_ (by first | rfl | (simp [r_f, zah, zae, zad, zak, zab, zaa, zbg, zbj, zam, shD]; done) | simp [r_f, zah, zae, zad, zak, zab, zaa, zbg, zbj, zam, shD, *]))) ?_
   simp only [r_g, Nat.reduceAdd, ↓reduceIte, Nat.reduceEqDiff, r_m, zbe, zbh, zbo, zbm, zdi, shD, gA, zb4, zb1, zas, zaz, zaf, zag, zax, zay, zar]; first | done | rfl | (rw [jgi]; rfl)
  rintro τ' H' mm ⟨v, ts, μu, μm, ⟨hv, hS, htl, hfs⟩, rfl, rfl, rfl⟩
  refine zac hp zaj hc rfl fun K10 hK10 => ?_
  simp -dsimp -implicitDefEqProofs (disch := first | assumption | omega | (simp only [r_z, zah, zae, zad, zak, zab, zaa, zbg, zbj, zam] <;> omega) | decide) only [r_r, ↓reduceIte, Nat.reduceEqDiff, Nat.reduceAdd, D.fix, Int.reduceToNat, Nat.reduceMul, Nat.reduceBNe, Nat.reduceBEq, r_m, zbe, zbh, zbo, zbm, zdi, shD, gA, zb4, zb1, zas, zaz, zaf, zag, zax, zay, zar, zde]
  refine hK10 _ _ ?_
  refine zan fun K11 hK11 => ?_
  refine zap rfl (fun ht => ?_) (fun ht => ?_)
  ·have hlt : v < n.ins.length := by simp at ht; omega
   refine za0 (hK11 _ _ ?_)
   refine zan fun K12 hK12 => ?_
   refine za1 ?_
   refine zac hp zaj hc rfl fun K13 hK13 => ?_
   simp -dsimp -implicitDefEqProofs (disch := first | assumption | omega | (simp only [r_z, zah, zae, zad, zak, zab, zaa, zbg, zbj, zam] <;> omega) | decide) only [r_r, ↓reduceIte, Nat.reduceEqDiff, Nat.reduceAdd, D.fix, Int.reduceToNat, Nat.reduceMul, Nat.reduceBNe, Nat.reduceBEq, r_m, zbe, zbh, zbo, zbm, zdi, shD, gA, zb4, zb1, zas, zaz, zaf, zag, zax, zay, zar]
   refine hK13 _ _ ?_
   refine zng zaj hp hc mixed rfl [(0, []), (1, []), (2, []), (3, []), (4, []), (5, []), (6, []), (7, []), (8, []), (9, []), (10, [4]), (11, []), (12, []), (13, []), (14, []), (15, [])] [[], [], [1], [1, 2], [1, 2, 3], [], [5], [5, 6], [5, 6, 7], [], [5, 6, 7, 8, 9], [5, 6, 7, 8, 9, 10], [1, 2, 3, 4, 5, 6, 7, 8, 9, 10, 11], [0, 1, 2, 3, 4, 5, 6, 7, 8, 9, 10, 11, 12], [0, 1, 2, 3, 4, 5, 6, 7, 8, 9, 10, 11, 12, 13], [0, 1, 2, 3, 4, 5, 6, 7, 8, 9, 10, 11, 12, 13, 14]] 1 (by kernel_rfl) fun K14 hK14 => ?_
   simp -dsimp -implicitDefEqProofs (disch := first | assumption | omega | (simp only [r_z, zah, zae, zad, zak, zab, zaa, zbg, zbj, zam] <;> omega) | decide) only [r_r, ↓reduceIte, Nat.reduceEqDiff, Nat.reduceAdd, D.fix, Int.reduceToNat, Nat.reduceMul, Nat.reduceBNe, Nat.reduceBEq, r_w, r_m, zbe, zbh, zbo, zbm, zdi, shD, gA, zb4, zb1, zas, zaz, zaf, zag, zax, zay, zar, zde]
   refine zni (S := zbe ts μu μm) (T := zdi ts [] sh (vfs v) ++ [.cells (avs (zaz n)), .cells [.d (.val (.slice none 0 0)), .d (.val (.slice none 0 0))], .free]) (jqd (v := v) hS (by omega) (by unfold zeo; omega) rfl) rfl (Nat.le_of_ble_eq_true rfl) (by first | rfl | (simp [AV.allIs, AV.allI, za3, zat, zau, okI, ltI, zao, zbb, zbe, zbh, zdi, zbm, zbo, gA]; done) | (intro o ho; simp at ho; done)) (fun t => zbv (by first | rfl | (simp [AV.allIs, AV.allI, za3, zat, zau, okI, ltI, zao, zbb, zbe, zbh, zdi, zbm, zbo, gA]; done) | (intro o ho; simp at ho; done)) t) (fun t => zbv (by first | rfl | (simp [AV.allIs, AV.allI, za3, zat, zau, okI, ltI, zao, zbb, zbe, zbh, zdi, zbm, zbo, gA]; done) | (intro o ho; simp at ho; done)) t) (by first | rfl | (simp [AV.allIs, AV.allI, za3, zat, zau, okI, ltI, zao, zbb, zbe, zbh, zdi, zbm, zbo, gA]; done) | (intro o ho; simp at ho; done)) (by first | rfl | (simp [AV.allIs, AV.allI, za3, zat, zau, okI, ltI, zao, zbb, zbe, zbh, zdi, zbm, zbo, gA]; done) | (intro o ho; simp at ho; done)) (by first | rfl | (simp [AV.allIs, AV.allI, za3, zat, zau, okI, ltI, zao, zbb, zbe, zbh, zdi, zbm, zbo, gA]; done) | (intro o ho; simp at ho; done)) ?_
   rintro _ _ ⟨ts2, μu2, rfl, rfl, hS2, hp2, hl2, hm2⟩
   refine ⟨rfl, ?_⟩
   simp -dsimp -implicitDefEqProofs (disch := first | assumption | omega | (simp only [r_z, zah, zae, zad, zak, zab, zaa, zbg, zbj, zam] <;> omega) | decide) only [r_r, ↓reduceIte, Nat.reduceEqDiff, Nat.reduceAdd, D.fix, Int.reduceToNat, Nat.reduceMul, Nat.reduceBNe, Nat.reduceBEq, r_w, r_m, zbe, zbh, zbo, zbm, zdi, shD, gA, zb4, zb1, zas, zaz, zaf, zag, zax, zay, zar, zde]
   refine hK14 _ _ (hK12 _ _ ?_)
   refine zbt hp zaj hc rfl fun K15 hK15 => ?_
   simp -dsimp -implicitDefEqProofs (disch := first | assumption | omega | (simp only [r_z, zah, zae, zad, zak, zab, zaa, zbg, zbj, zam] <;> omega) | decide) only [r_r, ↓reduceIte, Nat.reduceEqDiff, Nat.reduceAdd, D.fix, Int.reduceToNat, Nat.reduceMul, Nat.reduceBNe, Nat.reduceBEq, r_m, zbe, zbh, zbo, zbm, zdi, shD, gA, zb4, zb1, zas, zaz, zaf, zag, zax, zay, zar, zde]
   have hfs2 : ∀ t ∈ vfs (v + 1), t ∈ zbu ts2 := fun t ht => by
    rw [zx7] at ht
    rcases List.mem_append.1 ht with ht | ht
    ·exact zcc hp2 (hfs t ht)
    ·rw [List.mem_singleton.1 ht]; exact hm2
   refine hK15 _ _ ⟨_, _, _, ?_, ⟨v + 1, ts2, μu2, μm, ⟨by omega, hS2, by omega, hfs2⟩, rfl, rfl, rfl⟩, ?_⟩
   ·first | omega | (simp only [List.length_cons]; omega) | (dsimp only; omega)
   ·refine Rt.trans (Rt.gc (keep := [0,1,2,3,4,10,6,7,8]) (by decide) (by decide) (by simp [fzH, gcH])) ?_
    refine Rt.end (by repeat (first | exact zal _ | refine zai ?_ (by first | rfl | (simp [r_f, zah, zae, zad, zak, zab, zaa, zbg, zbj, zam, shD]; done) | simp [r_f, zah, zae, zad, zak, zab, zaa, zbg, zbj, zam, shD, *]))) ?_
    simp only [r_g, Nat.reduceAdd, ↓reduceIte, Nat.reduceEqDiff, r_m, zbe, zbh, zbo, zbm, zdi, shD, gA, zb4, zb1, zas, zaz, zaf, zag, zax, zay, zar]; rw [zx7, List.map_append, zd1 hp2 hfs]; simp [avs, zb4, iD, zbg]
  ·have hvv : v = n.ins.length := by simp at ht; omega
   subst hvv
   refine zbl (hK8 _ _ ?_)
   refine zac hp zaj hc rfl fun K16 hK16 => ?_
   simp -dsimp -implicitDefEqProofs (disch := first | assumption | omega | (simp only [r_z, zah, zae, zad, zak, zab, zaa, zbg, zbj, zam] <;> omega) | decide) only [r_r, ↓reduceIte, Nat.reduceEqDiff, Nat.reduceAdd, D.fix, Int.reduceToNat, Nat.reduceMul, Nat.reduceBNe, Nat.reduceBEq, r_m, zbe, zbh, zbo, zbm, zdi, shD, gA, zb4, zb1, zas, zaz, zaf, zag, zax, zay, zar, zde]
   refine hK16 _ _ ?_
   refine zan fun K17 hK17 => ?_
   refine zac hp zaj hc rfl fun K18 hK18 => ?_
   simp -dsimp -implicitDefEqProofs (disch := first | assumption | omega | (simp only [r_z, zah, zae, zad, zak, zab, zaa, zbg, zbj, zam] <;> omega) | decide) only [r_r, ↓reduceIte, Nat.reduceEqDiff, Nat.reduceAdd, D.fix, Int.reduceToNat, Nat.reduceMul, Nat.reduceBNe, Nat.reduceBEq, r_m, zbe, zbh, zbo, zbm, zdi, shD, gA, zb4, zb1, zas, zaz, zaf, zag, zax, zay, zar, zde]
   refine hK18 _ _ ?_
   refine za1 ?_
   refine zbd hp (fun τ' H' mm => ∃ (i : Nat) (fst : List Nat), (i ≤ sh.length ∧ fst = (znl n.ins.length sh).take i) ∧ mm = sh.length - i ∧ H' = zbe ts μu μm ++ zdi ts fst sh (vfs n.ins.length) ++ [.cells (avs (zaz n)), .cells [.d (.val (.slice none 0 0)), .d (.val (.slice none 0 0))]] ∧ τ' = frL [(2, .d (intsD nodes)), (3, .op 7 0), (6, .op 8 0), (11, .op 4 0), (13, .d (iD (zbw n.ins.length sh i))), (74, .d (shD sh)), (75, .d (iD sh.length)), (76, .d (iD i))]) (sh.length) ?_ ⟨0, [], ⟨Nat.zero_le _, rfl⟩, rfl, rfl, rfl⟩ ?_
   ·refine Rt.trans (Rt.gc (keep := [0,1,2,3,4,5,6,7,8]) (by decide) (by decide) (by simp [fzH, gcH])) ?_
    refine Rt.end (by repeat (first | exact zal _ | refine zai ?_ (by first | rfl | (simp [r_f, zah, zae, zad, zak, zab, zaa, zbg, zbj, zam, shD]; done) | simp [r_f, zah, zae, zad, zak, zab, zaa, zbg, zbj, zam, shD, *]))) ?_
    first | rfl | (simp only [r_g, Nat.reduceAdd, ↓reduceIte, Nat.reduceEqDiff, r_m, zbe, zbh, zbo, zbm, zdi, shD, gA, zb4, zb1, zas, zaz, zaf, zag, zax, zay, zar]; first | done | rfl)
   rintro τ' H' mm ⟨i, fst, ⟨hi, hfst⟩, rfl, rfl, rfl⟩
   refine zac hp zaj hc rfl fun K19 hK19 => ?_
   simp -dsimp -implicitDefEqProofs (disch := first | assumption | omega | (simp only [r_z, zah, zae, zad, zak, zab, zaa, zbg, zbj, zam] <;> omega) | decide) only [r_r, ↓reduceIte, Nat.reduceEqDiff, Nat.reduceAdd, D.fix, Int.reduceToNat, Nat.reduceMul, Nat.reduceBNe, Nat.reduceBEq, r_m, zbe, zbh, zbo, zbm, zdi, shD, gA, zb4, zb1, zas, zaz, zaf, zag, zax, zay, zar, zde]
   refine hK19 _ _ ?_
   refine zan fun K20 hK20 => ?_
   refine zap rfl (fun ht => ?_) (fun ht => ?_)
   ·have hlt : i < sh.length := by simp at ht; omega
    have hfl : fst.length = i := by rw [hfst, List.length_take, zak]; omega
    have fb := znp (base := n.ins.length) hsh (k := i) (by omega)
    have hel := hsh.el i hlt
    have hib : ((nth sh i).1 : Int) * ((nth sh i).2 : Int) ≤ 64 := by
     have := Nat.mul_le_mul hel.1 hel.2
     omega
    have hib0 : 0 ≤ ((nth sh i).1 : Int) * ((nth sh i).2 : Int) := by
     have : (((nth sh i).1 * (nth sh i).2 : Nat) : Int) = ((nth sh i).1 : Int) * ((nth sh i).2 : Int) := by simp
     omega
    have hfs1 : (zbw n.ins.length sh (i + 1) : Int) = (zbw n.ins.length sh i : Int) + ((nth sh i).1 : Int) * ((nth sh i).2 : Int) := by rw [zes hlt]; simp
    refine za0 (hK20 _ _ ?_)
    refine zan fun K21 hK21 => ?_
    refine za1 ?_
    refine zac hp zaj hc rfl fun K22 hK22 => ?_
    simp -dsimp -implicitDefEqProofs (disch := first | assumption | omega | (simp only [r_z, zah, zae, zad, zak, zab, zaa, zbg, zbj, zam] <;> omega) | decide) only [r_r, ↓reduceIte, Nat.reduceEqDiff, Nat.reduceAdd, D.fix, Int.reduceToNat, Nat.reduceMul, Nat.reduceBNe, Nat.reduceBEq, r_m, zbe, zbh, zbo, zbm, zdi, shD, gA, zb4, zb1, zas, zaz, zaf, zag, zax, zay, zar, jjp, jl5, shC, zde]
    refine hK22 _ _ ?_
    refine zac hp zaj hc rfl fun K23 hK23 => ?_
    simp -dsimp -implicitDefEqProofs (disch := first | assumption | omega | (simp only [r_z, zah, zae, zad, zak, zab, zaa, zbg, zbj, zam] <;> omega) | decide) only [r_r, ↓reduceIte, Nat.reduceEqDiff, Nat.reduceAdd, D.fix, Int.reduceToNat, Nat.reduceMul, Nat.reduceBNe, Nat.reduceBEq, r_m, zbe, zbh, zbo, zbm, zdi, shD, gA, zb4, zb1, zas, zaz, zaf, zag, zax, zay, zar, zde]
    refine hK23 _ _ ?_
    refine zbt hp zaj hc rfl fun K24 hK24 => ?_
    simp -dsimp -implicitDefEqProofs (disch := first | assumption | omega | (simp only [r_z, zah, zae, zad, zak, zab, zaa, zbg, zbj, zam] <;> omega) | decide) only [r_r, ↓reduceIte, Nat.reduceEqDiff, Nat.reduceAdd, D.fix, Int.reduceToNat, Nat.reduceMul, Nat.reduceBNe, Nat.reduceBEq, r_m, zbe, zbh, zbo, zbm, zdi, shD, gA, zb4, zb1, zas, zaz, zaf, zag, zax, zay, zar, zde]
    refine hK24 _ _ (hK21 _ _ ?_)
    refine zbt hp zaj hc rfl fun K25 hK25 => ?_
    simp -dsimp -implicitDefEqProofs (disch := first | assumption | omega | (simp only [r_z, zah, zae, zad, zak, zab, zaa, zbg, zbj, zam] <;> omega) | decide) only [r_r, ↓reduceIte, Nat.reduceEqDiff, Nat.reduceAdd, D.fix, Int.reduceToNat, Nat.reduceMul, Nat.reduceBNe, Nat.reduceBEq, r_m, zbe, zbh, zbo, zbm, zdi, shD, gA, zb4, zb1, zas, zaz, zaf, zag, zax, zay, zar, zde]
    refine hK25 _ _ ⟨_, _, _, ?_, ⟨i + 1, fst ++ [zbw n.ins.length sh i], ⟨by omega, by rw [hfst, zug _ _ hlt]⟩, rfl, rfl, rfl⟩, ?_⟩
    ·first | omega | (simp only [List.length_cons]; omega) | (dsimp only; omega)
    ·refine Rt.trans (Rt.gc (keep := [0,1,2,3,4,5,11,7,8]) (by decide) (by decide) (by simp [fzH, gcH])) ?_
     refine Rt.end (by repeat (first | exact zal _ | refine zai ?_ (by first | rfl | (simp [r_f, zah, zae, zad, zak, zab, zaa, zbg, zbj, zam, shD]; done) | simp [r_f, zah, zae, zad, zak, zab, zaa, zbg, zbj, zam, shD, *]))) ?_
     simp only [r_g, Nat.reduceAdd, ↓reduceIte, Nat.reduceEqDiff, r_m, zbe, zbh, zbo, zbm, zdi, shD, gA, zb4, zb1, zas, zaz, zaf, zag, zax, zay, zar]; simp [avs, zb1, iD]
   ·have hii : i = sh.length := by simp at ht; omega
    subst hii
    rw [List.take_of_length_le (by rw [zak]; exact Nat.le_refl _)] at hfst
    subst hfst
    refine zbl (hK17 _ _ ?_)
    refine zan fun K26 hK26 => ?_
    refine zac hp zaj hc rfl fun K27 hK27 => ?_
    simp -dsimp -implicitDefEqProofs (disch := first | assumption | omega | (simp only [r_z, zah, zae, zad, zak, zab, zaa, zbg, zbj, zam] <;> omega) | decide) only [r_r, ↓reduceIte, Nat.reduceEqDiff, Nat.reduceAdd, D.fix, Int.reduceToNat, Nat.reduceMul, Nat.reduceBNe, Nat.reduceBEq, r_m, zbe, zbh, zbo, zbm, zdi, shD, gA, zb4, zb1, zas, zaz, zaf, zag, zax, zay, zar, zde]
    refine hK27 _ _ ?_
    refine za1 ?_
    refine zbd hp (fun τ' H' mm => ∃ (j : Nat) (fs : List T) (ts2 : List T) (μu2 μm2 : Mp), (j ≤ n.gates.length ∧ FsP V n.ins.length sh n.gates j fs ∧ MS V ts2 μu2 μm2 ∧ (∀ t ∈ fs, t ∈ zbu ts2) ∧ ts2.length ≤ n.ins.length + j * (8 + 7 * 2 ^ V) ∧ ∀ q, q < j → (zem (fs.take (2 + n.ins.length + (q + 1)))).length ≤ 3000) ∧ mm = n.gates.length - j ∧ H' = zbo ts2 μu2 μm2 n.ins.length sh fs ++ [.cells (avs (zaz n)), .cells [.d (.val (.slice none 0 0)), .d (.val (.slice none 0 0))]] ∧ τ' = frL [(2, .d (intsD nodes)), (6, .op 8 0), (11, .op 4 0), (99, .d (zag n.gates)), (100, .d (iD n.gates.length)), (101, .d (iD j))]) (n.gates.length) ?_ ⟨0, vfs n.ins.length, ts, μu, μm, ⟨Nat.zero_le _, FsP.base hiV, hS, hfs, by omega, fun q hq => absurd hq (by omega)⟩, rfl, rfl, rfl⟩ ?_
    ·refine Rt.trans (Rt.gc (keep := [0,1,2,3,4,5,6,7,8]) (by decide) (by decide) (by simp [fzH, gcH])) ?_
     refine Rt.end (by repeat (first | exact zal _ | refine zai ?_ (by first | rfl | (simp [r_f, zah, zae, zad, zak, zab, zaa, zbg, zbj, zam, shD]; done) | simp [r_f, zah, zae, zad, zak, zab, zaa, zbg, zbj, zam, shD, *]))) ?_
     simp only [r_g, Nat.reduceAdd, ↓reduceIte, Nat.reduceEqDiff, r_m, zbe, zbh, zbo, zbm, zdi, shD, gA, zb4, zb1, zas, zaz, zaf, zag, zax, zay, zar]; first | done | rfl | (simp [zak]; done)
    rintro τ' H' mm ⟨j, fs, ts2, μu2, μm2, ⟨hj, hF, hS2, hf2, hl2, hx2⟩, rfl, rfl, rfl⟩
    refine zac hp zaj hc rfl fun K28 hK28 => ?_
    simp -dsimp -implicitDefEqProofs (disch := first | assumption | omega | (simp only [r_z, zah, zae, zad, zak, zab, zaa, zbg, zbj, zam] <;> omega) | decide) only [r_r, ↓reduceIte, Nat.reduceEqDiff, Nat.reduceAdd, D.fix, Int.reduceToNat, Nat.reduceMul, Nat.reduceBNe, Nat.reduceBEq, r_m, zbe, zbh, zbo, zbm, zdi, shD, gA, zb4, zb1, zas, zaz, zaf, zag, zax, zay, zar, zde]
    refine hK28 _ _ ?_
    refine zan fun K29 hK29 => ?_
    refine zap rfl (fun ht => ?_) (fun ht => ?_)
    ·have hlt : j < n.gates.length := by simp at ht; omega
     have hFl := hF.len
     have hg : GOp fs.length (nth n.gates j) := by rw [hFl]; have := hgs j hlt; simpa using this
     have hjb : j * (8 + 7 * 2 ^ V) + (8 + 7 * 2 ^ V) ≤ n.gates.length * (8 + 7 * 2 ^ V) := by
      rw [← Nat.succ_mul]; exact Nat.mul_le_mul_right _ hlt
     refine za0 (hK29 _ _ ?_)
     refine zan fun K30 hK30 => ?_
     refine za1 ?_
     refine zac hp zaj hc rfl fun K31 hK31 => ?_
     simp -dsimp -implicitDefEqProofs (disch := first | assumption | omega | (simp only [r_z, zah, zae, zad, zak, zab, zaa, zbg, zbj, zam] <;> omega) | decide) only [r_r, ↓reduceIte, Nat.reduceEqDiff, Nat.reduceAdd, D.fix, Int.reduceToNat, Nat.reduceMul, Nat.reduceBNe, Nat.reduceBEq, r_m, zbe, zbh, zbo, zbm, zdi, shD, gA, zb4, zb1, zas, zaz, zaf, zag, zax, zay, zar, zde]
     refine hK31 _ _ ?_
     refine zd7 zaj hp hc mixed rfl [(0, []), (1, []), (2, []), (3, []), (4, []), (5, []), (6, []), (7, [4]), (8, []), (9, []), (10, []), (11, []), (12, [])] [[], [], [1], [1, 2], [1, 2, 3], [], [], [5, 6], [5, 6, 7], [1, 2, 3, 4, 5, 6, 7, 8], [0, 1, 2, 3, 4, 5, 6, 7, 8, 9], [0, 1, 2, 3, 4, 5, 6, 7, 8, 9, 10], [0, 1, 2, 3, 4, 5, 6, 7, 8, 9, 10, 11]] 1 (by kernel_rfl) fun K32 hK32 => ?_
     simp -dsimp -implicitDefEqProofs (disch := first | assumption | omega | (simp only [r_z, zah, zae, zad, zak, zab, zaa, zbg, zbj, zam] <;> omega) | decide) only [r_r, ↓reduceIte, Nat.reduceEqDiff, Nat.reduceAdd, D.fix, Int.reduceToNat, Nat.reduceMul, Nat.reduceBNe, Nat.reduceBEq, r_w, r_m, zbe, zbh, zbo, zbm, zdi, shD, gA, zb4, zb1, zas, zaz, zaf, zag, zax, zay, zar, zde]
     refine zni (S := zbo ts2 μu2 μm2 n.ins.length sh fs) (T := [.cells (avs (zaz n)), .cells [.d (.val (.slice none 0 0)), .d (.val (.slice none 0 0))], .cells (gA (nth n.gates j)), .free]) (jqf V n.ins.length sh fs ts2 μu2 μm2 (nth n.gates j) hS2 hsh (Nat.le_of_eq hV) hf2 (by omega) hg (by unfold zeo; omega)) rfl (Nat.le_of_ble_eq_true rfl) (by first | rfl | (simp [AV.allIs, AV.allI, za3, zat, zau, okI, ltI, zao, zbb, zbe, zbh, zdi, zbm, zbo, gA]; done) | (intro o ho; simp at ho; done)) (fun t => zbv (by first | rfl | (simp [AV.allIs, AV.allI, za3, zat, zau, okI, ltI, zao, zbb, zbe, zbh, zdi, zbm, zbo, gA]; done) | (intro o ho; simp at ho; done)) t) (fun t => zbv (by first | rfl | (simp [AV.allIs, AV.allI, za3, zat, zau, okI, ltI, zao, zbb, zbe, zbh, zdi, zbm, zbo, gA]; done) | (intro o ho; simp at ho; done)) t) (by first | rfl | (simp [AV.allIs, AV.allI, za3, zat, zau, okI, ltI, zao, zbb, zbe, zbh, zdi, zbm, zbo, gA]; done) | (intro o ho; simp at ho; done)) (by first | rfl | (simp [AV.allIs, AV.allI, za3, zat, zau, okI, ltI, zao, zbb, zbe, zbh, zdi, zbm, zbo, gA]; done) | (intro o ho; simp at ho; done)) (by first | rfl | (simp [AV.allIs, AV.allI, za3, zat, zau, okI, ltI, zao, zbb, zbe, zbh, zdi, zbm, zbo, gA]; done) | (intro o ho; simp at ho; done)) ?_
     rintro _ _ ⟨ts3, μu3, μm3, t3, rfl, rfl, hS3, hp3, hl3, hm3, hi3⟩
     refine ⟨rfl, ?_⟩
     simp -dsimp -implicitDefEqProofs (disch := first | assumption | omega | (simp only [r_z, zah, zae, zad, zak, zab, zaa, zbg, zbj, zam] <;> omega) | decide) only [r_r, ↓reduceIte, Nat.reduceEqDiff, Nat.reduceAdd, D.fix, Int.reduceToNat, Nat.reduceMul, Nat.reduceBNe, Nat.reduceBEq, r_w, r_m, zbe, zbh, zbo, zbm, zdi, shD, gA, zb4, zb1, zas, zaz, zaf, zag, zax, zay, zar, zde]
     have hf3 : ∀ t ∈ fs ++ [t3], t ∈ zbu ts3 := fun t ht => by
      rcases List.mem_append.1 ht with ht | ht
      ·exact zcc hp3 (hf2 t ht)
      ·rw [List.mem_singleton.1 ht]; exact hm3
     have hF3 : FsP V n.ins.length sh n.gates (j + 1) (fs ++ [t3]) := hF.snoc (hS3.row.okf hm3) hi3
     have hxl := jdf hS3.row hf3
     have hxe := zam (zem (fs ++ [t3]))
     have hS3l := hS3.len
     unfold zeo at hS3l
     refine hK32 _ _ ?_
     refine zb3 hp (τ' := frL [(2, .d (intsD nodes)), (6, .op 8 0), (11, .op 4 0), (99, .d (zag n.gates)), (100, .d (iD n.gates.length)), (101, .d (iD j))]) (H' := zbo ts3 μu3 μm3 n.ins.length sh (fs ++ [t3]) ++ [.cells (avs (zaz n)), .cells [.d (.val (.slice none 0 0)), .d (.val (.slice none 0 0))]]) ?_ ?_
     ·refine Rt.trans (Rt.gc (keep := [0,1,2,3,4,11,6,7,8]) (by decide) (by decide) (by simp [fzH, gcH])) ?_
      refine Rt.end (by repeat (first | exact zal _ | refine zai ?_ (by first | rfl | (simp [r_f, zah, zae, zad, zak, zab, zaa, zbg, zbj, zam, shD]; done) | simp [r_f, zah, zae, zad, zak, zab, zaa, zbg, zbj, zam, shD, *]))) ?_
      simp only [r_g, Nat.reduceAdd, ↓reduceIte, Nat.reduceEqDiff, r_m, zbe, zbh, zbo, zbm, zdi, shD, gA, zb4, zb1, zas, zaz, zaf, zag, zax, zay, zar]; rw [List.map_append, zd1 hp3 hf2]; simp [avs, zb4, iD]
     refine zbr zaj hc mixed rfl (q := 0) (by kernel_rfl) (by kernel_rfl) fun K33 hK33 => ?_
     simp -dsimp -implicitDefEqProofs (disch := first | assumption | omega | (simp only [r_z, zah, zae, zad, zak, zab, zaa, zbg, zbj, zam] <;> omega) | decide) only [r_r, ↓reduceIte, Nat.reduceEqDiff, Nat.reduceAdd, D.fix, Int.reduceToNat, Nat.reduceMul, Nat.reduceBNe, Nat.reduceBEq, r_m, zbe, zbh, zbo, zbm, zdi, shD, gA, zb4, zb1, zas, zaz, zaf, zag, zax, zay, zar, zby, zb2, zde]
     refine jh2 (zx4 V ts3 μu3 μm3 hS3.row hS3.len (fs ++ [t3]) hf3 (by simp; omega)) ?_ ?_
     ·simp (disch := first | assumption | omega | (simp only [r_z, zah, zae, zad, zak, zab, zaa, zbg, zbj, zam] <;> omega) | decide) only [r_c, Nat.reduceAdd, D.fix, ↓reduceIte, Nat.reduceEqDiff, r_m, zbe, zbh, zbo, zbm, zdi, shD, gA, zb4, zb1, zas, zaz, zaf, zag, zax, zay, zar, zcz, zh9, zfg, zjx, zir, jtn]
     simp -dsimp -implicitDefEqProofs (disch := first | assumption | omega | (simp only [r_z, zah, zae, zad, zak, zab, zaa, zbg, zbj, zam] <;> omega) | decide) only [r_r, ↓reduceIte, Nat.reduceEqDiff, Nat.reduceAdd, D.fix, Int.reduceToNat, Nat.reduceMul, Nat.reduceBNe, Nat.reduceBEq, r_m, zbe, zbh, zbo, zbm, zdi, shD, gA, zb4, zb1, zas, zaz, zaf, zag, zax, zay, zar, zby, zb2, zde]
     refine hK33 _ _ ?_
     refine zap rfl (fun ht => ?_) (fun ht => ?_)
     ·have hbig : 3000 < (zem (fs ++ [t3])).length := by simp at ht; omega
      refine zac hp zaj hc rfl fun K34 hK34 => ?_
      simp -dsimp -implicitDefEqProofs (disch := first | assumption | omega | (simp only [r_z, zah, zae, zad, zak, zab, zaa, zbg, zbj, zam] <;> omega) | decide) only [r_r, ↓reduceIte, Nat.reduceEqDiff, Nat.reduceAdd, D.fix, Int.reduceToNat, Nat.reduceMul, Nat.reduceBNe, Nat.reduceBEq, r_m, zbe, zbh, zbo, zbm, zdi, shD, gA, zb4, zb1, zas, zaz, zaf, zag, zax, zay, zar, zde]
      refine hK34 _ _ ?_
      refine za6 ?_
      try dsimp only [zji, zc2]
      refine zkf rfl ?_
      simp -dsimp -implicitDefEqProofs (disch := first | assumption | omega | (simp only [r_z, zah, zae, zad, zak, zab, zaa, zbg, zbj, zam] <;> omega) | decide) only [r_r, ↓reduceIte, Nat.reduceEqDiff, Nat.reduceAdd, D.fix, Int.reduceToNat, Nat.reduceMul, Nat.reduceBNe, Nat.reduceBEq, r_m, zbe, zbh, zbo, zbm, zdi, shD, gA, zb4, zb1, zas, zaz, zaf, zag, zax, zay, zar, zei, zej]
      show ∃ r, closeA _ _ = some r ∧ _
      simp (disch := first | assumption | omega | (simp only [r_z, zah, zae, zad, zak, zab, zaa, zbg, zbj, zam] <;> omega) | decide) only [r_c, Nat.reduceAdd, D.fix, ↓reduceIte, Nat.reduceEqDiff, r_m, zbe, zbh, zbo, zbm, zdi, shD, gA, zb4, zb1, zas, zaz, zaf, zag, zax, zay, zar, zir, zue]
      exact ⟨_, rfl, .inl ⟨j + 1, fs ++ [t3], by omega, hF3, hbig, rfl⟩⟩
     ·have hsm : (zem (fs ++ [t3])).length ≤ 3000 := by simp at ht; omega
      refine za0 (hK30 _ _ ?_)
      refine zbt hp zaj hc rfl fun K35 hK35 => ?_
      simp -dsimp -implicitDefEqProofs (disch := first | assumption | omega | (simp only [r_z, zah, zae, zad, zak, zab, zaa, zbg, zbj, zam] <;> omega) | decide) only [r_r, ↓reduceIte, Nat.reduceEqDiff, Nat.reduceAdd, D.fix, Int.reduceToNat, Nat.reduceMul, Nat.reduceBNe, Nat.reduceBEq, r_m, zbe, zbh, zbo, zbm, zdi, shD, gA, zb4, zb1, zas, zaz, zaf, zag, zax, zay, zar, zde]
      have hx3 : ∀ q, q < j + 1 → (zem ((fs ++ [t3]).take (2 + n.ins.length + (q + 1)))).length ≤ 3000 := fun q hq => by
       by_cases hqj : q < j
       ·rw [zq3 (by omega)]; exact hx2 q hqj
       ·have : q = j := by omega
        subst this
        rw [List.take_of_length_le (by simp; omega)]; exact hsm
      refine hK35 _ _ ⟨_, _, _, ?_, ⟨j + 1, fs ++ [t3], ts3, μu3, μm3, ⟨by omega, hF3, hS3, hf3, by rw [Nat.succ_mul]; omega, hx3⟩, rfl, rfl, rfl⟩, ?_⟩
      ·first | omega | (simp only [List.length_cons]; omega) | (dsimp only; omega)
      ·refine Rt.trans (Rt.gc (keep := [0,1,2,3,4,5,6,7,8]) (by decide) (by decide) (by simp [fzH, gcH])) ?_
       refine Rt.end (by repeat (first | exact zal _ | refine zai ?_ (by first | rfl | (simp [r_f, zah, zae, zad, zak, zab, zaa, zbg, zbj, zam, shD]; done) | simp [r_f, zah, zae, zad, zak, zab, zaa, zbg, zbj, zam, shD, *]))) ?_
       first | rfl | (simp only [r_g, Nat.reduceAdd, ↓reduceIte, Nat.reduceEqDiff, r_m, zbe, zbh, zbo, zbm, zdi, shD, gA, zb4, zb1, zas, zaz, zaf, zag, zax, zay, zar]; first | done | rfl)
    ·have hjj : j = n.gates.length := by simp at ht; omega
     subst hjj
     have hFl := hF.len
     have hS2l := hS2.len
     unfold zeo at hS2l
     have hroot : ∀ k, k < nodes.length → 0 ≤ nth nodes k ∧ nth nodes k < fs.length := fun k hk => by
      have := List.any_eq_false.1 hno _ (zb6 hk)
      simp only [zuf, Bool.or_eq_true, decide_eq_true_eq, not_or] at this
      omega
     refine zbl (hK26 _ _ ?_)
     refine zac hp zaj hc rfl fun K36 hK36 => ?_
     simp -dsimp -implicitDefEqProofs (disch := first | assumption | omega | (simp only [r_z, zah, zae, zad, zak, zab, zaa, zbg, zbj, zam] <;> omega) | decide) only [r_r, ↓reduceIte, Nat.reduceEqDiff, Nat.reduceAdd, D.fix, Int.reduceToNat, Nat.reduceMul, Nat.reduceBNe, Nat.reduceBEq, r_m, zbe, zbh, zbo, zbm, zdi, shD, gA, zb4, zb1, zas, zaz, zaf, zag, zax, zay, zar]
     refine hK36 _ _ ?_
     refine zan fun K37 hK37 => ?_
     refine zac hp zaj hc rfl fun K38 hK38 => ?_
     simp -dsimp -implicitDefEqProofs (disch := first | assumption | omega | (simp only [r_z, zah, zae, zad, zak, zab, zaa, zbg, zbj, zam] <;> omega) | decide) only [r_r, ↓reduceIte, Nat.reduceEqDiff, Nat.reduceAdd, D.fix, Int.reduceToNat, Nat.reduceMul, Nat.reduceBNe, Nat.reduceBEq, r_m, zbe, zbh, zbo, zbm, zdi, shD, gA, zb4, zb1, zas, zaz, zaf, zag, zax, zay, zar, zde]
     refine hK38 _ _ ?_
     refine za1 ?_
     refine zbd hp (fun τ' H' mm => ∃ (i : Nat), (i ≤ nodes.length) ∧ mm = nodes.length - i ∧ H' = zbo ts2 μu2 μm2 n.ins.length sh fs ++ [.cells (avs (zaz n)), .cells [.d (.val (.slice none 0 0)), .d (.val (.slice none 0 0))], .cells (avs (((zft fs nodes).take i).map (zb4 ts2)))] ∧ τ' = frL [(6, .op 8 0), (11, .op 4 0), (18, .os 1 9 0 i), (131, .d (intsD nodes)), (132, .d (iD nodes.length)), (133, .d (iD i))]) (nodes.length) ?_ ⟨0, Nat.zero_le _, rfl, rfl, rfl⟩ ?_
     ·refine Rt.trans (Rt.nil 18 1 rfl) ?_
      refine Rt.trans (Rt.gc (keep := [0,1,2,3,4,5,6,7,8,9]) (by decide) (by decide) (by simp [fzH, gcH])) ?_
      refine Rt.end (by repeat (first | exact zal _ | refine zai ?_ (by first | rfl | (simp [r_f, zah, zae, zad, zak, zab, zaa, zbg, zbj, zam, shD]; done) | simp [r_f, zah, zae, zad, zak, zab, zaa, zbg, zbj, zam, shD, *]))) ?_
      first | rfl | (simp only [r_g, Nat.reduceAdd, ↓reduceIte, Nat.reduceEqDiff, r_m, zbe, zbh, zbo, zbm, zdi, shD, gA, zb4, zb1, zas, zaz, zaf, zag, zax, zay, zar]; first | done | rfl)
     rintro τ' H' mm ⟨i, hi, rfl, rfl, rfl⟩
     refine zac hp zaj hc rfl fun K39 hK39 => ?_
     simp -dsimp -implicitDefEqProofs (disch := first | assumption | omega | (simp only [r_z, zah, zae, zad, zak, zab, zaa, zbg, zbj, zam] <;> omega) | decide) only [r_r, ↓reduceIte, Nat.reduceEqDiff, Nat.reduceAdd, D.fix, Int.reduceToNat, Nat.reduceMul, Nat.reduceBNe, Nat.reduceBEq, r_m, zbe, zbh, zbo, zbm, zdi, shD, gA, zb4, zb1, zas, zaz, zaf, zag, zax, zay, zar, zde]
     refine hK39 _ _ ?_
     refine zan fun K40 hK40 => ?_
     refine zap rfl (fun ht => ?_) (fun ht => ?_)
     ·have hlt : i < nodes.length := by simp at ht; omega
      obtain ⟨r0, r1⟩ := hroot i hlt
      have hrl := zkw fs nodes
      refine za0 (hK40 _ _ ?_)
      refine zan fun K41 hK41 => ?_
      refine za1 ?_
      refine zac hp zaj hc rfl fun K42 hK42 => ?_
      simp -dsimp -implicitDefEqProofs (disch := first | assumption | omega | (simp only [r_z, zah, zae, zad, zak, zab, zaa, zbg, zbj, zam] <;> omega) | decide) only [r_r, ↓reduceIte, Nat.reduceEqDiff, Nat.reduceAdd, D.fix, Int.reduceToNat, Nat.reduceMul, Nat.reduceBNe, Nat.reduceBEq, r_m, zbe, zbh, zbo, zbm, zdi, shD, gA, zb4, zb1, zas, zaz, zaf, zag, zax, zay, zar, zde]
      refine hK42 _ _ ?_
      refine zbt hp zaj hc rfl fun K43 hK43 => ?_
      simp -dsimp -implicitDefEqProofs (disch := first | assumption | omega | (simp only [r_z, zah, zae, zad, zak, zab, zaa, zbg, zbj, zam] <;> omega) | decide) only [r_r, ↓reduceIte, Nat.reduceEqDiff, Nat.reduceAdd, D.fix, Int.reduceToNat, Nat.reduceMul, Nat.reduceBNe, Nat.reduceBEq, r_m, zbe, zbh, zbo, zbm, zdi, shD, gA, zb4, zb1, zas, zaz, zaf, zag, zax, zay, zar, zc4, zde]
      refine hK43 _ _ (hK41 _ _ ?_)
      refine zbt hp zaj hc rfl fun K44 hK44 => ?_
      simp -dsimp -implicitDefEqProofs (disch := first | assumption | omega | (simp only [r_z, zah, zae, zad, zak, zab, zaa, zbg, zbj, zam] <;> omega) | decide) only [r_r, ↓reduceIte, Nat.reduceEqDiff, Nat.reduceAdd, D.fix, Int.reduceToNat, Nat.reduceMul, Nat.reduceBNe, Nat.reduceBEq, r_m, zbe, zbh, zbo, zbm, zdi, shD, gA, zb4, zb1, zas, zaz, zaf, zag, zax, zay, zar, zde]
      refine hK44 _ _ ⟨_, _, _, ?_, ⟨i + 1, by omega, rfl, rfl, rfl⟩, ?_⟩
      ·first | omega | (simp only [List.length_cons]; omega) | (dsimp only; omega)
      ·refine Rt.trans (Rt.gc (keep := [0,1,2,3,4,5,6,7,8,11]) (by decide) (by decide) (by simp [fzH, gcH])) ?_
       refine Rt.end (by repeat (first | exact zal _ | refine zai ?_ (by first | rfl | (simp [r_f, zah, zae, zad, zak, zab, zaa, zbg, zbj, zam, shD]; done) | simp [r_f, zah, zae, zad, zak, zab, zaa, zbg, zbj, zam, shD, *]))) ?_
       simp only [r_g, Nat.reduceAdd, ↓reduceIte, Nat.reduceEqDiff, r_m, zbe, zbh, zbo, zbm, zdi, shD, gA, zb4, zb1, zas, zaz, zaf, zag, zax, zay, zar]; rw [zee (l := zft fs nodes) (by omega)]; simp [avs, zb4, iD, zft, zfs hlt]
     ·have hii : i = nodes.length := by simp at ht; omega
      subst hii
      rw [List.take_of_length_le (by rw [zkw]; exact Nat.le_refl _)]
      have hrl := zkw fs nodes
      have hrm : ∀ t ∈ zft fs nodes, t ∈ zbu ts2 := fun t ht => by
       obtain ⟨k, hk, rfl⟩ := List.mem_map.1 ht
       obtain ⟨q, hq, rfl⟩ := List.getElem_of_mem hk
       obtain ⟨r0, r1⟩ := hroot q hq
       rw [zb9 hq] at r0 r1
       exact hf2 _ (zb6 (by omega))
      have hxr := jdf hS2.row hrm
      refine zbl (hK37 _ _ ?_)
      refine zac hp zaj hc rfl fun K45 hK45 => ?_
      simp -dsimp -implicitDefEqProofs (disch := first | assumption | omega | (simp only [r_z, zah, zae, zad, zak, zab, zaa, zbg, zbj, zam] <;> omega) | decide) only [r_r, ↓reduceIte, Nat.reduceEqDiff, Nat.reduceAdd, D.fix, Int.reduceToNat, Nat.reduceMul, Nat.reduceBNe, Nat.reduceBEq, r_m, zbe, zbh, zbo, zbm, zdi, shD, gA, zb4, zb1, zas, zaz, zaf, zag, zax, zay, zar, zby, zb2, zde]
      refine jh2 ((by have := zx4 V ts2 μu2 μm2 hS2.row hS2.len (zft fs nodes) hrm (by omega); rw [zkw] at this; exact this)) ?_ ?_
      ·simp (disch := first | assumption | omega | (simp only [r_z, zah, zae, zad, zak, zab, zaa, zbg, zbj, zam] <;> omega) | decide) only [r_c, Nat.reduceAdd, D.fix, ↓reduceIte, Nat.reduceEqDiff, r_m, zbe, zbh, zbo, zbm, zdi, shD, gA, zb4, zb1, zas, zaz, zaf, zag, zax, zay, zar, zcz, zh9, zfg, zjx, zir, jtn]
      simp -dsimp -implicitDefEqProofs (disch := first | assumption | omega | (simp only [r_z, zah, zae, zad, zak, zab, zaa, zbg, zbj, zam] <;> omega) | decide) only [r_r, ↓reduceIte, Nat.reduceEqDiff, Nat.reduceAdd, D.fix, Int.reduceToNat, Nat.reduceMul, Nat.reduceBNe, Nat.reduceBEq, r_m, zbe, zbh, zbo, zbm, zdi, shD, gA, zb4, zb1, zas, zaz, zaf, zag, zax, zay, zar, zby, zb2, zde]
      refine hK45 _ _ ?_
      refine za6 ?_
      try dsimp only [zji, zc2]
      refine zkf rfl ?_
      simp -dsimp -implicitDefEqProofs (disch := first | assumption | omega | (simp only [r_z, zah, zae, zad, zak, zab, zaa, zbg, zbj, zam] <;> omega) | decide) only [r_r, ↓reduceIte, Nat.reduceEqDiff, Nat.reduceAdd, D.fix, Int.reduceToNat, Nat.reduceMul, Nat.reduceBNe, Nat.reduceBEq, r_m, zbe, zbh, zbo, zbm, zdi, shD, gA, zb4, zb1, zas, zaz, zaf, zag, zax, zay, zar, zei, zej]
      show ∃ r, closeA _ _ = some r ∧ _
      simp (disch := first | assumption | omega | (simp only [r_z, zah, zae, zad, zak, zab, zaa, zbg, zbj, zam] <;> omega) | decide) only [r_c, Nat.reduceAdd, D.fix, ↓reduceIte, Nat.reduceEqDiff, r_m, zbe, zbh, zbo, zbm, zdi, shD, gA, zb4, zb1, zas, zaz, zaf, zag, zax, zay, zar, zir, zue]
      exact ⟨_, rfl, .inr ⟨fs, hF, hx2, by simp [jsh, zby, zb2, iD]⟩⟩
end Go.Proofs.Ytignimmnnccblaa
