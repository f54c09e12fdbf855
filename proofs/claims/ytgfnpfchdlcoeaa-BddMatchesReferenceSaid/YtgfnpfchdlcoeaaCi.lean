/- Build, of a shape and nodes that are not refused. -/
import Derived.Test.YtgfnpfchdlcoeaaQr
import Derived.Test.YtgfnpfchdlcoeaaQ
import Derived.Test.YtgfnpfchdlcoeaaCh
set_option linter.unusedVariables false
set_option linter.unusedSimpArgs false
set_option maxRecDepth 100000
set_option maxHeartbeats 4000000
namespace Go.Proofs.Ytgfnpfchdlcoeaa
open Go Go.RowKit
structure FsP (V ins : Nat) (sh : Sh) (gates : List Gate) (j : Nat) (fs : List T) : Prop where
 len : fs.length = 2 + ins + j
 ok : ∀ t ∈ fs, t.Ok V 0
 f0 : nth fs 0 = .leaf false
 f1 : nth fs 1 = .leaf true
 fv : ∀ v, v < ins → nth fs (2 + v) = zut v
 fg : ∀ q, q < j → ∀ a, (nth fs (2 + ins + q)).eval a = zjs ins sh (fs.take (2 + ins + q)) (nth gates q) a
def vfs (v : Nat) : List T := .leaf false :: .leaf true :: (List.range v).map zut
theorem zjv (v : Nat) : (vfs v).length = 2 + v := by simp [vfs]; omega
theorem zzm (v : Nat) : vfs (v + 1) = vfs v ++ [zut v] := by simp [vfs, List.range_succ]
theorem FsP.base {V ins : Nat} {sh : Sh} {gates : List Gate} (h : ins ≤ V) : FsP V ins sh gates 0 (vfs ins) := by
 refine ⟨by rw [zjv]; rfl, fun t ht => ?_, rfl, rfl, fun v hv => ?_, fun q hq => absurd hq (by omega)⟩
 ·simp only [vfs, List.mem_cons] at ht
  rcases ht with rfl | rfl | ht
  ·trivial
  ·trivial
  ·obtain ⟨v, hv, rfl⟩ := List.mem_map.1 ht
   have := List.mem_range.1 hv
   exact ⟨Nat.zero_le _, by omega, fun e => (by cases e), trivial, trivial⟩
 ·unfold vfs
  rw [zcd (by simp; omega)]
  simp [Nat.add_comm 2 v]
theorem zt8 {α : Type} {l m : List α} {k : Nat} (h : k ≤ l.length) : (l ++ m).take k = l.take k := List.take_append_of_le_length h
theorem FsP.snoc {V ins : Nat} {sh : Sh} {gates : List Gate} {j : Nat} {fs : List T} (h : FsP V ins sh gates j fs) {t : T} (ht : t.Ok V 0) (he : ∀ a, t.eval a = zjs ins sh fs (nth gates j) a) : FsP V ins sh gates (j + 1) (fs ++ [t]) := by
 have hl := h.len
 refine ⟨by simp; omega, fun s hs => ?_, by rw [zda (by omega)]; exact h.f0, by rw [zda (by omega)]; exact h.f1, fun v hv => by rw [zda (by omega)]; exact h.fv v hv, fun q hq a => ?_⟩
 ·rcases List.mem_append.1 hs with hs | hs
  ·exact h.ok s hs
  ·rw [List.mem_singleton.1 hs]; exact ht
 ·by_cases hqj : q < j
  ·rw [zda (by omega), zt8 (by omega)]; exact h.fg q hqj a
  ·have : q = j := by omega
   subst this
   rw [← hl, zf2, zt8 (Nat.le_refl _), List.take_length]; exact he a
def zej (fs : List T) (nodes : List Int) : List T := nodes.map fun k => nth fs k.toNat
def jtb (rs : List T) : D := zfp (zdl (zd1 rs)) (rs.map (num (zd1 rs)))
def BuK (V : Nat) (n : Net) (sh : Sh) (nodes : List Int) (r : AV) : Prop :=
 (∃ j fs, j ≤ n.gates.length ∧ FsP V n.ins.length sh n.gates j fs ∧ 3000 < (zd1 fs).length ∧ r = .tup [.d (zfp [] []), .d (iD 2)]) ∨
 (∃ fs, FsP V n.ins.length sh n.gates n.gates.length fs ∧ (∀ q, q < n.gates.length → (zd1 (fs.take (2 + n.ins.length + (q + 1)))).length ≤ 3000) ∧ r = .tup [.d (jtb (zej fs nodes)), .d (iD 0)])
theorem zh2 (fs : List T) (nodes : List Int) : (zej fs nodes).length = nodes.length := by simp [zej]
theorem jtc (ts fs : List T) : (fs.map (znx ts)).map D.fix = fs.map (znx ts) := zln (fun _ => rfl) fs
def zt9 (ts : List T) (fst : List Nat) (sh : Sh) (fs : List T) : zal := [.cells [.op 0 0, .os 1 6 0 fst.length, .d (shD sh), .os 1 5 0 fs.length], .cells (avs (fs.map (znx ts))), .cells (avs (fst.map zzi))]
def shZ (sh : Sh) : List (Int × Int) := sh.map fun p => ((p.1 : Int), (p.2 : Int))
theorem jlp (sh : Sh) : shD sh = shI (shZ sh) := by
 unfold shD shI shZ
 rw [List.flatMap_map, List.length_map]; rfl
theorem zzn {sh : Sh} (h : ShOk sh) : (shZ sh).any zn7 = false := by
 rw [List.any_eq_false]
 intro p hp
 obtain ⟨q, hq, rfl⟩ := List.mem_map.1 hp
 obtain ⟨k, hk, rfl⟩ := List.getElem_of_mem hq
 have := h.el k hk
 rw [zcd hk] at this
 simp only [zn7, Bool.or_eq_true, decide_eq_true_eq, not_or]
 constructor <;> omega
theorem jh3 : jen [] = [⟨1000, 0, 0⟩, ⟨1000, 0, 0⟩] := by decide
theorem MS.nil {V : Nat} (hV : V ≤ 900) : MS V [] ([], 0) ([], 0) := ⟨.nil V, ⟨OkM.nil _ _, fun t ht => (by cases ht), fun k u hg => (by cases hg)⟩, ⟨OkM.nil _ _, fun k u hg => (by cases hg)⟩, by decide, hV⟩
theorem zxp (base : Nat) (sh : Sh) {i : Nat} (h : i < sh.length) : (zp1 base sh).take (i + 1) = (zp1 base sh).take i ++ [zb1 base sh i] := by rw [zel (by rw [zdk]; exact h), zsq h]
theorem zua {base : Nat} {sh : Sh} (h : ShOk sh) : ∀ {k : Nat}, k ≤ sh.length → zb1 base sh k ≤ base + k * 64
 | 0, _ => by simp [zb1]
 | k + 1, hk => by
  have := zua (base := base) h (k := k) (by omega)
  have h2 := h.el k (by omega)
  have h3 := Nat.mul_le_mul h2.1 h2.2
  rw [zgv (by omega)]; omega
theorem jfd {V : Nat} {ts fs : List T} (hr : RowOk V ts) (h : ∀ t ∈ fs, t ∈ zbn ts) : (zd1 fs).length ≤ ts.length := by
 obtain ⟨h1, h2⟩ := jfa hr h
 exact zxo h1 h2
theorem zmh : (type_of% @zah) ∧ (type_of% @zca) ∧ (type_of% @zbq) ∧ (type_of% @zdt) ∧ (type_of% @zdk) ∧ (type_of% @zby) ∧ (type_of% @zbe) ∧ (type_of% @zjv) ∧ (type_of% @zss) ∧ (type_of% @zbc) := ⟨@zah, @zca, @zbq, @zdt, @zdk, @zby, @zbe, @zjv, @zss, @zbc⟩
theorem jlq (V : Nat) (n : Net) (sh : Sh) (nodes : List Int) (hsh : ShOk sh) (hV : zcz n.ins.length sh = V) (hV9 : V ≤ 900) (hgs : ∀ k, k < n.gates.length → GOp (2 + n.ins.length + k) (nth n.gates k)) (hno : nodes.any (zh7 (2 + n.ins.length + n.gates.length)) = false) (hnl : nodes.length ≤ 1000000) (hil : n.ins.length ≤ 1000) (hgl : n.gates.length ≤ 1000) (hB : n.ins.length + n.gates.length * (8 + 7 * 2 ^ V) + 32 * 2 ^ V ≤ zed) : RCalls Try.prog 41 [zf1 n, shD sh, zay nodes] (BuK V n sh nodes) := by
 have hpos : 0 < 2 ^ V := Nat.two_pow_pos V
 have hB' := hB
 unfold zed at hB
 have hs8 := hsh.len
 have hiV : n.ins.length ≤ V := by rw [← hV]; have := zt4 (base := n.ins.length) (sh := sh) (d := sh.length) (k := 0) (by omega); unfold zcz; simp [zb1] at this ⊢
 have q0 : decide ((8 : Int) < sh.length) = false := by simp; omega
 have hin := zzn hsh
 refine zgr (fn := Try.f41) (by kernel_rfl) Try.func41 rfl (Nat.le_of_ble_eq_true rfl) fun c hc hp => ?_
 refine zba (τ' := frL [(0, .d (zf1 n)), (1, .d (shD sh)), (2, .d (zay nodes))]) (zaa (zaa (zaa (zae _) rfl) rfl) rfl) ?_
 refine zab hp zad hc rfl fun K1 hK1 => ?_
 simp -dsimp -implicitDefEqProofs (disch := first | omega | decide) only [q_r, zau, zb0, ↓reduceIte, D.one, zay, zau, shD, zf1, zc2, zbh, zbg, zvy]
 refine hK1 _ _ ?_
 refine zab hp zad hc rfl fun K2 hK2 => ?_
 simp -dsimp -implicitDefEqProofs (disch := first | omega | decide) only [q_r]
 refine hK2 _ _ ?_
 refine zab hp zad hc rfl fun K3 hK3 => ?_
 simp -dsimp -implicitDefEqProofs (disch := first | omega | decide) only [q_r, zau, zam, zac, zc1, zar, zb0, za6, ↓reduceIte, Nat.reduceEqDiff, Nat.reduceAdd, zau, zfm, zjo, zjp, zof, zci, zge, zog, zoh, ztu, js5]
 refine hK3 _ _ ?_
 refine zab hp zad hc rfl fun K4 hK4 => ?_
 simp -dsimp -implicitDefEqProofs (disch := first | omega | decide) only [q_r, ↓reduceIte]
 refine hK4 _ _ ?_
 refine zaf fun K5 hK5 => ?_
 refine zab hp zad hc rfl fun K6 hK6 => ?_
 simp -dsimp -implicitDefEqProofs (disch := first | omega | decide) only [q_r, zc1, zar, ↓reduceIte, Nat.reduceEqDiff, Nat.reduceAdd, q0, zgd]
 refine zb9 ((by have := zst (shZ sh) (by unfold shZ maxLen; simp; omega); rw [← jlp, hin] at this; exact this)) rfl ?_
 simp -dsimp -implicitDefEqProofs (disch := first | omega | decide) only [q_r, ↓reduceIte, Nat.reduceEqDiff, oD, Nat.reduceAdd]
 refine zl4 ((by have := zsu nodes (2 + n.ins.length + n.gates.length) (by unfold maxLen; omega); rw [hno] at this; exact this)) ?_ ?_
 ·simp (disch := first | omega | decide) only [za1, za9, za7, zbt, zbl, zfj, zkv, Nat.reduceAdd, D.fix, Option.map_some, Option.bind_some, List.getElem?_cons_zero, List.getElem?_cons_succ, iD, zay]
 simp -dsimp -implicitDefEqProofs (disch := first | omega | decide) only [q_r, ↓reduceIte, Nat.reduceEqDiff]
 refine hK6 _ _ ?_
 refine zag rfl (fun ht => ?_) (fun ht => ?_)
 ·cases ht
 ·refine zan (hK5 _ _ ?_)
  refine zab hp zad hc rfl fun K7 hK7 => ?_
  simp -dsimp -implicitDefEqProofs (disch := first | omega | decide) only [q_r, Nat.reduceAdd]
  refine jq3 ⟨by kernel_rfl, _, _, Try.func60, rfl, Nat.le_of_ble_eq_true rfl, fun c107 hc107 => ?_⟩
  refine jkw ?_
  refine zab (Kp.all c107) zad hc107 rfl fun K108 hK108 => ?_
  simp -dsimp -implicitDefEqProofs (disch := first | omega | decide) only [q_r]
  refine hK108 _ _ ?_
  refine zab (Kp.all c107) zad hc107 rfl fun K109 hK109 => ?_
  simp -dsimp -implicitDefEqProofs (disch := first | omega | decide) only [q_r, zau, zb7, zb0, ↓reduceIte, List.append_nil, List.replicate_zero, List.replicate_succ, AV.one, D.one, Value.oneCell', Nat.reduceEqDiff, Nat.reduceAdd, zau, Nat.zero_mul, Nat.reduceMul, List.flatten_cons, List.flatten_nil, jb9, znv, jb8, jb2]
  refine hK109 _ _ ?_
  refine zab (Kp.all c107) zad hc107 rfl fun K110 hK110 => ?_
  simp -dsimp -implicitDefEqProofs (disch := first | omega | decide) only [q_r, zau, zb7, zb0, ↓reduceIte, AV.one, D.one, Value.oneCell', Nat.reduceEqDiff, Nat.reduceAdd, zau, jkv, joo, jhu, jhv, jhw, jon]
  refine hK110 _ _ ?_
  refine zao ?_
  refine zb3 (t := 0) rfl ?_
  simp -dsimp -implicitDefEqProofs (disch := first | omega | decide) only [q_r, zau, zb7, zb0, ↓reduceIte, List.replicate_zero, List.replicate_succ, AV.one, D.one, Value.oneCell', Nat.reduceEqDiff, Nat.reduceAdd, zau, zgb, jol, jhr, jhs, jht, jok]
  refine hK7 _ _ ?_
  refine zaf fun K8 hK8 => ?_
  refine zab hp zad hc rfl fun K9 hK9 => ?_
  simp -dsimp -implicitDefEqProofs (disch := first | omega | decide) only [q_r, zam, zac, zc1, zar, ↓reduceIte, Nat.reduceEqDiff, Nat.reduceAdd, zfm, zjo, zjp, zof]
  refine hK9 _ _ ?_
  refine zaq ?_
  refine za4 hp (fun τ' H' mm => ∃ (v : Nat) (ts : List T) (μu μm : Mp), (v ≤ n.ins.length ∧ MS V ts μu μm ∧ ts.length ≤ v ∧ ∀ t ∈ vfs v, t ∈ zbn ts) ∧ mm = n.ins.length - v ∧ H' = zbu ts μu μm ++ zt9 ts [] sh (vfs v) ++ [.cells (avs (zc2 n)), .cells [.d (.val (.slice none 0 0)), .d (.val (.slice none 0 0))]] ∧ τ' = frL [(1, .d (shD sh)), (2, .d (zay nodes)), (3, .op 7 0), (6, .op 8 0), (11, .op 4 0), (51, .d (iD n.ins.length)), (52, .d (iD v))]) (n.ins.length) ?_ ⟨0, [], ([], 0), ([], 0), ⟨Nat.zero_le _, MS.nil hV9, Nat.zero_le _, fun t ht => ht⟩, rfl, rfl, rfl⟩ ?_
  ·refine Rt.trans (Rt.nilc 8 1 1 rfl rfl) ?_
   refine Rt.trans (Rt.gc (keep := [6,4,5,3,8,7,9,0,1]) (by decide) (by decide) (by simp [])) ?_
   refine Rt.end (zaa (zaa (zaa (zaa (zaa (zaa (zaa (zae _) rfl) rfl) rfl) rfl) rfl) rfl) rfl) ?_
   simp only [zay, gcH, zbb, zcq, zcb, gcV, Nat.reduceAdd, zcp, za2, zav, List.map_cons, List.map_nil, List.getD_cons_zero, List.getD_cons_succ, ↓reduceIte, Nat.reduceEqDiff, Option.map_some, List.set_cons_zero, List.set_cons_succ, List.cons_append, List.nil_append, zcq, zbu, zb8, zt9, shD, zc2, zbh, zbg]; first | done | rfl | (rw [jh3]; rfl)
  rintro τ' H' mm ⟨v, ts, μu, μm, ⟨hv, hS, htl, hfs⟩, rfl, rfl, rfl⟩
  refine zab hp zad hc rfl fun K10 hK10 => ?_
  simp -dsimp -implicitDefEqProofs (disch := first | omega | decide) only [q_r, ↓reduceIte, Nat.reduceEqDiff, iD, zay, zbu, zb8, zt9, shD, zc2, zbh, zbg]
  refine hK10 _ _ ?_
  refine zaf fun K11 hK11 => ?_
  refine zag rfl (fun ht => ?_) (fun ht => ?_)
  ·have hlt : v < n.ins.length := by simp at ht; omega
   refine zan (hK11 _ _ ?_)
   refine zaf fun K12 hK12 => ?_
   refine zaq ?_
   refine zab hp zad hc rfl fun K13 hK13 => ?_
   simp -dsimp -implicitDefEqProofs (disch := first | omega | decide) only [q_r, ↓reduceIte, Nat.reduceEqDiff]
   refine hK13 _ _ ?_
   refine zl8 zad hp hc mixed rfl [(0, []), (1, []), (2, []), (3, []), (4, []), (5, []), (6, []), (7, []), (8, []), (9, []), (10, [4]), (11, []), (12, []), (13, []), (14, []), (15, [])] [[], [], [1], [1, 2], [1, 2, 3], [], [5], [5, 6], [5, 6, 7], [], [5, 6, 7, 8, 9], [5, 6, 7, 8, 9, 10], [1, 2, 3, 4, 5, 6, 7, 8, 9, 10, 11], [0, 1, 2, 3, 4, 5, 6, 7, 8, 9, 10, 11, 12], [0, 1, 2, 3, 4, 5, 6, 7, 8, 9, 10, 11, 12, 13], [0, 1, 2, 3, 4, 5, 6, 7, 8, 9, 10, 11, 12, 13, 14]] 1 (by kernel_rfl) fun K14 hK14 => ?_
   simp -dsimp -implicitDefEqProofs (disch := first | omega | decide) only [q_r, zam, zac, zdy, ↓reduceIte, List.replicate_zero, List.replicate_succ, Nat.reduceEqDiff, Nat.reduceAdd, List.getD_cons_zero, List.getD_cons_succ, zhb, zea, zeb, zfn, zg1, zg2]
   refine zma (S := zbu ts μu μm) (T := zt9 ts [] sh (vfs v) ++ [.cells (avs (zc2 n)), .cells [.d (.val (.slice none 0 0)), .d (.val (.slice none 0 0))], .free]) (jo4 (v := v) hS (by omega) (by unfold zed; omega) rfl) rfl (Nat.le_of_ble_eq_true rfl) (by first | rfl | (simp [AV.allIs, AV.allI, zaz, za5, za3, okI, ltI, zak, zbj, zbu, zb8, zt9, zcu, zde, gA]; done) | (intro o ho; simp at ho; done)) (fun t => zbv (by first | rfl | (simp [AV.allIs, AV.allI, zaz, za5, za3, okI, ltI, zak, zbj, zbu, zb8, zt9, zcu, zde, gA]; done) | (intro o ho; simp at ho; done)) t) (fun t => zbv (by first | rfl | (simp [AV.allIs, AV.allI, zaz, za5, za3, okI, ltI, zak, zbj, zbu, zb8, zt9, zcu, zde, gA]; done) | (intro o ho; simp at ho; done)) t) (by first | rfl | (simp [AV.allIs, AV.allI, zaz, za5, za3, okI, ltI, zak, zbj, zbu, zb8, zt9, zcu, zde, gA]; done) | (intro o ho; simp at ho; done)) (by first | rfl | (simp [AV.allIs, AV.allI, zaz, ltI, zak, zbj, zbu, zb8]; done) | (intro o ho; simp at ho; done)) (by first | rfl | (simp [AV.allIs, AV.allI, zaz, za3, okI, zak, zbu, zb8, zt9]; done) | (intro o ho; simp at ho; done)) ?_
   rintro _ _ ⟨ts2, μu2, rfl, rfl, hS2, hp2, hl2, hm2⟩
   refine ⟨rfl, ?_⟩
   simp -dsimp -implicitDefEqProofs (disch := first | assumption | omega | (simp [maxLen, zmh] <;> omega) | decide) only [q_r, zau, zam, zac, zb0, zc6, zic, za6, zdy, ↓reduceIte, List.append_nil, List.replicate_zero, List.replicate_succ, and_true, Nat.reduceEqDiff, shB, zqn, List.drop_zero, iD, zay, Nat.reduceAdd, zau, List.length_map, zc6, zpe, zll, zbu, zb8, zt9, shD, zc2, zbh, zbg, zhb, zea, zeb, zgb]
   refine hK14 _ _ (hK12 _ _ ?_)
   refine zbs hp zad hc rfl fun K15 hK15 => ?_
   simp -dsimp -implicitDefEqProofs (disch := first | omega | decide) only [q_r, ↓reduceIte, Nat.reduceEqDiff]
   have hfs2 : ∀ t ∈ vfs (v + 1), t ∈ zbn ts2 := fun t ht => by
    rw [zzm] at ht
    rcases List.mem_append.1 ht with ht | ht
    ·exact zcs hp2 (hfs t ht)
    ·rw [List.mem_singleton.1 ht]; exact hm2
   refine hK15 _ _ ⟨_, _, _, ?_, ⟨v + 1, ts2, μu2, μm, ⟨by omega, hS2, by omega, hfs2⟩, rfl, rfl, rfl⟩, ?_⟩
   ·first | omega | (simp only [List.length_cons]; omega) | (dsimp only; omega)
   ·refine Rt.trans (Rt.gc (keep := [0,1,2,3,4,10,6,7,8]) (by decide) (by decide) (by simp [])) ?_
    refine Rt.end (zaa (zaa (zaa (zaa (zaa (zaa (zaa (zae _) rfl) rfl) rfl) rfl) rfl) rfl) rfl) ?_
    simp only [zay, gcH, zbb, zcq, zap, zcb, gcV, Nat.reduceAdd, zcp, za2, zav, List.map_cons, List.map_nil, List.getD_cons_zero, List.getD_cons_succ, ↓reduceIte, Nat.reduceEqDiff, Option.map_some, List.cons_append, List.nil_append, zcq, zbu, zb8, zt9, shD, zc2, zbh, zbg]; rw [zzm, List.map_append, ze0 hp2 hfs]; simp [avs, znx, iD, zjv]
  ·have hvv : v = n.ins.length := by simp at ht; omega
   subst hvv
   refine zbd (hK8 _ _ ?_)
   refine zab hp zad hc rfl fun K16 hK16 => ?_
   simp -dsimp -implicitDefEqProofs (disch := first | omega | decide) only [q_r, zam, zac, zc1, zar, ↓reduceIte, Nat.reduceEqDiff, Nat.reduceAdd, zfm, zjo, zjp, zof]
   refine hK16 _ _ ?_
   refine zaf fun K17 hK17 => ?_
   refine zab hp zad hc rfl fun K18 hK18 => ?_
   simp -dsimp -implicitDefEqProofs (disch := first | omega | decide) only [q_r, zc1, zar, ↓reduceIte, Nat.reduceEqDiff, zgd]
   refine hK18 _ _ ?_
   refine zaq ?_
   refine za4 hp (fun τ' H' mm => ∃ (i : Nat) (fst : List Nat), (i ≤ sh.length ∧ fst = (zp1 n.ins.length sh).take i) ∧ mm = sh.length - i ∧ H' = zbu ts μu μm ++ zt9 ts fst sh (vfs n.ins.length) ++ [.cells (avs (zc2 n)), .cells [.d (.val (.slice none 0 0)), .d (.val (.slice none 0 0))]] ∧ τ' = frL [(2, .d (zay nodes)), (3, .op 7 0), (6, .op 8 0), (11, .op 4 0), (13, .d (iD (zb1 n.ins.length sh i))), (74, .d (shD sh)), (75, .d (iD sh.length)), (76, .d (iD i))]) (sh.length) ?_ ⟨0, [], ⟨Nat.zero_le _, rfl⟩, rfl, rfl, rfl⟩ ?_
   ·refine Rt.trans (Rt.gc (keep := [0,1,2,3,4,5,6,7,8]) (by decide) (by decide) (by simp [])) ?_
    refine Rt.end (zaa (zaa (zaa (zaa (zaa (zaa (zaa (zaa (zae _) rfl) rfl) rfl) rfl) rfl) rfl) rfl) rfl) ?_
    first | rfl | (simp only [zay, gcH, zbb, zcq, zap, zcb, gcV, Nat.reduceAdd, zcp, za2, zav, List.map_cons, List.map_nil, List.getD_cons_zero, List.getD_cons_succ, ↓reduceIte, Nat.reduceEqDiff, Option.map_some, List.cons_append, List.nil_append, zcq, zbu, zb8, zt9, shD, zc2, zbh, zbg]; first | done | rfl)
   rintro τ' H' mm ⟨i, fst, ⟨hi, hfst⟩, rfl, rfl, rfl⟩
   refine zab hp zad hc rfl fun K19 hK19 => ?_
   simp -dsimp -implicitDefEqProofs (disch := first | omega | decide) only [q_r, ↓reduceIte, Nat.reduceEqDiff, iD, zay, zbu, zb8, zt9, shD, zc2, zbh, zbg]
   refine hK19 _ _ ?_
   refine zaf fun K20 hK20 => ?_
   refine zag rfl (fun ht => ?_) (fun ht => ?_)
   ·have hlt : i < sh.length := by simp at ht; omega
    have hfl : fst.length = i := by rw [hfst, List.length_take, zdk]; omega
    have fb := zua (base := n.ins.length) hsh (k := i) (by omega)
    have hel := hsh.el i hlt
    have hib : ((nth sh i).1 : Int) * ((nth sh i).2 : Int) ≤ 64 := by
     have := Nat.mul_le_mul hel.1 hel.2
     omega
    have hib0 : 0 ≤ ((nth sh i).1 : Int) * ((nth sh i).2 : Int) := by
     have : (((nth sh i).1 * (nth sh i).2 : Nat) : Int) = ((nth sh i).1 : Int) * ((nth sh i).2 : Int) := by simp
     omega
    have hfs1 : (zb1 n.ins.length sh (i + 1) : Int) = (zb1 n.ins.length sh i : Int) + ((nth sh i).1 : Int) * ((nth sh i).2 : Int) := by rw [zgv hlt]; simp
    refine zan (hK20 _ _ ?_)
    refine zaf fun K21 hK21 => ?_
    refine zaq ?_
    refine zab hp zad hc rfl fun K22 hK22 => ?_
    simp -dsimp -implicitDefEqProofs (disch := first | omega | decide) only [q_r, zau, zam, ixO, zai, zb0, za6, ↓reduceIte, D.one, Value.oneCell', Int.toNat_natCast, Nat.reduceEqDiff, iD, Nat.reduceAdd, zau, jo5, shC, zgd, joe, jof, jrd]
    refine hK22 _ _ ?_
    refine zab hp zad hc rfl fun K23 hK23 => ?_
    simp -dsimp -implicitDefEqProofs (disch := first | assumption | omega | (simp [maxLen, zmh] <;> omega) | decide) only [q_r, zau, zam, zac, zb0, zic, za6, zdy, ↓reduceIte, List.append_nil, List.replicate_zero, List.replicate_succ, Nat.reduceEqDiff, List.drop_zero, Nat.reduceAdd, zau, List.length_map, zzb, zea, zeb, zgb]
    refine hK23 _ _ ?_
    refine zbs hp zad hc rfl fun K24 hK24 => ?_
    simp -dsimp -implicitDefEqProofs (disch := first | omega | decide) only [q_r, zam, ixO, zai, ↓reduceIte, Nat.reduceEqDiff, Nat.reduceAdd, Int.toNat_zero, Int.reduceToNat, zlo, zci, zcn]
    refine hK24 _ _ (hK21 _ _ ?_)
    refine zbs hp zad hc rfl fun K25 hK25 => ?_
    simp -dsimp -implicitDefEqProofs (disch := first | omega | decide) only [q_r, ↓reduceIte, Nat.reduceEqDiff]
    refine hK25 _ _ ⟨_, _, _, ?_, ⟨i + 1, fst ++ [zb1 n.ins.length sh i], ⟨by omega, by rw [hfst, zxp _ _ hlt]⟩, rfl, rfl, rfl⟩, ?_⟩
    ·first | omega | (simp only [List.length_cons]; omega) | (dsimp only; omega)
    ·refine Rt.trans (Rt.gc (keep := [0,1,2,3,4,5,11,7,8]) (by decide) (by decide) (by simp [])) ?_
     refine Rt.end (zaa (zaa (zaa (zaa (zaa (zaa (zaa (zaa (zae _) rfl) rfl) rfl) (by first | rfl | (simp [frL, gcV, iD]; done) | simp [frL, gcV, iD, *])) rfl) rfl) rfl) rfl) ?_
     simp only [zay, gcH, zbb, zcq, zap, zcb, gcV, Nat.reduceAdd, zcp, za2, zav, List.map_cons, List.map_nil, List.getD_cons_zero, List.getD_cons_succ, ↓reduceIte, Nat.reduceEqDiff, Option.map_some, List.cons_append, List.nil_append, zcq, zbu, zb8, zt9, shD, zc2, zbh, zbg]; simp [avs, zzi, iD]
   ·have hii : i = sh.length := by simp at ht; omega
    subst hii
    rw [List.take_of_length_le (by rw [zdk]; exact Nat.le_refl _)] at hfst
    subst hfst
    refine zbd (hK17 _ _ ?_)
    refine zaf fun K26 hK26 => ?_
    refine zab hp zad hc rfl fun K27 hK27 => ?_
    simp -dsimp -implicitDefEqProofs (disch := first | omega | decide) only [q_r, zam, zac, zc1, zar, ↓reduceIte, Nat.reduceEqDiff, Nat.reduceAdd, zge, zog, zoh, ztu]
    refine hK27 _ _ ?_
    refine zaq ?_
    refine za4 hp (fun τ' H' mm => ∃ (j : Nat) (fs : List T) (ts2 : List T) (μu2 μm2 : Mp), (j ≤ n.gates.length ∧ FsP V n.ins.length sh n.gates j fs ∧ MS V ts2 μu2 μm2 ∧ (∀ t ∈ fs, t ∈ zbn ts2) ∧ ts2.length ≤ n.ins.length + j * (8 + 7 * 2 ^ V) ∧ ∀ q, q < j → (zd1 (fs.take (2 + n.ins.length + (q + 1)))).length ≤ 3000) ∧ mm = n.gates.length - j ∧ H' = zde ts2 μu2 μm2 n.ins.length sh fs ++ [.cells (avs (zc2 n)), .cells [.d (.val (.slice none 0 0)), .d (.val (.slice none 0 0))]] ∧ τ' = frL [(2, .d (zay nodes)), (6, .op 8 0), (11, .op 4 0), (99, .d (zbg n.gates)), (100, .d (iD n.gates.length)), (101, .d (iD j))]) (n.gates.length) ?_ ⟨0, vfs n.ins.length, ts, μu, μm, ⟨Nat.zero_le _, FsP.base hiV, hS, hfs, by omega, fun q hq => absurd hq (by omega)⟩, rfl, rfl, rfl⟩ ?_
    ·refine Rt.trans (Rt.gc (keep := [0,1,2,3,4,5,6,7,8]) (by decide) (by decide) (by simp [])) ?_
     refine Rt.end (zaa (zaa (zaa (zaa (zaa (zaa (zae _) rfl) rfl) rfl) rfl) rfl) rfl) ?_
     simp only [zay, gcH, zbb, zcq, zap, zcb, gcV, Nat.reduceAdd, zcp, za2, zav, List.map_cons, List.map_nil, List.getD_cons_zero, List.getD_cons_succ, ↓reduceIte, Nat.reduceEqDiff, Option.map_some, List.cons_append, List.nil_append, zcq, zbu, zb8, zde, zcu, shD, zc2, zbh, zbg]; first | done | rfl | (simp [zdk]; done)
    rintro τ' H' mm ⟨j, fs, ts2, μu2, μm2, ⟨hj, hF, hS2, hf2, hl2, hx2⟩, rfl, rfl, rfl⟩
    refine zab hp zad hc rfl fun K28 hK28 => ?_
    simp -dsimp -implicitDefEqProofs (disch := first | omega | decide) only [q_r, ↓reduceIte, Nat.reduceEqDiff, iD, zay, zbu, zb8, zde, zcu, shD, zc2, zbh, zbg]
    refine hK28 _ _ ?_
    refine zaf fun K29 hK29 => ?_
    refine zag rfl (fun ht => ?_) (fun ht => ?_)
    ·have hlt : j < n.gates.length := by simp at ht; omega
     have hFl := hF.len
     have hg : GOp fs.length (nth n.gates j) := by rw [hFl]; have := hgs j hlt; simpa using this
     have hjb : j * (8 + 7 * 2 ^ V) + (8 + 7 * 2 ^ V) ≤ n.gates.length * (8 + 7 * 2 ^ V) := by
      rw [← Nat.succ_mul]; exact Nat.mul_le_mul_right _ hlt
     refine zan (hK29 _ _ ?_)
     refine zaf fun K30 hK30 => ?_
     refine zaq ?_
     refine zab hp zad hc rfl fun K31 hK31 => ?_
     simp -dsimp -implicitDefEqProofs (disch := first | omega | decide) only [q_r, zau, zam, ixO, zai, zb0, za6, ↓reduceIte, D.one, Value.oneCell', Int.toNat_natCast, Nat.reduceEqDiff, iD, Nat.reduceAdd, zau, zze, zd4, ztu, ztw, zv5, jk8]
     refine hK31 _ _ ?_
     refine ze9 zad hp hc mixed rfl [(0, []), (1, []), (2, []), (3, []), (4, []), (5, []), (6, []), (7, [4]), (8, []), (9, []), (10, []), (11, []), (12, [])] [[], [], [1], [1, 2], [1, 2, 3], [], [], [5, 6], [5, 6, 7], [1, 2, 3, 4, 5, 6, 7, 8], [0, 1, 2, 3, 4, 5, 6, 7, 8, 9], [0, 1, 2, 3, 4, 5, 6, 7, 8, 9, 10], [0, 1, 2, 3, 4, 5, 6, 7, 8, 9, 10, 11]] 1 (by kernel_rfl) fun K32 hK32 => ?_
     simp -dsimp -implicitDefEqProofs (disch := first | assumption | omega | (simp [maxLen, zmh] <;> omega) | decide) only [q_r, zam, zac, zdy, ↓reduceIte, List.replicate_zero, List.replicate_succ, Nat.reduceEqDiff, Nat.reduceAdd, List.getD_cons_zero, List.getD_cons_succ, zhb, zea, zeb, ztw, zv5]
     refine zma (S := zde ts2 μu2 μm2 n.ins.length sh fs) (T := [.cells (avs (zc2 n)), .cells [.d (.val (.slice none 0 0)), .d (.val (.slice none 0 0))], .cells (gA (nth n.gates j)), .free]) (jo9 V n.ins.length sh fs ts2 μu2 μm2 (nth n.gates j) hS2 hsh (Nat.le_of_eq hV) hf2 (by omega) hg (by unfold zed; omega)) rfl (Nat.le_of_ble_eq_true rfl) (by first | rfl | (simp [AV.allIs, AV.allI, zaz, za5, za3, okI, ltI, zak, zbj, zbu, zb8, zt9, zcu, zde, gA]; done) | (intro o ho; simp at ho; done)) (fun t => zbv (by first | rfl | (simp [AV.allIs, AV.allI, zaz, za5, za3, okI, ltI, zak, zbj, zbu, zb8, zt9, zcu, zde, gA]; done) | (intro o ho; simp at ho; done)) t) (fun t => zbv (by first | rfl | (simp [AV.allIs, AV.allI, zaz, za5, za3, okI, ltI, zak, zbj, zbu, zb8, zt9, zcu, zde, gA]; done) | (intro o ho; simp at ho; done)) t) (by first | rfl | (simp [AV.allIs, AV.allI, zaz, za5, za3, okI, ltI, zak, zbj, zbu, zb8, zt9, zcu, zde, gA]; done) | (intro o ho; simp at ho; done)) (by first | rfl | (simp [AV.allIs, AV.allI, zaz, ltI, zak, zbj, zbu, zb8, zcu, zde]; done) | (intro o ho; simp at ho; done)) (by first | rfl | (simp [AV.allIs, AV.allI, zaz, za3, zak, zbu, zb8, zcu, zde, gA]; done) | (intro o ho; simp at ho; done)) ?_
     rintro _ _ ⟨ts3, μu3, μm3, t3, rfl, rfl, hS3, hp3, hl3, hm3, hi3⟩
     refine ⟨rfl, ?_⟩
     simp -dsimp -implicitDefEqProofs (disch := first | assumption | omega | (simp [maxLen, zmh] <;> omega) | decide) only [q_r, zau, zam, zac, zb0, zc6, zic, za6, zdy, ↓reduceIte, List.append_nil, List.replicate_zero, List.replicate_succ, and_true, Nat.reduceEqDiff, shB, zqn, List.drop_zero, iD, zay, Nat.reduceAdd, zau, List.length_map, zc6, zpe, zll, zbu, zb8, zde, zcu, shD, gA, zc2, zbh, zbg, zhb, zea, zeb, zgb]
     have hf3 : ∀ t ∈ fs ++ [t3], t ∈ zbn ts3 := fun t ht => by
      rcases List.mem_append.1 ht with ht | ht
      ·exact zcs hp3 (hf2 t ht)
      ·rw [List.mem_singleton.1 ht]; exact hm3
     have hF3 : FsP V n.ins.length sh n.gates (j + 1) (fs ++ [t3]) := hF.snoc (hS3.row.okf hm3) hi3
     have hxl := jfd hS3.row hf3
     have hxe := zbc (zd1 (fs ++ [t3]))
     have hS3l := hS3.len
     unfold zed at hS3l
     refine hK32 _ _ ?_
     refine zbx hp (τ' := frL [(2, .d (zay nodes)), (6, .op 8 0), (11, .op 4 0), (99, .d (zbg n.gates)), (100, .d (iD n.gates.length)), (101, .d (iD j))]) (H' := zde ts3 μu3 μm3 n.ins.length sh (fs ++ [t3]) ++ [.cells (avs (zc2 n)), .cells [.d (.val (.slice none 0 0)), .d (.val (.slice none 0 0))]]) ?_ ?_
     ·refine Rt.trans (Rt.gc (keep := [0,1,2,3,4,11,6,7,8]) (by decide) (by decide) (by simp [])) ?_
      refine Rt.end (zaa (zaa (zaa (zaa (zaa (zaa (zae _) rfl) rfl) rfl) rfl) rfl) rfl) ?_
      simp only [zay, gcH, zbb, zcq, zap, zcb, gcV, Nat.reduceAdd, zcp, za2, zav, List.map_cons, List.map_nil, List.getD_cons_zero, List.getD_cons_succ, ↓reduceIte, Nat.reduceEqDiff, Option.map_some, List.cons_append, List.nil_append, zcq, zbu, zb8, zde, zcu, shD, zc2, zbh, zbg]; rw [List.map_append, ze0 hp3 hf2]; simp [avs, znx, iD]
     refine zbo zad hc mixed rfl (q := 0) (by kernel_rfl) (by kernel_rfl) fun K33 hK33 => ?_
     simp -dsimp -implicitDefEqProofs (disch := first | assumption | omega | (simp only [maxLen, List.length_replicate, eq_self, true_and, and_true, and_self, zah, List.length_map, List.length_append, List.length_cons, List.length_nil, List.length_set, List.length_range, List.length_take, List.length_drop, zca, zbq, zdt, zdk, zby, zbe, zjv, zss, zbc] <;> omega) | decide | fail) only [q_r, zam, zac, zdy, ↓reduceIte, Bool.false_eq_true, eq_self, zat, zcw, zb2, zdb, List.map_cons, List.map_nil, List.length_cons, List.length_nil, List.getElem?_cons_zero, List.getElem?_cons_succ, List.cons_append, List.nil_append, List.append_nil, List.replicate_zero, Nat.zero_add, Nat.add_zero, Nat.reduceEqDiff, iD, zay, Nat.reduceAdd, List.nil_append, zbu, zb8, zde, zcu, shD, zc2, zbh, zbg, zfn, zg1, zg2, zhb, zea, zeb]
     refine ji3 (zzl V ts3 μu3 μm3 hS3.row hS3.len (fs ++ [t3]) hf3 (by simp; omega)) ?_ ?_
     ·simp (disch := first | assumption | omega | (simp only [maxLen, List.length_replicate, eq_self, true_and, and_true, and_self, zah, List.length_map, List.length_append, List.length_cons, List.length_nil, List.length_set, List.length_range, List.length_take, List.length_drop, zca, zbq, zdt, zdk, zby, zbe, zjv, zss, zbc] <;> omega) | decide | fail) only [zce, za9, za7, zbt, zbl, zcg, zfj, Nat.reduceAdd, zax, Option.map_some, Option.bind_some, Nat.mul_one, List.getElem?_cons_zero, List.getElem?_cons_succ, zfk, zpo, zi6, zjl, zgl, zfk, zmf, jtc]
     simp -dsimp -implicitDefEqProofs (disch := first | omega | decide) only [q_r, zkz, zfs, zd6, zc1, zar, ↓reduceIte, killAll, Nat.reduceAdd, List.length_map, zfp, zdp, jk1, zcm]
     refine hK33 _ _ ?_
     refine zag rfl (fun ht => ?_) (fun ht => ?_)
     ·have hbig : 3000 < (zd1 (fs ++ [t3])).length := by simp at ht; omega
      refine zab hp zad hc rfl fun K34 hK34 => ?_
      simp -dsimp -implicitDefEqProofs (disch := first | omega | decide) only [q_r, zb7, za6, ↓reduceIte, AV.one, D.one, Value.oneCell', Nat.reduceEqDiff, Nat.reduceAdd, zvz, zc8, zvx]
      refine hK34 _ _ ?_
      refine zao ?_
      try dsimp only [zfd, zcc]
      refine zg0 rfl ?_
      simp -dsimp -implicitDefEqProofs (disch := first | assumption | omega | (simp [maxLen, zmh] <;> omega) | decide) only [q_r, zam, ↓reduceIte, Nat.reduceEqDiff, Nat.reduceAdd, zc8, zds]
      show ∃ r, zaj _ _ = some r ∧ _
      simp (disch := first | assumption | omega | (simp [maxLen, zmh] <;> omega) | decide) only [List.map_cons, List.map_nil, zaj, za1, zcr, za9, za7, Nat.reduceAdd, Nat.zero_add, D.fix, Option.map_some, Option.bind_some, List.length_cons, List.length_nil]
      exact ⟨_, rfl, .inl ⟨j + 1, fs ++ [t3], by omega, hF3, hbig, rfl⟩⟩
     ·have hsm : (zd1 (fs ++ [t3])).length ≤ 3000 := by simp at ht; omega
      refine zan (hK30 _ _ ?_)
      refine zbs hp zad hc rfl fun K35 hK35 => ?_
      simp -dsimp -implicitDefEqProofs (disch := first | assumption | omega | (simp [maxLen, zmh] <;> omega) | decide) only [q_r, ↓reduceIte, Nat.reduceEqDiff]
      have hx3 : ∀ q, q < j + 1 → (zd1 ((fs ++ [t3]).take (2 + n.ins.length + (q + 1)))).length ≤ 3000 := fun q hq => by
       by_cases hqj : q < j
       ·rw [zt8 (by omega)]; exact hx2 q hqj
       ·have : q = j := by omega
        subst this
        rw [List.take_of_length_le (by simp; omega)]; exact hsm
      refine hK35 _ _ ⟨_, _, _, ?_, ⟨j + 1, fs ++ [t3], ts3, μu3, μm3, ⟨by omega, hF3, hS3, hf3, by rw [Nat.succ_mul]; omega, hx3⟩, rfl, rfl, rfl⟩, ?_⟩
      ·first | omega | (simp only [List.length_cons]; omega) | (dsimp only; omega)
      ·refine Rt.trans (Rt.gc (keep := [0,1,2,3,4,5,6,7,8]) (by decide) (by decide) (by simp [])) ?_
       refine Rt.end (zaa (zaa (zaa (zaa (zaa (zaa (zae _) rfl) rfl) rfl) rfl) rfl) rfl) ?_
       first | rfl | (simp only [zay, gcH, zbb, zcq, zap, zcb, gcV, Nat.reduceAdd, zcp, za2, zav, List.map_cons, List.map_nil, List.getD_cons_zero, List.getD_cons_succ, ↓reduceIte, Nat.reduceEqDiff, Option.map_some, List.cons_append, List.nil_append, zcq, zbu, zb8, zde, zcu, shD, zc2, zbh, zbg]; first | done | rfl)
    ·have hjj : j = n.gates.length := by simp at ht; omega
     subst hjj
     have hFl := hF.len
     have hS2l := hS2.len
     unfold zed at hS2l
     have hroot : ∀ k, k < nodes.length → 0 ≤ nth nodes k ∧ nth nodes k < fs.length := fun k hk => by
      have := List.any_eq_false.1 hno _ (zcf hk)
      simp only [zh7, Bool.or_eq_true, decide_eq_true_eq, not_or] at this
      omega
     refine zbd (hK26 _ _ ?_)
     refine zab hp zad hc rfl fun K36 hK36 => ?_
     simp -dsimp -implicitDefEqProofs (disch := first | omega | decide) only [q_r]
     refine hK36 _ _ ?_
     refine zaf fun K37 hK37 => ?_
     refine zab hp zad hc rfl fun K38 hK38 => ?_
     simp -dsimp -implicitDefEqProofs (disch := first | omega | decide) only [q_r, zc1, zar, ↓reduceIte, Nat.reduceEqDiff, zc3]
     refine hK38 _ _ ?_
     refine zaq ?_
     refine za4 hp (fun τ' H' mm => ∃ (i : Nat), (i ≤ nodes.length) ∧ mm = nodes.length - i ∧ H' = zde ts2 μu2 μm2 n.ins.length sh fs ++ [.cells (avs (zc2 n)), .cells [.d (.val (.slice none 0 0)), .d (.val (.slice none 0 0))], .cells (avs (((zej fs nodes).take i).map (znx ts2)))] ∧ τ' = frL [(6, .op 8 0), (11, .op 4 0), (18, .os 1 9 0 i), (131, .d (zay nodes)), (132, .d (iD nodes.length)), (133, .d (iD i))]) (nodes.length) ?_ ⟨0, Nat.zero_le _, rfl, rfl, rfl⟩ ?_
     ·refine Rt.trans (Rt.nil 18 1 rfl) ?_
      refine Rt.trans (Rt.gc (keep := [0,1,2,3,4,5,6,7,8,9]) (by decide) (by decide) (by simp [])) ?_
      refine Rt.end (zaa (zaa (zaa (zaa (zaa (zaa (zae _) rfl) rfl) rfl) rfl) rfl) rfl) ?_
      first | rfl | (simp only [zay, gcH, zbb, zcq, zap, zcb, gcV, Nat.reduceAdd, zcp, za2, zav, List.map_cons, List.map_nil, List.getD_cons_zero, List.getD_cons_succ, ↓reduceIte, Nat.reduceEqDiff, Option.map_some, List.cons_append, List.nil_append, zcq, zbu, zb8, zde, zcu, shD, zc2, zbh, zbg]; first | done | rfl)
     rintro τ' H' mm ⟨i, hi, rfl, rfl, rfl⟩
     refine zab hp zad hc rfl fun K39 hK39 => ?_
     simp -dsimp -implicitDefEqProofs (disch := first | omega | decide) only [q_r, ↓reduceIte, Nat.reduceEqDiff, iD, zay, zbu, zb8, zde, zcu, shD, zc2, zbh, zbg]
     refine hK39 _ _ ?_
     refine zaf fun K40 hK40 => ?_
     refine zag rfl (fun ht => ?_) (fun ht => ?_)
     ·have hlt : i < nodes.length := by simp at ht; omega
      obtain ⟨r0, r1⟩ := hroot i hlt
      have hrl := zh2 fs nodes
      refine zan (hK40 _ _ ?_)
      refine zaf fun K41 hK41 => ?_
      refine zaq ?_
      refine zab hp zad hc rfl fun K42 hK42 => ?_
      simp -dsimp -implicitDefEqProofs (disch := first | omega | decide) only [q_r, zam, ixO, zai, ↓reduceIte, Int.toNat_natCast, Nat.reduceEqDiff, iD, zc3, zci, zcn]
      refine hK42 _ _ ?_
      refine zbs hp zad hc rfl fun K43 hK43 => ?_
      simp -dsimp -implicitDefEqProofs (disch := first | assumption | omega | (simp [maxLen, zmh] <;> omega) | decide) only [q_r, zau, zam, zac, ixO, zai, zb0, zic, zdy, ↓reduceIte, List.append_nil, List.replicate_zero, List.replicate_succ, and_true, Nat.reduceEqDiff, List.drop_zero, iD, Nat.reduceAdd, zau, List.length_map, znx, zhb, zea, zeb, zc3, zci, zcn, zgb]
      refine hK43 _ _ (hK41 _ _ ?_)
      refine zbs hp zad hc rfl fun K44 hK44 => ?_
      simp -dsimp -implicitDefEqProofs (disch := first | omega | decide) only [q_r, ↓reduceIte, Nat.reduceEqDiff]
      refine hK44 _ _ ⟨_, _, _, ?_, ⟨i + 1, by omega, rfl, rfl, rfl⟩, ?_⟩
      ·first | omega | (simp only [List.length_cons]; omega) | (dsimp only; omega)
      ·refine Rt.trans (Rt.gc (keep := [0,1,2,3,4,5,6,7,8,11]) (by decide) (by decide) (by simp [])) ?_
       refine Rt.end (zaa (zaa (zaa (zaa (zaa (zaa (zae _) rfl) rfl) rfl) rfl) rfl) rfl) ?_
       simp only [zay, gcH, zbb, zcq, zap, zcb, gcV, Nat.reduceAdd, zcp, za2, zav, List.map_cons, List.map_nil, List.getD_cons_zero, List.getD_cons_succ, ↓reduceIte, Nat.reduceEqDiff, Option.map_some, List.cons_append, List.nil_append, zcq, zbu, zb8, zde, zcu, shD, zc2, zbh, zbg]; rw [zel (l := zej fs nodes) (by omega)]; simp [avs, znx, iD, zej, zjj hlt]
     ·have hii : i = nodes.length := by simp at ht; omega
      subst hii
      rw [List.take_of_length_le (by rw [zh2]; exact Nat.le_refl _)]
      have hrl := zh2 fs nodes
      have hrm : ∀ t ∈ zej fs nodes, t ∈ zbn ts2 := fun t ht => by
       obtain ⟨k, hk, rfl⟩ := List.mem_map.1 ht
       obtain ⟨q, hq, rfl⟩ := List.getElem_of_mem hk
       obtain ⟨r0, r1⟩ := hroot q hq
       rw [zcd hq] at r0 r1
       exact hf2 _ (zcf (by omega))
      have hxr := jfd hS2.row hrm
      refine zbd (hK37 _ _ ?_)
      refine zab hp zad hc rfl fun K45 hK45 => ?_
      simp -dsimp -implicitDefEqProofs (disch := first | assumption | omega | (simp only [maxLen, List.length_replicate, eq_self, true_and, and_true, and_self, zah, List.length_map, List.length_append, List.length_cons, List.length_nil, List.length_set, List.length_range, List.length_take, List.length_drop, zca, zbq, zdt, zdk, zby, zbe, zjv, zss, zbc] <;> omega) | decide | fail) only [q_r, zam, zac, zdy, ↓reduceIte, Bool.false_eq_true, eq_self, zat, zcw, zb2, zdb, List.map_cons, List.map_nil, List.length_cons, List.length_nil, List.getElem?_cons_zero, List.getElem?_cons_succ, Nat.zero_add, Nat.add_zero, Nat.reduceEqDiff, Nat.reduceAdd, zfn, zg1, zg2]
      refine ji3 ((by have := zzl V ts2 μu2 μm2 hS2.row hS2.len (zej fs nodes) hrm (by omega); rw [zh2] at this; exact this)) ?_ ?_
      ·simp (disch := first | assumption | omega | (simp only [maxLen, List.length_replicate, eq_self, true_and, and_true, and_self, zah, List.length_map, List.length_append, List.length_cons, List.length_nil, List.length_set, List.length_range, List.length_take, List.length_drop, zca, zbq, zdt, zdk, zby, zbe, zjv, zss, zbc] <;> omega) | decide | fail) only [zce, za9, za7, zbt, zbl, zcg, zfj, Nat.reduceAdd, zax, Option.map_some, Option.bind_some, Nat.mul_one, List.getElem?_cons_zero, List.getElem?_cons_succ, zfk, zpo, zi6, zjl, zgl, zfk, zmf, jtc]
      simp -dsimp -implicitDefEqProofs (disch := first | omega | decide) only [q_r, za6, ↓reduceIte, D.one, Nat.reduceEqDiff, Nat.reduceAdd, List.length_map, zfp, zdp, zc8]
      refine hK45 _ _ ?_
      refine zao ?_
      try dsimp only [zfd, zcc]
      refine zg0 rfl ?_
      simp -dsimp -implicitDefEqProofs (disch := first | assumption | omega | (simp [maxLen, zmh] <;> omega) | decide) only [q_r, zam, ↓reduceIte, Nat.reduceEqDiff, Nat.reduceAdd, zc8, zds]
      show ∃ r, zaj _ _ = some r ∧ _
      simp (disch := first | omega | decide) only [List.map_cons, List.map_nil, zaj, za1, zcr, za9, za7, Nat.reduceAdd, Nat.zero_add, D.fix, Option.map_some, Option.bind_some, List.length_cons, List.length_nil]
      exact ⟨_, rfl, .inr ⟨fs, hF, hx2, by simp [jtb, zfp, zdp, iD]⟩⟩
end Go.Proofs.Ytgfnpfchdlcoeaa
