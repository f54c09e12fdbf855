/- Build, of a shape and nodes that are not refused. -/
import Derived.Test.YtignimmnnccblaaQr
import Derived.Test.YtignimmnnccblaaCh
set_option linter.unusedVariables false
set_option linter.unusedSimpArgs false
set_option maxRecDepth 100000
set_option maxHeartbeats 4000000
namespace Go.Proofs.Ytignimmnnccblaa
open Go Go.RowKit
theorem zdd : (((((((type_of% @zds) ∧ ((type_of% @zdt) ∧ (type_of% @zeg))) ∧ ((type_of% @zeh) ∧ ((type_of% @zju) ∧ (type_of% @zjt)))) ∧ (((type_of% @zcr) ∧ ((type_of% @zcs) ∧ (type_of% @ze4))) ∧ ((type_of% @ze5) ∧ ((type_of% @ze6) ∧ (type_of% @ze7))))) ∧ ((((type_of% @zex) ∧ ((type_of% @zey) ∧ (type_of% @zfa))) ∧ ((type_of% @zc6) ∧ ((type_of% @zc7) ∧ (type_of% @zfq)))) ∧ (((type_of% @zfr) ∧ ((type_of% @zfs) ∧ (type_of% @zft))) ∧ (((type_of% @jmn) ∧ (type_of% @jmm)) ∧ ((type_of% @zfu) ∧ (type_of% @zfv)))))) ∧ (((((type_of% @zfw) ∧ ((type_of% @zfx) ∧ (type_of% @zwv))) ∧ ((type_of% @zww) ∧ ((type_of% @zde) ∧ (type_of% @zdf)))) ∧ (((type_of% @zdg) ∧ ((type_of% @zdq) ∧ (type_of% @zy9))) ∧ ((type_of% @zza) ∧ ((type_of% @je4) ∧ (type_of% @je5))))) ∧ ((((type_of% @jjb) ∧ ((type_of% @zwz) ∧ (type_of% @zw0))) ∧ ((type_of% @zw3) ∧ ((type_of% @zw4) ∧ (type_of% @zoy)))) ∧ (((type_of% @zoz) ∧ ((type_of% @jja) ∧ (type_of% @ji9))) ∧ (((type_of% @zo0) ∧ (type_of% @zje)) ∧ ((type_of% @zjf) ∧ (type_of% @zjg))))))) ∧ ((((((type_of% @zgk) ∧ ((type_of% @zgl) ∧ (type_of% @zhv))) ∧ ((type_of% @zhu) ∧ ((type_of% @zgf) ∧ (type_of% @zgg)))) ∧ (((type_of% @zgh) ∧ ((type_of% @zjs) ∧ (type_of% @zw5))) ∧ ((type_of% @zw6) ∧ ((type_of% @zw7) ∧ (type_of% @zw8))))) ∧ ((((type_of% @zw9) ∧ ((type_of% @zxa) ∧ (type_of% @zxb))) ∧ ((type_of% @zxc) ∧ ((type_of% @jje) ∧ (type_of% @zxd)))) ∧ (((type_of% @zxg) ∧ ((type_of% @zxj) ∧ (type_of% @zjv))) ∧ (((type_of% @zjw) ∧ (type_of% @jjd)) ∧ ((type_of% @jjc) ∧ (type_of% @zjc)))))) ∧ (((((type_of% @zjd) ∧ ((type_of% @zja) ∧ (type_of% @zjb))) ∧ ((type_of% @zhs) ∧ ((type_of% @zht) ∧ (type_of% @zhq)))) ∧ (((type_of% @zhr) ∧ ((type_of% @zkr) ∧ (type_of% @zks))) ∧ ((type_of% @zkt) ∧ ((type_of% @zy5) ∧ (type_of% @zy4))))) ∧ ((((type_of% @zmm) ∧ ((type_of% @zmn) ∧ (type_of% @zh1))) ∧ ((type_of% @zh2) ∧ ((type_of% @zkv) ∧ (type_of% @zku)))) ∧ (((type_of% @zwx) ∧ ((type_of% @zwy) ∧ (type_of% @zgi))) ∧ (((type_of% @zgj) ∧ (type_of% @ji6)) ∧ ((type_of% @zwt) ∧ (type_of% @zwu)))))))) := ⟨⟨⟨⟨⟨⟨@zds, ⟨@zdt, @zeg⟩⟩, ⟨@zeh, ⟨@zju, @zjt⟩⟩⟩, ⟨⟨@zcr, ⟨@zcs, @ze4⟩⟩, ⟨@ze5, ⟨@ze6, @ze7⟩⟩⟩⟩, ⟨⟨⟨@zex, ⟨@zey, @zfa⟩⟩, ⟨@zc6, ⟨@zc7, @zfq⟩⟩⟩, ⟨⟨@zfr, ⟨@zfs, @zft⟩⟩, ⟨⟨@jmn, @jmm⟩, ⟨@zfu, @zfv⟩⟩⟩⟩⟩, ⟨⟨⟨⟨@zfw, ⟨@zfx, @zwv⟩⟩, ⟨@zww, ⟨@zde, @zdf⟩⟩⟩, ⟨⟨@zdg, ⟨@zdq, @zy9⟩⟩, ⟨@zza, ⟨@je4, @je5⟩⟩⟩⟩, ⟨⟨⟨@jjb, ⟨@zwz, @zw0⟩⟩, ⟨@zw3, ⟨@zw4, @zoy⟩⟩⟩, ⟨⟨@zoz, ⟨@jja, @ji9⟩⟩, ⟨⟨@zo0, @zje⟩, ⟨@zjf, @zjg⟩⟩⟩⟩⟩⟩, ⟨⟨⟨⟨⟨@zgk, ⟨@zgl, @zhv⟩⟩, ⟨@zhu, ⟨@zgf, @zgg⟩⟩⟩, ⟨⟨@zgh, ⟨@zjs, @zw5⟩⟩, ⟨@zw6, ⟨@zw7, @zw8⟩⟩⟩⟩, ⟨⟨⟨@zw9, ⟨@zxa, @zxb⟩⟩, ⟨@zxc, ⟨@jje, @zxd⟩⟩⟩, ⟨⟨@zxg, ⟨@zxj, @zjv⟩⟩, ⟨⟨@zjw, @jjd⟩, ⟨@jjc, @zjc⟩⟩⟩⟩⟩, ⟨⟨⟨⟨@zjd, ⟨@zja, @zjb⟩⟩, ⟨@zhs, ⟨@zht, @zhq⟩⟩⟩, ⟨⟨@zhr, ⟨@zkr, @zks⟩⟩, ⟨@zkt, ⟨@zy5, @zy4⟩⟩⟩⟩, ⟨⟨⟨@zmm, ⟨@zmn, @zh1⟩⟩, ⟨@zh2, ⟨@zkv, @zku⟩⟩⟩, ⟨⟨@zwx, ⟨@zwy, @zgi⟩⟩, ⟨⟨@zgj, @ji6⟩, ⟨@zwt, @zwu⟩⟩⟩⟩⟩⟩⟩
structure FsP (V ins : Nat) (sh : Sh) (gates : List Gate) (j : Nat) (fs : List T) : Prop where
 len : fs.length = 2 + ins + j
 ok : ∀ t ∈ fs, t.Ok V 0
 f0 : nth fs 0 = .leaf false
 f1 : nth fs 1 = .leaf true
 fv : ∀ v, v < ins → nth fs (2 + v) = zqn v
 fg : ∀ q, q < j → ∀ a, (nth fs (2 + ins + q)).eval a = ziw ins sh (fs.take (2 + ins + q)) (nth gates q) a
def vfs (v : Nat) : List T := .leaf false :: .leaf true :: (List.range v).map zqn
theorem zbg (v : Nat) : (vfs v).length = 2 + v := by simp [vfs]; omega
theorem zx2 (v : Nat) : vfs (v + 1) = vfs v ++ [zqn v] := by simp [vfs, List.range_succ]
theorem FsP.base {V ins : Nat} {sh : Sh} {gates : List Gate} (h : ins ≤ V) : FsP V ins sh gates 0 (vfs ins) := by
 refine ⟨by rw [zbg]; rfl, fun t ht => ?_, rfl, rfl, fun v hv => ?_, fun q hq => absurd hq (by omega)⟩
 ·simp only [vfs, List.mem_cons] at ht
  rcases ht with rfl | rfl | ht
  ·trivial
  ·trivial
  ·obtain ⟨v, hv, rfl⟩ := List.mem_map.1 ht
   have := List.mem_range.1 hv
   exact ⟨Nat.zero_le _, by omega, fun e => (by cases e), trivial, trivial⟩
 ·unfold vfs
  rw [zb9 (by simp; omega)]
  simp [Nat.add_comm 2 v]
theorem zqr {α : Type} {l m : List α} {k : Nat} (h : k ≤ l.length) : (l ++ m).take k = l.take k := List.take_append_of_le_length h
theorem FsP.snoc {V ins : Nat} {sh : Sh} {gates : List Gate} {j : Nat} {fs : List T} (h : FsP V ins sh gates j fs) {t : T} (ht : t.Ok V 0) (he : ∀ a, t.eval a = ziw ins sh fs (nth gates j) a) : FsP V ins sh gates (j + 1) (fs ++ [t]) := by
 have hl := h.len
 refine ⟨by simp; omega, fun s hs => ?_, by rw [zbs (by omega)]; exact h.f0, by rw [zbs (by omega)]; exact h.f1, fun v hv => by rw [zbs (by omega)]; exact h.fv v hv, fun q hq a => ?_⟩
 ·rcases List.mem_append.1 hs with hs | hs
  ·exact h.ok s hs
  ·rw [List.mem_singleton.1 hs]; exact ht
 ·by_cases hqj : q < j
  ·rw [zbs (by omega), zqr (by omega)]; exact h.fg q hqj a
  ·have : q = j := by omega
   subst this
   rw [← hl, zdw, zqr (Nat.le_refl _), List.take_length]; exact he a
def zf6 (fs : List T) (nodes : List Int) : List T := nodes.map fun k => nth fs k.toNat
def js8 (rs : List T) : D := zbt (zlp (zeq rs)) (rs.map (num (zeq rs)))
def BuK (V : Nat) (n : Net) (sh : Sh) (nodes : List Int) (r : AV) : Prop :=
 (∃ j fs, j ≤ n.gates.length ∧ FsP V n.ins.length sh n.gates j fs ∧ 3000 < (zeq fs).length ∧ r = .tup [.d (zbt [] []), .d (iD 2)]) ∨
 (∃ fs, FsP V n.ins.length sh n.gates n.gates.length fs ∧ (∀ q, q < n.gates.length → (zeq (fs.take (2 + n.ins.length + (q + 1)))).length ≤ 3000) ∧ r = .tup [.d (js8 (zf6 fs nodes)), .d (iD 0)])
theorem zky (fs : List T) (nodes : List Int) : (zf6 fs nodes).length = nodes.length := by simp [zf6]
theorem jug (ts fs : List T) : (fs.map (zb1 ts)).map D.fix = fs.map (zb1 ts) := zj6 (fun _ => rfl) fs
def zdh (ts : List T) (fst : List Nat) (sh : Sh) (fs : List T) : zar := [.cells [.op 0 0, .os 1 6 0 fst.length, .d (shD sh), .os 1 5 0 fs.length], .cells (avs (fs.map (zb1 ts))), .cells (avs (fst.map zbw))]
def shZ (sh : Sh) : List (Int × Int) := sh.map fun p => ((p.1 : Int), (p.2 : Int))
theorem js9 (sh : Sh) : shD sh = shI (shZ sh) := by
 unfold shD shI shZ
 rw [List.flatMap_map, List.length_map]; rfl
theorem jgj {sh : Sh} (h : ShOk sh) : (shZ sh).any jjx = false := by
 rw [List.any_eq_false]
 intro p hp
 obtain ⟨q, hq, rfl⟩ := List.mem_map.1 hp
 obtain ⟨k, hk, rfl⟩ := List.getElem_of_mem hq
 have := h.el k hk
 rw [zb9 hk] at this
 simp only [jjx, Bool.or_eq_true, decide_eq_true_eq, not_or]
 constructor <;> omega
theorem jgk : jco [] = [⟨1000, 0, 0⟩, ⟨1000, 0, 0⟩] := by decide
theorem MS.nil {V : Nat} (hV : V ≤ 900) : MS V [] ([], 0) ([], 0) := ⟨.nil V, ⟨OkM.nil _ _, fun t ht => (by cases ht), fun k u hg => (by cases hg)⟩, ⟨OkM.nil _ _, fun k u hg => (by cases hg)⟩, by decide, hV⟩
theorem zt7 (base : Nat) (sh : Sh) {i : Nat} (h : i < sh.length) : (znl base sh).take (i + 1) = (znl base sh).take i ++ [zbz base sh i] := by rw [zdy (by rw [zal]; exact h), zlm h]
theorem zqs {base : Nat} {sh : Sh} (h : ShOk sh) : ∀ {k : Nat}, k ≤ sh.length → zbz base sh k ≤ base + k * 64
 | 0, _ => by simp [zbz]
 | k + 1, hk => by
  have := zqs (base := base) h (k := k) (by omega)
  have h2 := h.el k (by omega)
  have h3 := Nat.mul_le_mul h2.1 h2.2
  rw [zf0 (by omega)]; omega
theorem jd1 {V : Nat} {ts fs : List T} (hr : RowOk V ts) (h : ∀ t ∈ fs, t ∈ zbq ts) : (zeq fs).length ≤ ts.length := by
 obtain ⟨h1, h2⟩ := jdy hr h
 exact zt5 h1 h2
theorem jlb (V : Nat) (n : Net) (sh : Sh) (nodes : List Int) (hsh : ShOk sh) (hV : zdm n.ins.length sh = V) (hV9 : V ≤ 900) (hgs : ∀ k, k < n.gates.length → GOp (2 + n.ins.length + k) (nth n.gates k)) (hno : nodes.any (znp (2 + n.ins.length + n.gates.length)) = false) (hnl : nodes.length ≤ 1000000) (hil : n.ins.length ≤ 1000) (hgl : n.gates.length ≤ 1000) (hB : n.ins.length + n.gates.length * (8 + 7 * 2 ^ V) + 32 * 2 ^ V ≤ zel) : RCalls Try.prog 48 [zas n, shD sh, intsD nodes] (BuK V n sh nodes) := by
 have hpos : 0 < 2 ^ V := Nat.two_pow_pos V
 have hB' := hB
 unfold zel at hB
 have hs8 := hsh.len
 have hiV : n.ins.length ≤ V := by rw [← hV]; have := zqo (base := n.ins.length) (sh := sh) (d := sh.length) (k := 0) (by omega); unfold zdm; simp [zbz] at this ⊢
 have q0 : decide ((8 : Int) < sh.length) = false := by simp; omega
 have hin := jgj hsh
 refine zd4 (fn := Try.f48) (by kernel_rfl) Try.func48 rfl (Nat.le_of_ble_eq_true rfl) fun c hc hp => ?_
 refine zbf (τ' := frL [(0, .d (zas n)), (1, .d (shD sh)), (2, .d (intsD nodes))]) (by repeat (first | exact zak _ | refine zah ?_ (by first | rfl | (simp [r_f, zai, zad, zag, zal, zab, zaa, zbg, zbi, zan, shD]; done) | simp [r_f, zai, zad, zag, zal, zab, zaa, zbg, zbi, zan, shD, *]))) ?_
 refine zac hp zaj hc rfl fun K1 hK1 => ?_
 simp -dsimp -implicitDefEqProofs (disch := first | assumption | omega | (simp only [r_z, zai, zad, zag, zal, zab, zaa, zbg, zbi, zan] <;> omega) | decide) only [r_r, ↓reduceIte, Nat.reduceEqDiff, Nat.reduceAdd, D.fix, Int.reduceToNat, Nat.reduceMul, Nat.reduceBNe, Nat.reduceBEq, r_m, zbe, zbh, zbl, zbk, zdh, shD, gA, zb1, zbw, zas, zax, zae, zaf, zav, zaw, zap, zdd]
 refine hK1 _ _ ?_
 refine zac hp zaj hc rfl fun K2 hK2 => ?_
 simp -dsimp -implicitDefEqProofs (disch := first | assumption | omega | (simp only [r_z, zai, zad, zag, zal, zab, zaa, zbg, zbi, zan] <;> omega) | decide) only [r_r, ↓reduceIte, Nat.reduceEqDiff, Nat.reduceAdd, D.fix, Int.reduceToNat, Nat.reduceMul, Nat.reduceBNe, Nat.reduceBEq, r_m, zbe, zbh, zbl, zbk, zdh, shD, gA, zb1, zbw, zas, zax, zae, zaf, zav, zaw, zap]
 refine hK2 _ _ ?_
 refine zac hp zaj hc rfl fun K3 hK3 => ?_
 simp -dsimp -implicitDefEqProofs (disch := first | assumption | omega | (simp only [r_z, zai, zad, zag, zal, zab, zaa, zbg, zbi, zan] <;> omega) | decide) only [r_r, ↓reduceIte, Nat.reduceEqDiff, Nat.reduceAdd, D.fix, Int.reduceToNat, Nat.reduceMul, Nat.reduceBNe, Nat.reduceBEq, r_m, zbe, zbh, zbl, zbk, zdh, shD, gA, zb1, zbw, zas, zax, zae, zaf, zav, zaw, zap, zdd]
 refine hK3 _ _ ?_
 refine zac hp zaj hc rfl fun K4 hK4 => ?_
 simp -dsimp -implicitDefEqProofs (disch := first | assumption | omega | (simp only [r_z, zai, zad, zag, zal, zab, zaa, zbg, zbi, zan] <;> omega) | decide) only [r_r, ↓reduceIte, Nat.reduceEqDiff, Nat.reduceAdd, D.fix, Int.reduceToNat, Nat.reduceMul, Nat.reduceBNe, Nat.reduceBEq, r_m, zbe, zbh, zbl, zbk, zdh, shD, gA, zb1, zbw, zas, zax, zae, zaf, zav, zaw, zap]
 refine hK4 _ _ ?_
 refine zam fun K5 hK5 => ?_
 refine zac hp zaj hc rfl fun K6 hK6 => ?_
 simp -dsimp -implicitDefEqProofs (disch := first | assumption | omega | (simp only [r_z, zai, zad, zag, zal, zab, zaa, zbg, zbi, zan] <;> omega) | decide) only [r_r, ↓reduceIte, Nat.reduceEqDiff, Nat.reduceAdd, D.fix, Int.reduceToNat, Nat.reduceMul, Nat.reduceBNe, Nat.reduceBEq, r_m, zbe, zbh, zbl, zbk, zdh, shD, gA, zb1, zbw, zas, zax, zae, zaf, zav, zaw, zap, q0, zdd]
 refine zb4 ((by have := zzc (shZ sh) (by unfold shZ maxLen; simp; omega); rw [← js9, hin] at this; exact this)) rfl ?_
 simp -dsimp -implicitDefEqProofs (disch := first | assumption | omega | (simp only [r_z, zai, zad, zag, zal, zab, zaa, zbg, zbi, zan] <;> omega) | decide) only [r_r, ↓reduceIte, Nat.reduceEqDiff, Nat.reduceAdd, D.fix, Int.reduceToNat, Nat.reduceMul, Nat.reduceBNe, Nat.reduceBEq, r_m, zbe, zbh, zbl, zbk, zdh, shD, gA, zb1, zbw, zas, zax, zae, zaf, zav, zaw, zap, q0, zdd]
 refine zfk ((by have := zzd nodes (2 + n.ins.length + n.gates.length) (by unfold maxLen; omega); rw [hno] at this; exact this)) ?_ ?_
 ·simp (disch := first | assumption | omega | (simp only [r_z, zai, zad, zag, zal, zab, zaa, zbg, zbi, zan] <;> omega) | decide) only [r_c, Nat.reduceAdd, D.fix, ↓reduceIte, Nat.reduceEqDiff, r_m, zbe, zbh, zbl, zbk, zdh, shD, gA, zb1, zbw, zas, zax, zae, zaf, zav, zaw, zap]
 simp -dsimp -implicitDefEqProofs (disch := first | assumption | omega | (simp only [r_z, zai, zad, zag, zal, zab, zaa, zbg, zbi, zan] <;> omega) | decide) only [r_r, ↓reduceIte, Nat.reduceEqDiff, Nat.reduceAdd, D.fix, Int.reduceToNat, Nat.reduceMul, Nat.reduceBNe, Nat.reduceBEq, r_m, zbe, zbh, zbl, zbk, zdh, shD, gA, zb1, zbw, zas, zax, zae, zaf, zav, zaw, zap, q0, zdd]
 refine hK6 _ _ ?_
 refine zaq rfl (fun ht => ?_) (fun ht => ?_)
 ·cases ht
 ·refine zay (hK5 _ _ ?_)
  refine zac hp zaj hc rfl fun K7 hK7 => ?_
  simp -dsimp -implicitDefEqProofs (disch := first | assumption | omega | (simp only [r_z, zai, zad, zag, zal, zab, zaa, zbg, zbi, zan] <;> omega) | decide) only [r_r, ↓reduceIte, Nat.reduceEqDiff, Nat.reduceAdd, D.fix, Int.reduceToNat, Nat.reduceMul, Nat.reduceBNe, Nat.reduceBEq, r_m, zbe, zbh, zbl, zbk, zdh, shD, gA, zb1, zbw, zas, zax, zae, zaf, zav, zaw, zap, zdd]
  refine jsw ⟨by kernel_rfl, _, _, Try.func65, rfl, Nat.le_of_ble_eq_true rfl, fun c107 hc107 => ?_⟩
  refine jk2 ?_
  refine zac (Kp.all c107) zaj hc107 rfl fun K108 hK108 => ?_
  simp -dsimp -implicitDefEqProofs (disch := first | assumption | omega | (simp only [r_z, zai, zad, zag, zal, zab, zaa, zbg, zbi, zan] <;> omega) | decide) only [r_r, ↓reduceIte, Nat.reduceEqDiff, Nat.reduceAdd, D.fix, Int.reduceToNat, Nat.reduceMul, Nat.reduceBNe, Nat.reduceBEq, r_m, zbe, zbh, zbl, zbk, zdh, shD, gA, zb1, zbw, zas, zax, zae, zaf, zav, zaw, zap]
  refine hK108 _ _ ?_
  refine zac (Kp.all c107) zaj hc107 rfl fun K109 hK109 => ?_
  simp -dsimp -implicitDefEqProofs (disch := first | assumption | omega | (simp only [r_z, zai, zad, zag, zal, zab, zaa, zbg, zbi, zan] <;> omega) | decide) only [r_r, ↓reduceIte, Nat.reduceEqDiff, Nat.reduceAdd, D.fix, Int.reduceToNat, Nat.reduceMul, Nat.reduceBNe, Nat.reduceBEq, r_m, zbe, zbh, zbl, zbk, zdh, shD, gA, zb1, zbw, zas, zax, zae, zaf, zav, zaw, zap, zdd]
  refine hK109 _ _ ?_
  refine zac (Kp.all c107) zaj hc107 rfl fun K110 hK110 => ?_
  simp -dsimp -implicitDefEqProofs (disch := first | assumption | omega | (simp only [r_z, zai, zad, zag, zal, zab, zaa, zbg, zbi, zan] <;> omega) | decide) only [r_r, ↓reduceIte, Nat.reduceEqDiff, Nat.reduceAdd, D.fix, Int.reduceToNat, Nat.reduceMul, Nat.reduceBNe, Nat.reduceBEq, r_m, zbe, zbh, zbl, zbk, zdh, shD, gA, zb1, zbw, zas, zax, zae, zaf, zav, zaw, zap, zdd]
  refine hK110 _ _ ?_
  refine za4 ?_
  refine zbp (t := 0) rfl ?_
  simp -dsimp -implicitDefEqProofs (disch := first | assumption | omega | (simp only [r_z, zai, zad, zag, zal, zab, zaa, zbg, zbi, zan] <;> omega) | decide) only [r_r, ↓reduceIte, Nat.reduceEqDiff, Nat.reduceAdd, D.fix, Int.reduceToNat, Nat.reduceMul, Nat.reduceBNe, Nat.reduceBEq, r_m, zbe, zbh, zbl, zbk, zdh, shD, gA, zb1, zbw, zas, zax, zae, zaf, zav, zaw, zap, zdd]
  refine hK7 _ _ ?_
  refine zam fun K8 hK8 => ?_
  refine zac hp zaj hc rfl fun K9 hK9 => ?_
  simp -dsimp -implicitDefEqProofs (disch := first | assumption | omega | (simp only [r_z, zai, zad, zag, zal, zab, zaa, zbg, zbi, zan] <;> omega) | decide) only [r_r, ↓reduceIte, Nat.reduceEqDiff, Nat.reduceAdd, D.fix, Int.reduceToNat, Nat.reduceMul, Nat.reduceBNe, Nat.reduceBEq, r_m, zbe, zbh, zbl, zbk, zdh, shD, gA, zb1, zbw, zas, zax, zae, zaf, zav, zaw, zap, zdd]
  refine hK9 _ _ ?_
  refine zaz ?_
  refine za7 hp (fun τ' H' mm => ∃ (v : Nat) (ts : List T) (μu μm : Mp), (v ≤ n.ins.length ∧ MS V ts μu μm ∧ ts.length ≤ v ∧ ∀ t ∈ vfs v, t ∈ zbq ts) ∧ mm = n.ins.length - v ∧ H' = zbe ts μu μm ++ zdh ts [] sh (vfs v) ++ [.cells (avs (zax n)), .cells [.d (.val (.slice none 0 0)), .d (.val (.slice none 0 0))]] ∧ τ' = frL [(1, .d (shD sh)), (2, .d (intsD nodes)), (3, .op 7 0), (6, .op 8 0), (11, .op 4 0), (51, .d (iD n.ins.length)), (52, .d (iD v))]) (n.ins.length) ?_ ⟨0, [], ([], 0), ([], 0), ⟨Nat.zero_le _, MS.nil hV9, Nat.zero_le _, fun t ht => ht⟩, rfl, rfl, rfl⟩ ?_
  ·refine Rt.trans (Rt.nilc 8 1 1 rfl rfl) ?_
   refine Rt.trans (Rt.gc (keep := [6,4,5,3,8,7,9,0,1]) (by decide) (by decide) (by simp [fzH, gcH])) ?_
   refine Rt.end (by repeat (first | exact zak _ | refine zah ?_ (by first | rfl | (simp [r_f, zai, zad, zag, zal, zab, zaa, zbg, zbi, zan, shD]; done) | simp [r_f, zai, zad, zag, zal, zab, zaa, zbg, zbi, zan, shD, *]))) ?_
   simp only [r_g, Nat.reduceAdd, ↓reduceIte, Nat.reduceEqDiff, r_m, zbe, zbh, zbl, zbk, zdh, shD, gA, zb1, zbw, zas, zax, zae, zaf, zav, zaw, zap]; first | done | rfl | (rw [jgk]; rfl)
  rintro τ' H' mm ⟨v, ts, μu, μm, ⟨hv, hS, htl, hfs⟩, rfl, rfl, rfl⟩
  refine zac hp zaj hc rfl fun K10 hK10 => ?_
  simp -dsimp -implicitDefEqProofs (disch := first | assumption | omega | (simp only [r_z, zai, zad, zag, zal, zab, zaa, zbg, zbi, zan] <;> omega) | decide) only [r_r, ↓reduceIte, Nat.reduceEqDiff, Nat.reduceAdd, D.fix, Int.reduceToNat, Nat.reduceMul, Nat.reduceBNe, Nat.reduceBEq, r_m, zbe, zbh, zbl, zbk, zdh, shD, gA, zb1, zbw, zas, zax, zae, zaf, zav, zaw, zap, zdd]
  refine hK10 _ _ ?_
  refine zam fun K11 hK11 => ?_
  refine zaq rfl (fun ht => ?_) (fun ht => ?_)
  ·have hlt : v < n.ins.length := by simp at ht; omega
   refine zay (hK11 _ _ ?_)
   refine zam fun K12 hK12 => ?_
   refine zaz ?_
   refine zac hp zaj hc rfl fun K13 hK13 => ?_
   simp -dsimp -implicitDefEqProofs (disch := first | assumption | omega | (simp only [r_z, zai, zad, zag, zal, zab, zaa, zbg, zbi, zan] <;> omega) | decide) only [r_r, ↓reduceIte, Nat.reduceEqDiff, Nat.reduceAdd, D.fix, Int.reduceToNat, Nat.reduceMul, Nat.reduceBNe, Nat.reduceBEq, r_m, zbe, zbh, zbl, zbk, zdh, shD, gA, zb1, zbw, zas, zax, zae, zaf, zav, zaw, zap]
   refine hK13 _ _ ?_
   refine znf zaj hp hc mixed rfl [(0, []), (1, []), (2, []), (3, []), (4, []), (5, []), (6, []), (7, []), (8, []), (9, []), (10, [4]), (11, []), (12, []), (13, []), (14, []), (15, [])] [[], [], [1], [1, 2], [1, 2, 3], [], [5], [5, 6], [5, 6, 7], [], [5, 6, 7, 8, 9], [5, 6, 7, 8, 9, 10], [1, 2, 3, 4, 5, 6, 7, 8, 9, 10, 11], [0, 1, 2, 3, 4, 5, 6, 7, 8, 9, 10, 11, 12], [0, 1, 2, 3, 4, 5, 6, 7, 8, 9, 10, 11, 12, 13], [0, 1, 2, 3, 4, 5, 6, 7, 8, 9, 10, 11, 12, 13, 14]] 1 (by kernel_rfl) fun K14 hK14 => ?_
   simp -dsimp -implicitDefEqProofs (disch := first | assumption | omega | (simp only [r_z, zai, zad, zag, zal, zab, zaa, zbg, zbi, zan] <;> omega) | decide) only [r_r, ↓reduceIte, Nat.reduceEqDiff, Nat.reduceAdd, D.fix, Int.reduceToNat, Nat.reduceMul, Nat.reduceBNe, Nat.reduceBEq, r_w, r_m, zbe, zbh, zbl, zbk, zdh, shD, gA, zb1, zbw, zas, zax, zae, zaf, zav, zaw, zap, zdd]
   refine znh (S := zbe ts μu μm) (T := zdh ts [] sh (vfs v) ++ [.cells (avs (zax n)), .cells [.d (.val (.slice none 0 0)), .d (.val (.slice none 0 0))], .free]) (jq4 (v := v) hS (by omega) (by unfold zel; omega) rfl) rfl (Nat.le_of_ble_eq_true rfl) (by first | rfl | (simp [AV.allIs, AV.allI, za1, zat, zau, okI, ltI, zao, zbb, zbe, zbh, zdh, zbk, zbl, gA]; done) | (intro o ho; simp at ho; done)) (fun t => zbr (by first | rfl | (simp [AV.allIs, AV.allI, za1, zat, zau, okI, ltI, zao, zbb, zbe, zbh, zdh, zbk, zbl, gA]; done) | (intro o ho; simp at ho; done)) t) (fun t => zbr (by first | rfl | (simp [AV.allIs, AV.allI, za1, zat, zau, okI, ltI, zao, zbb, zbe, zbh, zdh, zbk, zbl, gA]; done) | (intro o ho; simp at ho; done)) t) (by first | rfl | (simp [AV.allIs, AV.allI, za1, zat, zau, okI, ltI, zao, zbb, zbe, zbh, zdh, zbk, zbl, gA]; done) | (intro o ho; simp at ho; done)) (by first | rfl | (simp [AV.allIs, AV.allI, za1, zat, zau, okI, ltI, zao, zbb, zbe, zbh, zdh, zbk, zbl, gA]; done) | (intro o ho; simp at ho; done)) (by first | rfl | (simp [AV.allIs, AV.allI, za1, zat, zau, okI, ltI, zao, zbb, zbe, zbh, zdh, zbk, zbl, gA]; done) | (intro o ho; simp at ho; done)) ?_
   rintro _ _ ⟨ts2, μu2, rfl, rfl, hS2, hp2, hl2, hm2⟩
   refine ⟨rfl, ?_⟩
   simp -dsimp -implicitDefEqProofs (disch := first | assumption | omega | (simp only [r_z, zai, zad, zag, zal, zab, zaa, zbg, zbi, zan] <;> omega) | decide) only [r_r, ↓reduceIte, Nat.reduceEqDiff, Nat.reduceAdd, D.fix, Int.reduceToNat, Nat.reduceMul, Nat.reduceBNe, Nat.reduceBEq, r_w, r_m, zbe, zbh, zbl, zbk, zdh, shD, gA, zb1, zbw, zas, zax, zae, zaf, zav, zaw, zap, zdd]
   refine hK14 _ _ (hK12 _ _ ?_)
   refine zbo hp zaj hc rfl fun K15 hK15 => ?_
   simp -dsimp -implicitDefEqProofs (disch := first | assumption | omega | (simp only [r_z, zai, zad, zag, zal, zab, zaa, zbg, zbi, zan] <;> omega) | decide) only [r_r, ↓reduceIte, Nat.reduceEqDiff, Nat.reduceAdd, D.fix, Int.reduceToNat, Nat.reduceMul, Nat.reduceBNe, Nat.reduceBEq, r_m, zbe, zbh, zbl, zbk, zdh, shD, gA, zb1, zbw, zas, zax, zae, zaf, zav, zaw, zap, zdd]
   have hfs2 : ∀ t ∈ vfs (v + 1), t ∈ zbq ts2 := fun t ht => by
    rw [zx2] at ht
    rcases List.mem_append.1 ht with ht | ht
    ·exact zcb hp2 (hfs t ht)
    ·rw [List.mem_singleton.1 ht]; exact hm2
   refine hK15 _ _ ⟨_, _, _, ?_, ⟨v + 1, ts2, μu2, μm, ⟨by omega, hS2, by omega, hfs2⟩, rfl, rfl, rfl⟩, ?_⟩
   ·first | omega | (simp only [List.length_cons]; omega) | (dsimp only; omega)
   ·refine Rt.trans (Rt.gc (keep := [0,1,2,3,4,10,6,7,8]) (by decide) (by decide) (by simp [fzH, gcH])) ?_
    refine Rt.end (by repeat (first | exact zak _ | refine zah ?_ (by first | rfl | (simp [r_f, zai, zad, zag, zal, zab, zaa, zbg, zbi, zan, shD]; done) | simp [r_f, zai, zad, zag, zal, zab, zaa, zbg, zbi, zan, shD, *]))) ?_
    simp only [r_g, Nat.reduceAdd, ↓reduceIte, Nat.reduceEqDiff, r_m, zbe, zbh, zbl, zbk, zdh, shD, gA, zb1, zbw, zas, zax, zae, zaf, zav, zaw, zap]; rw [zx2, List.map_append, zdz hp2 hfs]; simp [avs, zb1, iD, zbg]
  ·have hvv : v = n.ins.length := by simp at ht; omega
   subst hvv
   refine zbj (hK8 _ _ ?_)
   refine zac hp zaj hc rfl fun K16 hK16 => ?_
   simp -dsimp -implicitDefEqProofs (disch := first | assumption | omega | (simp only [r_z, zai, zad, zag, zal, zab, zaa, zbg, zbi, zan] <;> omega) | decide) only [r_r, ↓reduceIte, Nat.reduceEqDiff, Nat.reduceAdd, D.fix, Int.reduceToNat, Nat.reduceMul, Nat.reduceBNe, Nat.reduceBEq, r_m, zbe, zbh, zbl, zbk, zdh, shD, gA, zb1, zbw, zas, zax, zae, zaf, zav, zaw, zap, zdd]
   refine hK16 _ _ ?_
   refine zam fun K17 hK17 => ?_
   refine zac hp zaj hc rfl fun K18 hK18 => ?_
   simp -dsimp -implicitDefEqProofs (disch := first | assumption | omega | (simp only [r_z, zai, zad, zag, zal, zab, zaa, zbg, zbi, zan] <;> omega) | decide) only [r_r, ↓reduceIte, Nat.reduceEqDiff, Nat.reduceAdd, D.fix, Int.reduceToNat, Nat.reduceMul, Nat.reduceBNe, Nat.reduceBEq, r_m, zbe, zbh, zbl, zbk, zdh, shD, gA, zb1, zbw, zas, zax, zae, zaf, zav, zaw, zap, zdd]
   refine hK18 _ _ ?_
   refine zaz ?_
   refine za7 hp (fun τ' H' mm => ∃ (i : Nat) (fst : List Nat), (i ≤ sh.length ∧ fst = (znl n.ins.length sh).take i) ∧ mm = sh.length - i ∧ H' = zbe ts μu μm ++ zdh ts fst sh (vfs n.ins.length) ++ [.cells (avs (zax n)), .cells [.d (.val (.slice none 0 0)), .d (.val (.slice none 0 0))]] ∧ τ' = frL [(2, .d (intsD nodes)), (3, .op 7 0), (6, .op 8 0), (11, .op 4 0), (13, .d (iD (zbz n.ins.length sh i))), (74, .d (shD sh)), (75, .d (iD sh.length)), (76, .d (iD i))]) (sh.length) ?_ ⟨0, [], ⟨Nat.zero_le _, rfl⟩, rfl, rfl, rfl⟩ ?_
   ·refine Rt.trans (Rt.gc (keep := [0,1,2,3,4,5,6,7,8]) (by decide) (by decide) (by simp [fzH, gcH])) ?_
    refine Rt.end (by repeat (first | exact zak _ | refine zah ?_ (by first | rfl | (simp [r_f, zai, zad, zag, zal, zab, zaa, zbg, zbi, zan, shD]; done) | simp [r_f, zai, zad, zag, zal, zab, zaa, zbg, zbi, zan, shD, *]))) ?_
    first | rfl | (simp only [r_g, Nat.reduceAdd, ↓reduceIte, Nat.reduceEqDiff, r_m, zbe, zbh, zbl, zbk, zdh, shD, gA, zb1, zbw, zas, zax, zae, zaf, zav, zaw, zap]; first | done | rfl)
   rintro τ' H' mm ⟨i, fst, ⟨hi, hfst⟩, rfl, rfl, rfl⟩
   refine zac hp zaj hc rfl fun K19 hK19 => ?_
   simp -dsimp -implicitDefEqProofs (disch := first | assumption | omega | (simp only [r_z, zai, zad, zag, zal, zab, zaa, zbg, zbi, zan] <;> omega) | decide) only [r_r, ↓reduceIte, Nat.reduceEqDiff, Nat.reduceAdd, D.fix, Int.reduceToNat, Nat.reduceMul, Nat.reduceBNe, Nat.reduceBEq, r_m, zbe, zbh, zbl, zbk, zdh, shD, gA, zb1, zbw, zas, zax, zae, zaf, zav, zaw, zap, zdd]
   refine hK19 _ _ ?_
   refine zam fun K20 hK20 => ?_
   refine zaq rfl (fun ht => ?_) (fun ht => ?_)
   ·have hlt : i < sh.length := by simp at ht; omega
    have hfl : fst.length = i := by rw [hfst, List.length_take, zal]; omega
    have fb := zqs (base := n.ins.length) hsh (k := i) (by omega)
    have hel := hsh.el i hlt
    have hib : ((nth sh i).1 : Int) * ((nth sh i).2 : Int) ≤ 64 := by
     have := Nat.mul_le_mul hel.1 hel.2
     omega
    have hib0 : 0 ≤ ((nth sh i).1 : Int) * ((nth sh i).2 : Int) := by
     have : (((nth sh i).1 * (nth sh i).2 : Nat) : Int) = ((nth sh i).1 : Int) * ((nth sh i).2 : Int) := by simp
     omega
    have hfs1 : (zbz n.ins.length sh (i + 1) : Int) = (zbz n.ins.length sh i : Int) + ((nth sh i).1 : Int) * ((nth sh i).2 : Int) := by rw [zf0 hlt]; simp
    refine zay (hK20 _ _ ?_)
    refine zam fun K21 hK21 => ?_
    refine zaz ?_
    refine zac hp zaj hc rfl fun K22 hK22 => ?_
    simp -dsimp -implicitDefEqProofs (disch := first | assumption | omega | (simp only [r_z, zai, zad, zag, zal, zab, zaa, zbg, zbi, zan] <;> omega) | decide) only [r_r, ↓reduceIte, Nat.reduceEqDiff, Nat.reduceAdd, D.fix, Int.reduceToNat, Nat.reduceMul, Nat.reduceBNe, Nat.reduceBEq, r_m, zbe, zbh, zbl, zbk, zdh, shD, gA, zb1, zbw, zas, zax, zae, zaf, zav, zaw, zap, jjs, jmr, shC, zdd]
    refine hK22 _ _ ?_
    refine zac hp zaj hc rfl fun K23 hK23 => ?_
    simp -dsimp -implicitDefEqProofs (disch := first | assumption | omega | (simp only [r_z, zai, zad, zag, zal, zab, zaa, zbg, zbi, zan] <;> omega) | decide) only [r_r, ↓reduceIte, Nat.reduceEqDiff, Nat.reduceAdd, D.fix, Int.reduceToNat, Nat.reduceMul, Nat.reduceBNe, Nat.reduceBEq, r_m, zbe, zbh, zbl, zbk, zdh, shD, gA, zb1, zbw, zas, zax, zae, zaf, zav, zaw, zap, zdd]
    refine hK23 _ _ ?_
    refine zbo hp zaj hc rfl fun K24 hK24 => ?_
    simp -dsimp -implicitDefEqProofs (disch := first | assumption | omega | (simp only [r_z, zai, zad, zag, zal, zab, zaa, zbg, zbi, zan] <;> omega) | decide) only [r_r, ↓reduceIte, Nat.reduceEqDiff, Nat.reduceAdd, D.fix, Int.reduceToNat, Nat.reduceMul, Nat.reduceBNe, Nat.reduceBEq, r_m, zbe, zbh, zbl, zbk, zdh, shD, gA, zb1, zbw, zas, zax, zae, zaf, zav, zaw, zap, zdd]
    refine hK24 _ _ (hK21 _ _ ?_)
    refine zbo hp zaj hc rfl fun K25 hK25 => ?_
    simp -dsimp -implicitDefEqProofs (disch := first | assumption | omega | (simp only [r_z, zai, zad, zag, zal, zab, zaa, zbg, zbi, zan] <;> omega) | decide) only [r_r, ↓reduceIte, Nat.reduceEqDiff, Nat.reduceAdd, D.fix, Int.reduceToNat, Nat.reduceMul, Nat.reduceBNe, Nat.reduceBEq, r_m, zbe, zbh, zbl, zbk, zdh, shD, gA, zb1, zbw, zas, zax, zae, zaf, zav, zaw, zap, zdd]
    refine hK25 _ _ ⟨_, _, _, ?_, ⟨i + 1, fst ++ [zbz n.ins.length sh i], ⟨by omega, by rw [hfst, zt7 _ _ hlt]⟩, rfl, rfl, rfl⟩, ?_⟩
    ·first | omega | (simp only [List.length_cons]; omega) | (dsimp only; omega)
    ·refine Rt.trans (Rt.gc (keep := [0,1,2,3,4,5,11,7,8]) (by decide) (by decide) (by simp [fzH, gcH])) ?_
     refine Rt.end (by repeat (first | exact zak _ | refine zah ?_ (by first | rfl | (simp [r_f, zai, zad, zag, zal, zab, zaa, zbg, zbi, zan, shD]; done) | simp [r_f, zai, zad, zag, zal, zab, zaa, zbg, zbi, zan, shD, *]))) ?_
     simp only [r_g, Nat.reduceAdd, ↓reduceIte, Nat.reduceEqDiff, r_m, zbe, zbh, zbl, zbk, zdh, shD, gA, zb1, zbw, zas, zax, zae, zaf, zav, zaw, zap]; simp [avs, zbw, iD]
   ·have hii : i = sh.length := by simp at ht; omega
    subst hii
    rw [List.take_of_length_le (by rw [zal]; exact Nat.le_refl _)] at hfst
    subst hfst
    refine zbj (hK17 _ _ ?_)
    refine zam fun K26 hK26 => ?_
    refine zac hp zaj hc rfl fun K27 hK27 => ?_
    simp -dsimp -implicitDefEqProofs (disch := first | assumption | omega | (simp only [r_z, zai, zad, zag, zal, zab, zaa, zbg, zbi, zan] <;> omega) | decide) only [r_r, ↓reduceIte, Nat.reduceEqDiff, Nat.reduceAdd, D.fix, Int.reduceToNat, Nat.reduceMul, Nat.reduceBNe, Nat.reduceBEq, r_m, zbe, zbh, zbl, zbk, zdh, shD, gA, zb1, zbw, zas, zax, zae, zaf, zav, zaw, zap, zdd]
    refine hK27 _ _ ?_
    refine zaz ?_
    refine za7 hp (fun τ' H' mm => ∃ (j : Nat) (fs : List T) (ts2 : List T) (μu2 μm2 : Mp), (j ≤ n.gates.length ∧ FsP V n.ins.length sh n.gates j fs ∧ MS V ts2 μu2 μm2 ∧ (∀ t ∈ fs, t ∈ zbq ts2) ∧ ts2.length ≤ n.ins.length + j * (8 + 7 * 2 ^ V) ∧ ∀ q, q < j → (zeq (fs.take (2 + n.ins.length + (q + 1)))).length ≤ 3000) ∧ mm = n.gates.length - j ∧ H' = zbl ts2 μu2 μm2 n.ins.length sh fs ++ [.cells (avs (zax n)), .cells [.d (.val (.slice none 0 0)), .d (.val (.slice none 0 0))]] ∧ τ' = frL [(2, .d (intsD nodes)), (6, .op 8 0), (11, .op 4 0), (99, .d (zaf n.gates)), (100, .d (iD n.gates.length)), (101, .d (iD j))]) (n.gates.length) ?_ ⟨0, vfs n.ins.length, ts, μu, μm, ⟨Nat.zero_le _, FsP.base hiV, hS, hfs, by omega, fun q hq => absurd hq (by omega)⟩, rfl, rfl, rfl⟩ ?_
    ·refine Rt.trans (Rt.gc (keep := [0,1,2,3,4,5,6,7,8]) (by decide) (by decide) (by simp [fzH, gcH])) ?_
     refine Rt.end (by repeat (first | exact zak _ | refine zah ?_ (by first | rfl | (simp [r_f, zai, zad, zag, zal, zab, zaa, zbg, zbi, zan, shD]; done) | simp [r_f, zai, zad, zag, zal, zab, zaa, zbg, zbi, zan, shD, *]))) ?_
     simp only [r_g, Nat.reduceAdd, ↓reduceIte, Nat.reduceEqDiff, r_m, zbe, zbh, zbl, zbk, zdh, shD, gA, zb1, zbw, zas, zax, zae, zaf, zav, zaw, zap]; first | done | rfl | (simp [zal]; done)
    rintro τ' H' mm ⟨j, fs, ts2, μu2, μm2, ⟨hj, hF, hS2, hf2, hl2, hx2⟩, rfl, rfl, rfl⟩
    refine zac hp zaj hc rfl fun K28 hK28 => ?_
    simp -dsimp -implicitDefEqProofs (disch := first | assumption | omega | (simp only [r_z, zai, zad, zag, zal, zab, zaa, zbg, zbi, zan] <;> omega) | decide) only [r_r, ↓reduceIte, Nat.reduceEqDiff, Nat.reduceAdd, D.fix, Int.reduceToNat, Nat.reduceMul, Nat.reduceBNe, Nat.reduceBEq, r_m, zbe, zbh, zbl, zbk, zdh, shD, gA, zb1, zbw, zas, zax, zae, zaf, zav, zaw, zap, zdd]
    refine hK28 _ _ ?_
    refine zam fun K29 hK29 => ?_
    refine zaq rfl (fun ht => ?_) (fun ht => ?_)
    ·have hlt : j < n.gates.length := by simp at ht; omega
     have hFl := hF.len
     have hg : GOp fs.length (nth n.gates j) := by rw [hFl]; have := hgs j hlt; simpa using this
     have hjb : j * (8 + 7 * 2 ^ V) + (8 + 7 * 2 ^ V) ≤ n.gates.length * (8 + 7 * 2 ^ V) := by
      rw [← Nat.succ_mul]; exact Nat.mul_le_mul_right _ hlt
     refine zay (hK29 _ _ ?_)
     refine zam fun K30 hK30 => ?_
     refine zaz ?_
     refine zac hp zaj hc rfl fun K31 hK31 => ?_
     simp -dsimp -implicitDefEqProofs (disch := first | assumption | omega | (simp only [r_z, zai, zad, zag, zal, zab, zaa, zbg, zbi, zan] <;> omega) | decide) only [r_r, ↓reduceIte, Nat.reduceEqDiff, Nat.reduceAdd, D.fix, Int.reduceToNat, Nat.reduceMul, Nat.reduceBNe, Nat.reduceBEq, r_m, zbe, zbh, zbl, zbk, zdh, shD, gA, zb1, zbw, zas, zax, zae, zaf, zav, zaw, zap, zdd]
     refine hK31 _ _ ?_
     refine zd5 zaj hp hc mixed rfl [(0, []), (1, []), (2, []), (3, []), (4, []), (5, []), (6, []), (7, [4]), (8, []), (9, []), (10, []), (11, []), (12, [])] [[], [], [1], [1, 2], [1, 2, 3], [], [], [5, 6], [5, 6, 7], [1, 2, 3, 4, 5, 6, 7, 8], [0, 1, 2, 3, 4, 5, 6, 7, 8, 9], [0, 1, 2, 3, 4, 5, 6, 7, 8, 9, 10], [0, 1, 2, 3, 4, 5, 6, 7, 8, 9, 10, 11]] 1 (by kernel_rfl) fun K32 hK32 => ?_
     simp -dsimp -implicitDefEqProofs (disch := first | assumption | omega | (simp only [r_z, zai, zad, zag, zal, zab, zaa, zbg, zbi, zan] <;> omega) | decide) only [r_r, ↓reduceIte, Nat.reduceEqDiff, Nat.reduceAdd, D.fix, Int.reduceToNat, Nat.reduceMul, Nat.reduceBNe, Nat.reduceBEq, r_w, r_m, zbe, zbh, zbl, zbk, zdh, shD, gA, zb1, zbw, zas, zax, zae, zaf, zav, zaw, zap, zdd]
     refine znh (S := zbl ts2 μu2 μm2 n.ins.length sh fs) (T := [.cells (avs (zax n)), .cells [.d (.val (.slice none 0 0)), .d (.val (.slice none 0 0))], .cells (gA (nth n.gates j)), .free]) (jq6 V n.ins.length sh fs ts2 μu2 μm2 (nth n.gates j) hS2 hsh (Nat.le_of_eq hV) hf2 (by omega) hg (by unfold zel; omega)) rfl (Nat.le_of_ble_eq_true rfl) (by first | rfl | (simp [AV.allIs, AV.allI, za1, zat, zau, okI, ltI, zao, zbb, zbe, zbh, zdh, zbk, zbl, gA]; done) | (intro o ho; simp at ho; done)) (fun t => zbr (by first | rfl | (simp [AV.allIs, AV.allI, za1, zat, zau, okI, ltI, zao, zbb, zbe, zbh, zdh, zbk, zbl, gA]; done) | (intro o ho; simp at ho; done)) t) (fun t => zbr (by first | rfl | (simp [AV.allIs, AV.allI, za1, zat, zau, okI, ltI, zao, zbb, zbe, zbh, zdh, zbk, zbl, gA]; done) | (intro o ho; simp at ho; done)) t) (by first | rfl | (simp [AV.allIs, AV.allI, za1, zat, zau, okI, ltI, zao, zbb, zbe, zbh, zdh, zbk, zbl, gA]; done) | (intro o ho; simp at ho; done)) (by first | rfl | (simp [AV.allIs, AV.allI, za1, zat, zau, okI, ltI, zao, zbb, zbe, zbh, zdh, zbk, zbl, gA]; done) | (intro o ho; simp at ho; done)) (by first | rfl | (simp [AV.allIs, AV.allI, za1, zat, zau, okI, ltI, zao, zbb, zbe, zbh, zdh, zbk, zbl, gA]; done) | (intro o ho; simp at ho; done)) ?_
     rintro _ _ ⟨ts3, μu3, μm3, t3, rfl, rfl, hS3, hp3, hl3, hm3, hi3⟩
     refine ⟨rfl, ?_⟩
     simp -dsimp -implicitDefEqProofs (disch := first | assumption | omega | (simp only [r_z, zai, zad, zag, zal, zab, zaa, zbg, zbi, zan] <;> omega) | decide) only [r_r, ↓reduceIte, Nat.reduceEqDiff, Nat.reduceAdd, D.fix, Int.reduceToNat, Nat.reduceMul, Nat.reduceBNe, Nat.reduceBEq, r_w, r_m, zbe, zbh, zbl, zbk, zdh, shD, gA, zb1, zbw, zas, zax, zae, zaf, zav, zaw, zap, zdd]
     have hf3 : ∀ t ∈ fs ++ [t3], t ∈ zbq ts3 := fun t ht => by
      rcases List.mem_append.1 ht with ht | ht
      ·exact zcb hp3 (hf2 t ht)
      ·rw [List.mem_singleton.1 ht]; exact hm3
     have hF3 : FsP V n.ins.length sh n.gates (j + 1) (fs ++ [t3]) := hF.snoc (hS3.row.okf hm3) hi3
     have hxl := jd1 hS3.row hf3
     have hxe := zan (zeq (fs ++ [t3]))
     have hS3l := hS3.len
     unfold zel at hS3l
     refine hK32 _ _ ?_
     refine zb2 hp (τ' := frL [(2, .d (intsD nodes)), (6, .op 8 0), (11, .op 4 0), (99, .d (zaf n.gates)), (100, .d (iD n.gates.length)), (101, .d (iD j))]) (H' := zbl ts3 μu3 μm3 n.ins.length sh (fs ++ [t3]) ++ [.cells (avs (zax n)), .cells [.d (.val (.slice none 0 0)), .d (.val (.slice none 0 0))]]) ?_ ?_
     ·refine Rt.trans (Rt.gc (keep := [0,1,2,3,4,11,6,7,8]) (by decide) (by decide) (by simp [fzH, gcH])) ?_
      refine Rt.end (by repeat (first | exact zak _ | refine zah ?_ (by first | rfl | (simp [r_f, zai, zad, zag, zal, zab, zaa, zbg, zbi, zan, shD]; done) | simp [r_f, zai, zad, zag, zal, zab, zaa, zbg, zbi, zan, shD, *]))) ?_
      simp only [r_g, Nat.reduceAdd, ↓reduceIte, Nat.reduceEqDiff, r_m, zbe, zbh, zbl, zbk, zdh, shD, gA, zb1, zbw, zas, zax, zae, zaf, zav, zaw, zap]; rw [List.map_append, zdz hp3 hf2]; simp [avs, zb1, iD]
     refine zbn zaj hc mixed rfl (q := 0) (by kernel_rfl) (by kernel_rfl) fun K33 hK33 => ?_
     simp -dsimp -implicitDefEqProofs (disch := first | assumption | omega | (simp only [r_z, zai, zad, zag, zal, zab, zaa, zbg, zbi, zan] <;> omega) | decide) only [r_r, ↓reduceIte, Nat.reduceEqDiff, Nat.reduceAdd, D.fix, Int.reduceToNat, Nat.reduceMul, Nat.reduceBNe, Nat.reduceBEq, r_m, zbe, zbh, zbl, zbk, zdh, shD, gA, zb1, zbw, zas, zax, zae, zaf, zav, zaw, zap, zbt, zby, zdd]
     refine jh6 (zx1 V ts3 μu3 μm3 hS3.row hS3.len (fs ++ [t3]) hf3 (by simp; omega)) ?_ ?_
     ·simp (disch := first | assumption | omega | (simp only [r_z, zai, zad, zag, zal, zab, zaa, zbg, zbi, zan] <;> omega) | decide) only [r_c, Nat.reduceAdd, D.fix, ↓reduceIte, Nat.reduceEqDiff, r_m, zbe, zbh, zbl, zbk, zdh, shD, gA, zb1, zbw, zas, zax, zae, zaf, zav, zaw, zap, zc0, zig, zfo, zjq, ziu, jug]
     simp -dsimp -implicitDefEqProofs (disch := first | assumption | omega | (simp only [r_z, zai, zad, zag, zal, zab, zaa, zbg, zbi, zan] <;> omega) | decide) only [r_r, ↓reduceIte, Nat.reduceEqDiff, Nat.reduceAdd, D.fix, Int.reduceToNat, Nat.reduceMul, Nat.reduceBNe, Nat.reduceBEq, r_m, zbe, zbh, zbl, zbk, zdh, shD, gA, zb1, zbw, zas, zax, zae, zaf, zav, zaw, zap, zbt, zby, zdd]
     refine hK33 _ _ ?_
     refine zaq rfl (fun ht => ?_) (fun ht => ?_)
     ·have hbig : 3000 < (zeq (fs ++ [t3])).length := by simp at ht; omega
      refine zac hp zaj hc rfl fun K34 hK34 => ?_
      simp -dsimp -implicitDefEqProofs (disch := first | assumption | omega | (simp only [r_z, zai, zad, zag, zal, zab, zaa, zbg, zbi, zan] <;> omega) | decide) only [r_r, ↓reduceIte, Nat.reduceEqDiff, Nat.reduceAdd, D.fix, Int.reduceToNat, Nat.reduceMul, Nat.reduceBNe, Nat.reduceBEq, r_m, zbe, zbh, zbl, zbk, zdh, shD, gA, zb1, zbw, zas, zax, zae, zaf, zav, zaw, zap, zdd]
      refine hK34 _ _ ?_
      refine za4 ?_
      try dsimp only [zjj, zc3]
      refine zj8 rfl ?_
      simp -dsimp -implicitDefEqProofs (disch := first | assumption | omega | (simp only [r_z, zai, zad, zag, zal, zab, zaa, zbg, zbi, zan] <;> omega) | decide) only [r_r, ↓reduceIte, Nat.reduceEqDiff, Nat.reduceAdd, D.fix, Int.reduceToNat, Nat.reduceMul, Nat.reduceBNe, Nat.reduceBEq, r_m, zbe, zbh, zbl, zbk, zdh, shD, gA, zb1, zbw, zas, zax, zae, zaf, zav, zaw, zap, zeg, zeh]
      show ∃ r, closeA _ _ = some r ∧ _
      simp (disch := first | assumption | omega | (simp only [r_z, zai, zad, zag, zal, zab, zaa, zbg, zbi, zan] <;> omega) | decide) only [r_c, Nat.reduceAdd, D.fix, ↓reduceIte, Nat.reduceEqDiff, r_m, zbe, zbh, zbl, zbk, zdh, shD, gA, zb1, zbw, zas, zax, zae, zaf, zav, zaw, zap, ziu, zt6]
      exact ⟨_, rfl, .inl ⟨j + 1, fs ++ [t3], by omega, hF3, hbig, rfl⟩⟩
     ·have hsm : (zeq (fs ++ [t3])).length ≤ 3000 := by simp at ht; omega
      refine zay (hK30 _ _ ?_)
      refine zbo hp zaj hc rfl fun K35 hK35 => ?_
      simp -dsimp -implicitDefEqProofs (disch := first | assumption | omega | (simp only [r_z, zai, zad, zag, zal, zab, zaa, zbg, zbi, zan] <;> omega) | decide) only [r_r, ↓reduceIte, Nat.reduceEqDiff, Nat.reduceAdd, D.fix, Int.reduceToNat, Nat.reduceMul, Nat.reduceBNe, Nat.reduceBEq, r_m, zbe, zbh, zbl, zbk, zdh, shD, gA, zb1, zbw, zas, zax, zae, zaf, zav, zaw, zap, zdd]
      have hx3 : ∀ q, q < j + 1 → (zeq ((fs ++ [t3]).take (2 + n.ins.length + (q + 1)))).length ≤ 3000 := fun q hq => by
       by_cases hqj : q < j
       ·rw [zqr (by omega)]; exact hx2 q hqj
       ·have : q = j := by omega
        subst this
        rw [List.take_of_length_le (by simp; omega)]; exact hsm
      refine hK35 _ _ ⟨_, _, _, ?_, ⟨j + 1, fs ++ [t3], ts3, μu3, μm3, ⟨by omega, hF3, hS3, hf3, by rw [Nat.succ_mul]; omega, hx3⟩, rfl, rfl, rfl⟩, ?_⟩
      ·first | omega | (simp only [List.length_cons]; omega) | (dsimp only; omega)
      ·refine Rt.trans (Rt.gc (keep := [0,1,2,3,4,5,6,7,8]) (by decide) (by decide) (by simp [fzH, gcH])) ?_
       refine Rt.end (by repeat (first | exact zak _ | refine zah ?_ (by first | rfl | (simp [r_f, zai, zad, zag, zal, zab, zaa, zbg, zbi, zan, shD]; done) | simp [r_f, zai, zad, zag, zal, zab, zaa, zbg, zbi, zan, shD, *]))) ?_
       first | rfl | (simp only [r_g, Nat.reduceAdd, ↓reduceIte, Nat.reduceEqDiff, r_m, zbe, zbh, zbl, zbk, zdh, shD, gA, zb1, zbw, zas, zax, zae, zaf, zav, zaw, zap]; first | done | rfl)
    ·have hjj : j = n.gates.length := by simp at ht; omega
     subst hjj
     have hFl := hF.len
     have hS2l := hS2.len
     unfold zel at hS2l
     have hroot : ∀ k, k < nodes.length → 0 ≤ nth nodes k ∧ nth nodes k < fs.length := fun k hk => by
      have := List.any_eq_false.1 hno _ (zb3 hk)
      simp only [znp, Bool.or_eq_true, decide_eq_true_eq, not_or] at this
      omega
     refine zbj (hK26 _ _ ?_)
     refine zac hp zaj hc rfl fun K36 hK36 => ?_
     simp -dsimp -implicitDefEqProofs (disch := first | assumption | omega | (simp only [r_z, zai, zad, zag, zal, zab, zaa, zbg, zbi, zan] <;> omega) | decide) only [r_r, ↓reduceIte, Nat.reduceEqDiff, Nat.reduceAdd, D.fix, Int.reduceToNat, Nat.reduceMul, Nat.reduceBNe, Nat.reduceBEq, r_m, zbe, zbh, zbl, zbk, zdh, shD, gA, zb1, zbw, zas, zax, zae, zaf, zav, zaw, zap]
     refine hK36 _ _ ?_
     refine zam fun K37 hK37 => ?_
     refine zac hp zaj hc rfl fun K38 hK38 => ?_
     simp -dsimp -implicitDefEqProofs (disch := first | assumption | omega | (simp only [r_z, zai, zad, zag, zal, zab, zaa, zbg, zbi, zan] <;> omega) | decide) only [r_r, ↓reduceIte, Nat.reduceEqDiff, Nat.reduceAdd, D.fix, Int.reduceToNat, Nat.reduceMul, Nat.reduceBNe, Nat.reduceBEq, r_m, zbe, zbh, zbl, zbk, zdh, shD, gA, zb1, zbw, zas, zax, zae, zaf, zav, zaw, zap, zdd]
     refine hK38 _ _ ?_
     refine zaz ?_
     refine za7 hp (fun τ' H' mm => ∃ (i : Nat), (i ≤ nodes.length) ∧ mm = nodes.length - i ∧ H' = zbl ts2 μu2 μm2 n.ins.length sh fs ++ [.cells (avs (zax n)), .cells [.d (.val (.slice none 0 0)), .d (.val (.slice none 0 0))], .cells (avs (((zf6 fs nodes).take i).map (zb1 ts2)))] ∧ τ' = frL [(6, .op 8 0), (11, .op 4 0), (18, .os 1 9 0 i), (131, .d (intsD nodes)), (132, .d (iD nodes.length)), (133, .d (iD i))]) (nodes.length) ?_ ⟨0, Nat.zero_le _, rfl, rfl, rfl⟩ ?_
     ·refine Rt.trans (Rt.nil 18 1 rfl) ?_
      refine Rt.trans (Rt.gc (keep := [0,1,2,3,4,5,6,7,8,9]) (by decide) (by decide) (by simp [fzH, gcH])) ?_
      refine Rt.end (by repeat (first | exact zak _ | refine zah ?_ (by first | rfl | (simp [r_f, zai, zad, zag, zal, zab, zaa, zbg, zbi, zan, shD]; done) | simp [r_f, zai, zad, zag, zal, zab, zaa, zbg, zbi, zan, shD, *]))) ?_
      first | rfl | (simp only [r_g, Nat.reduceAdd, ↓reduceIte, Nat.reduceEqDiff, r_m, zbe, zbh, zbl, zbk, zdh, shD, gA, zb1, zbw, zas, zax, zae, zaf, zav, zaw, zap]; first | done | rfl)
     rintro τ' H' mm ⟨i, hi, rfl, rfl, rfl⟩
     refine zac hp zaj hc rfl fun K39 hK39 => ?_
     simp -dsimp -implicitDefEqProofs (disch := first | assumption | omega | (simp only [r_z, zai, zad, zag, zal, zab, zaa, zbg, zbi, zan] <;> omega) | decide) only [r_r, ↓reduceIte, Nat.reduceEqDiff, Nat.reduceAdd, D.fix, Int.reduceToNat, Nat.reduceMul, Nat.reduceBNe, Nat.reduceBEq, r_m, zbe, zbh, zbl, zbk, zdh, shD, gA, zb1, zbw, zas, zax, zae, zaf, zav, zaw, zap, zdd]
     refine hK39 _ _ ?_
     refine zam fun K40 hK40 => ?_
     refine zaq rfl (fun ht => ?_) (fun ht => ?_)
     ·have hlt : i < nodes.length := by simp at ht; omega
      obtain ⟨r0, r1⟩ := hroot i hlt
      have hrl := zky fs nodes
      refine zay (hK40 _ _ ?_)
      refine zam fun K41 hK41 => ?_
      refine zaz ?_
      refine zac hp zaj hc rfl fun K42 hK42 => ?_
      simp -dsimp -implicitDefEqProofs (disch := first | assumption | omega | (simp only [r_z, zai, zad, zag, zal, zab, zaa, zbg, zbi, zan] <;> omega) | decide) only [r_r, ↓reduceIte, Nat.reduceEqDiff, Nat.reduceAdd, D.fix, Int.reduceToNat, Nat.reduceMul, Nat.reduceBNe, Nat.reduceBEq, r_m, zbe, zbh, zbl, zbk, zdh, shD, gA, zb1, zbw, zas, zax, zae, zaf, zav, zaw, zap, zdd]
      refine hK42 _ _ ?_
      refine zbo hp zaj hc rfl fun K43 hK43 => ?_
      simp -dsimp -implicitDefEqProofs (disch := first | assumption | omega | (simp only [r_z, zai, zad, zag, zal, zab, zaa, zbg, zbi, zan] <;> omega) | decide) only [r_r, ↓reduceIte, Nat.reduceEqDiff, Nat.reduceAdd, D.fix, Int.reduceToNat, Nat.reduceMul, Nat.reduceBNe, Nat.reduceBEq, r_m, zbe, zbh, zbl, zbk, zdh, shD, gA, zb1, zbw, zas, zax, zae, zaf, zav, zaw, zap, zcc, zdd]
      refine hK43 _ _ (hK41 _ _ ?_)
      refine zbo hp zaj hc rfl fun K44 hK44 => ?_
      simp -dsimp -implicitDefEqProofs (disch := first | assumption | omega | (simp only [r_z, zai, zad, zag, zal, zab, zaa, zbg, zbi, zan] <;> omega) | decide) only [r_r, ↓reduceIte, Nat.reduceEqDiff, Nat.reduceAdd, D.fix, Int.reduceToNat, Nat.reduceMul, Nat.reduceBNe, Nat.reduceBEq, r_m, zbe, zbh, zbl, zbk, zdh, shD, gA, zb1, zbw, zas, zax, zae, zaf, zav, zaw, zap, zdd]
      refine hK44 _ _ ⟨_, _, _, ?_, ⟨i + 1, by omega, rfl, rfl, rfl⟩, ?_⟩
      ·first | omega | (simp only [List.length_cons]; omega) | (dsimp only; omega)
      ·refine Rt.trans (Rt.gc (keep := [0,1,2,3,4,5,6,7,8,11]) (by decide) (by decide) (by simp [fzH, gcH])) ?_
       refine Rt.end (by repeat (first | exact zak _ | refine zah ?_ (by first | rfl | (simp [r_f, zai, zad, zag, zal, zab, zaa, zbg, zbi, zan, shD]; done) | simp [r_f, zai, zad, zag, zal, zab, zaa, zbg, zbi, zan, shD, *]))) ?_
       simp only [r_g, Nat.reduceAdd, ↓reduceIte, Nat.reduceEqDiff, r_m, zbe, zbh, zbl, zbk, zdh, shD, gA, zb1, zbw, zas, zax, zae, zaf, zav, zaw, zap]; rw [zdy (l := zf6 fs nodes) (by omega)]; simp [avs, zb1, iD, zf6, zif hlt]
     ·have hii : i = nodes.length := by simp at ht; omega
      subst hii
      rw [List.take_of_length_le (by rw [zky]; exact Nat.le_refl _)]
      have hrl := zky fs nodes
      have hrm : ∀ t ∈ zf6 fs nodes, t ∈ zbq ts2 := fun t ht => by
       obtain ⟨k, hk, rfl⟩ := List.mem_map.1 ht
       obtain ⟨q, hq, rfl⟩ := List.getElem_of_mem hk
       obtain ⟨r0, r1⟩ := hroot q hq
       rw [zb9 hq] at r0 r1
       exact hf2 _ (zb3 (by omega))
      have hxr := jd1 hS2.row hrm
      refine zbj (hK37 _ _ ?_)
      refine zac hp zaj hc rfl fun K45 hK45 => ?_
      simp -dsimp -implicitDefEqProofs (disch := first | assumption | omega | (simp only [r_z, zai, zad, zag, zal, zab, zaa, zbg, zbi, zan] <;> omega) | decide) only [r_r, ↓reduceIte, Nat.reduceEqDiff, Nat.reduceAdd, D.fix, Int.reduceToNat, Nat.reduceMul, Nat.reduceBNe, Nat.reduceBEq, r_m, zbe, zbh, zbl, zbk, zdh, shD, gA, zb1, zbw, zas, zax, zae, zaf, zav, zaw, zap, zbt, zby, zdd]
      refine jh6 ((by have := zx1 V ts2 μu2 μm2 hS2.row hS2.len (zf6 fs nodes) hrm (by omega); rw [zky] at this; exact this)) ?_ ?_
      ·simp (disch := first | assumption | omega | (simp only [r_z, zai, zad, zag, zal, zab, zaa, zbg, zbi, zan] <;> omega) | decide) only [r_c, Nat.reduceAdd, D.fix, ↓reduceIte, Nat.reduceEqDiff, r_m, zbe, zbh, zbl, zbk, zdh, shD, gA, zb1, zbw, zas, zax, zae, zaf, zav, zaw, zap, zc0, zig, zfo, zjq, ziu, jug]
      simp -dsimp -implicitDefEqProofs (disch := first | assumption | omega | (simp only [r_z, zai, zad, zag, zal, zab, zaa, zbg, zbi, zan] <;> omega) | decide) only [r_r, ↓reduceIte, Nat.reduceEqDiff, Nat.reduceAdd, D.fix, Int.reduceToNat, Nat.reduceMul, Nat.reduceBNe, Nat.reduceBEq, r_m, zbe, zbh, zbl, zbk, zdh, shD, gA, zb1, zbw, zas, zax, zae, zaf, zav, zaw, zap, zbt, zby, zdd]
      refine hK45 _ _ ?_
      refine za4 ?_
      try dsimp only [zjj, zc3]
      refine zj8 rfl ?_
      simp -dsimp -implicitDefEqProofs (disch := first | assumption | omega | (simp only [r_z, zai, zad, zag, zal, zab, zaa, zbg, zbi, zan] <;> omega) | decide) only [r_r, ↓reduceIte, Nat.reduceEqDiff, Nat.reduceAdd, D.fix, Int.reduceToNat, Nat.reduceMul, Nat.reduceBNe, Nat.reduceBEq, r_m, zbe, zbh, zbl, zbk, zdh, shD, gA, zb1, zbw, zas, zax, zae, zaf, zav, zaw, zap, zeg, zeh]
      show ∃ r, closeA _ _ = some r ∧ _
      simp (disch := first | assumption | omega | (simp only [r_z, zai, zad, zag, zal, zab, zaa, zbg, zbi, zan] <;> omega) | decide) only [r_c, Nat.reduceAdd, D.fix, ↓reduceIte, Nat.reduceEqDiff, r_m, zbe, zbh, zbl, zbk, zdh, shD, gA, zb1, zbw, zas, zax, zae, zaf, zav, zaw, zap, ziu, zt6]
      exact ⟨_, rfl, .inr ⟨fs, hF, hx2, by simp [js8, zbt, zby, iD]⟩⟩
end Go.Proofs.Ytignimmnnccblaa
