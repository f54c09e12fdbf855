/- Build, of a shape and nodes that are not refused. -/
import Derived.Test.YtgfnpfchdlcoeaaQ
import Derived.Test.YtgfnpfchdlcoeaaCh
set_option linter.unusedVariables false
set_option linter.unusedSimpArgs false
namespace Go.Proofs.Ytgfnpfchdlcoeaa
open Go Go.RowKit
/-- The functions of the first nodes: constants, inputs, j gates. -/
structure FsP (V ins : Nat) (sh : Sh) (gates : List Gate) (j : Nat) (fs : List T) : Prop where
  len : fs.length = 2 + ins + j
  ok : ∀ t ∈ fs, t.Ok V 0
  f0 : nth fs 0 = .leaf false
  f1 : nth fs 1 = .leaf true
  fv : ∀ v, v < ins → nth fs (2 + v) = varT v
  fg : ∀ q, q < j → ∀ a, (nth fs (2 + ins + q)).eval a = znu ins sh (fs.take (2 + ins + q)) (nth gates q) a
def vfs (v : Nat) : List T := .leaf false :: .leaf true :: (List.range v).map varT
theorem zct (v : Nat) : (vfs v).length = 2 + v := by simp [vfs]; omega
theorem vfs_succ (v : Nat) : vfs (v + 1) = vfs v ++ [varT v] := by simp [vfs, List.range_succ]
theorem FsP.base {V ins : Nat} {sh : Sh} {gates : List Gate} (h : ins ≤ V) : FsP V ins sh gates 0 (vfs ins) := by
  refine ⟨by rw [zct]; rfl, fun t ht => ?_, rfl, rfl, fun v hv => ?_, fun q hq => absurd hq (by omega)⟩
  · simp only [vfs, List.mem_cons] at ht
    rcases ht with rfl | rfl | ht
    · trivial
    · trivial
    · obtain ⟨v, hv, rfl⟩ := List.mem_map.1 ht
      have := List.mem_range.1 hv
      exact ⟨Nat.zero_le _, by omega, fun e => (by cases e), trivial, trivial⟩
  · unfold vfs
    rw [zde (by simp; omega)]
    simp [Nat.add_comm 2 v]
theorem zsd {α : Type} {l m : List α} {k : Nat} (h : k ≤ l.length) : (l ++ m).take k = l.take k := List.take_append_of_le_length h
theorem FsP.snoc {V ins : Nat} {sh : Sh} {gates : List Gate} {j : Nat} {fs : List T} (h : FsP V ins sh gates j fs) {t : T} (ht : t.Ok V 0) (he : ∀ a, t.eval a = znu ins sh fs (nth gates j) a) : FsP V ins sh gates (j + 1) (fs ++ [t]) := by
  have hl := h.len
  refine ⟨by simp; omega, fun s hs => ?_, by rw [zdu (by omega)]; exact h.f0, by rw [zdu (by omega)]; exact h.f1, fun v hv => by rw [zdu (by omega)]; exact h.fv v hv, fun q hq a => ?_⟩
  · rcases List.mem_append.1 hs with hs | hs
    · exact h.ok s hs
    · rw [List.mem_singleton.1 hs]; exact ht
  · by_cases hqj : q < j
    · rw [zdu (by omega), zsd (by omega)]; exact h.fg q hqj a
    · have : q = j := by omega
      subst this
      rw [← hl, ze7, zsd (Nat.le_refl _), List.take_length]; exact he a
def ze1 (fs : List T) (nodes : List Int) : List T := nodes.map fun k => nth fs k.toNat
def bddF (rs : List T) : D := bddD (erow (expT rs)) (rs.map (num (expT rs)))
/-- What Build gives. -/
def BuK (V : Nat) (n : Net) (sh : Sh) (nodes : List Int) (r : AV) : Prop :=
  (∃ j fs, j ≤ n.gates.length ∧ FsP V n.ins.length sh n.gates j fs ∧ 3000 < (expT fs).length ∧ r = .tup [.d (bddD [] []), .d (iD 2)]) ∨
  (∃ fs, FsP V n.ins.length sh n.gates n.gates.length fs ∧ (∀ q, q < n.gates.length → (expT (fs.take (2 + n.ins.length + (q + 1)))).length ≤ 3000) ∧ r = .tup [.d (bddF (ze1 fs nodes)), .d (iD 0)])
theorem zml (fs : List T) (nodes : List Int) : (ze1 fs nodes).length = nodes.length := by simp [ze1]
theorem fixN (ts fs : List T) : (fs.map (numD ts)).map D.fix = fs.map (numD ts) := zmy (fun _ => rfl) fs
def bldG (ts : List T) (fst : List Nat) (sh : Sh) (fs : List T) : za0 := [.cells [.op 0 0, .os 1 6 0 fst.length, .d (shD sh), .os 1 5 0 fs.length], .cells (avs (fs.map (numD ts))), .cells (avs (fst.map natD))]
def shZ (sh : Sh) : List (Int × Int) := sh.map fun p => ((p.1 : Int), (p.2 : Int))
theorem shD_I (sh : Sh) : shD sh = shI (shZ sh) := by
  unfold shD shI shZ
  rw [List.flatMap_map, List.length_map]; rfl
theorem shape_in {sh : Sh} (h : ShOk sh) : (shZ sh).any outB = false := by
  rw [List.any_eq_false]
  intro p hp
  obtain ⟨q, hq, rfl⟩ := List.mem_map.1 hp
  obtain ⟨k, hk, rfl⟩ := List.getElem_of_mem hq
  have := h.el k hk
  rw [zde hk] at this
  simp only [outB, Bool.or_eq_true, decide_eq_true_eq, not_or]
  constructor <;> omega
theorem mrow_nil : mrow [] = [⟨1000, 0, 0⟩, ⟨1000, 0, 0⟩] := by decide
theorem MS.nil {V : Nat} (hV : V ≤ 900) : MS V [] ([], 0) ([], 0) := ⟨.nil V, ⟨OkM.nil _ _, fun t ht => (by cases ht), fun k u hg => (by cases hg)⟩, ⟨OkM.nil _ _, fun k u hg => (by cases hg)⟩, by decide, hV⟩
theorem zu9 (base : Nat) (sh : Sh) {i : Nat} (h : i < sh.length) : (zpk base sh).take (i + 1) = (zpk base sh).take i ++ [zc6 base sh i] := by rw [zfq (by rw [za5]; exact h), zqz h]
theorem zse {base : Nat} {sh : Sh} (h : ShOk sh) : ∀ {k : Nat}, k ≤ sh.length → zc6 base sh k ≤ base + k * 64
  | 0, _ => by simp [zc6]
  | k + 1, hk => by
    have := zse (base := base) h (k := k) (by omega)
    have h2 := h.el k (by omega)
    have h3 := Nat.mul_le_mul h2.1 h2.2
    rw [zhp (by omega)]; omega
theorem exp_le {V : Nat} {ts fs : List T} (hr : RowOk V ts) (h : ∀ t ∈ fs, t ∈ full ts) : (expT fs).length ≤ ts.length := by
  obtain ⟨h1, h2⟩ := expT_ok hr h
  exact zu8 h1 h2
set_option maxRecDepth 100000 in
set_option linter.unusedVariables false in
set_option maxHeartbeats 4000000 in
theorem build_c (V : Nat) (n : Net) (sh : Sh) (nodes : List Int) (hsh : ShOk sh) (hV : zcr n.ins.length sh = V) (hV9 : V ≤ 900) (hgs : ∀ k, k < n.gates.length → GOp (2 + n.ins.length + k) (nth n.gates k)) (hno : nodes.any (unkB (2 + n.ins.length + n.gates.length)) = false) (hnl : nodes.length ≤ 1000000) (hil : n.ins.length ≤ 1000) (hgl : n.gates.length ≤ 1000) (hB : n.ins.length + n.gates.length * (8 + 7 * 2 ^ V) + 32 * 2 ^ V ≤ bigB) : RCalls Try.prog 41 [netD n, shD sh, zbj nodes] (BuK V n sh nodes) := by
  have hpos : 0 < 2 ^ V := Nat.two_pow_pos V
  have hB' := hB
  unfold bigB at hB
  have hs8 := hsh.len
  have hiV : n.ins.length ≤ V := by rw [← hV]; have := zsb (base := n.ins.length) (sh := sh) (d := sh.length) (k := 0) (by omega); unfold zcr; simp [zc6] at this ⊢
  have q0 : decide ((8 : Int) < sh.length) = false := by simp; omega
  have hin := shape_in hsh
  refine zho (fn := Try.f41) (by kernel_rfl) Try.func41 rfl (Nat.le_of_ble_eq_true rfl) fun c hc hp => ?_
  refine zch (τ' := frL [(0, .d (netD n)), (1, .d (shD sh)), (2, .d (zbj nodes))]) (zaa (zaa (zaa (zaq _) rfl) rfl) rfl) ?_
  refine zac hp zao hc rfl fun K1 hK1 => ?_
  simp -dsimp -implicitDefEqProofs (disch := first | assumption | omega | (simp [maxLen, zab, zaw, zah, zan, za5, zaf, zad, zct, zci, zai] <;> omega) | decide) only [zag, zdy, zcm, zbd, zaj, zae, q_o, layF, ↓reduceIte, q_b, q_f, q_s, q_l, zca, D.one, q_n, zdk, zav, zap, zbj, zbd, shD, netD, netC, zbw, zbx, zuv]
  refine hK1 _ _ ?_
  refine zac hp zao hc rfl fun K2 hK2 => ?_
  simp -dsimp -implicitDefEqProofs (disch := first | assumption | omega | (simp [maxLen, zab, zaw, zah, zan, za5, zaf, zad, zct, zci, zai] <;> omega) | decide) only [zag, zaj, q_f]
  refine hK2 _ _ ?_
  refine zac hp zao hc rfl fun K3 hK3 => ?_
  simp -dsimp -implicitDefEqProofs (disch := first | assumption | omega | (simp [maxLen, zab, zaw, zah, zan, za5, zaf, zad, zct, zci, zai] <;> omega) | decide) only [zat, zb6, za1, zb8, zcm, zbu, zbd, zaj, zae, q_o, za8, zam, zay, lenF, zbe, layF, zb4, zcu, ↓reduceIte, q_b, ifp, q_f, q_s, q_l, q_a, q_n, Nat.reduceEqDiff, zdk, zav, zap, Nat.reduceAdd, zbd, zgq, zkc, zkd, znp, sz_3, zhe, znq, znr, zr2, za_3]
  refine hK3 _ _ ?_
  refine zac hp zao hc rfl fun K4 hK4 => ?_
  simp -dsimp -implicitDefEqProofs (disch := first | assumption | omega | (simp [maxLen, zab, zaw, zah, zan, za5, zaf, zad, zct, zci, zai] <;> omega) | decide) only [zag, zlj, zaj, ↓reduceIte, q_b, q_f, q_s]
  refine hK4 _ _ ?_
  refine zas fun K5 hK5 => ?_
  refine zac hp zao hc rfl fun K6 hK6 => ?_
  simp -dsimp -implicitDefEqProofs (disch := first | assumption | omega | (simp [maxLen, zab, zaw, zah, zan, za5, zaf, zad, zct, zci, zai] <;> omega) | decide) only [zal, za1, zb8, zbh, sT_g, zae, gK_t, q_o, zay, lenF, zbe, zgj, ↓reduceIte, q_b, zar, zbk, q_f, q_s, q_l, q_n, Nat.reduceEqDiff, Nat.reduceAdd, q0, zjv]
  refine zda ((by have := zq1 (shZ sh) (by unfold shZ maxLen; simp; omega); rw [← shD_I, hin] at this; exact this)) rfl ?_
  simp -dsimp -implicitDefEqProofs (disch := first | assumption | omega | (simp [maxLen, zab, zaw, zah, zan, za5, zaf, zad, zct, zci, zai] <;> omega) | decide) only [zal, zbq, zbh, sT_g, zae, gK_t, q_o, ↓reduceIte, q_b, zar, zbk, q_f, q_s, q_l, q_n, Nat.reduceEqDiff, oD, Nat.reduceAdd]
  refine zhh ((by have := zq2 nodes (2 + n.ins.length + n.gates.length) (by unfold maxLen; omega); rw [hno] at this; exact this)) ?_ ?_
  · simp (disch := first | assumption | omega | (simp [maxLen, zab, zaw, zah, zan, za5, zaf, zad, zct, zci, zai] <;> omega) | decide) only [zbr, zb5, zb0, zcn, zcf, zex, zfx, Nat.reduceAdd, D.fix, Option.map_some, Option.bind_some, List.getElem?_cons_zero, List.getElem?_cons_succ, iD, zbj]
  simp -dsimp -implicitDefEqProofs (disch := first | assumption | omega | (simp [maxLen, zab, zaw, zah, zan, za5, zaf, zad, zct, zci, zai] <;> omega) | decide) only [zbq, zaj, zae, ↓reduceIte, q_b, q_f, Nat.reduceEqDiff]
  refine hK6 _ _ ?_
  refine zau rfl (fun ht => ?_) (fun ht => ?_)
  · cases ht
  · refine zbb (hK5 _ _ ?_)
    refine zac hp zao hc rfl fun K7 hK7 => ?_
    simp -dsimp -implicitDefEqProofs (disch := first | assumption | omega | (simp [maxLen, zab, zaw, zah, zan, za5, zaf, zad, zct, zci, zai] <;> omega) | decide) only [zbh, q_f, q_s, q_l, q_n, Nat.reduceAdd]
    refine kc_in ⟨by kernel_rfl, _, _, Try.func60, rfl, Nat.le_of_ble_eq_true rfl, fun c107 hc107 => ?_⟩
    refine awp_sv0 ?_
    refine zac (Kp.all c107) zao hc107 rfl fun K108 hK108 => ?_
    simp -dsimp -implicitDefEqProofs (disch := first | assumption | omega | (simp [maxLen, zab, zaw, zah, zan, za5, zaf, zad, zct, zci, zai] <;> omega) | decide) only [zag, zaj, q_f]
    refine hK108 _ _ ?_
    refine zac (Kp.all c107) zao hc107 rfl fun K109 hK109 => ?_
    simp -dsimp -implicitDefEqProofs (disch := first | assumption | omega | (simp [maxLen, zab, zaw, zah, zan, za5, zaf, zad, zct, zci, zai] <;> omega) | decide) only [zag, zdd, zdw, zbd, zaj, zae, q_o, zdx, layF, ↓reduceIte, q_b, ifp, ifn, q_f, q_s, q_l, List.append_nil, List.replicate_zero, List.replicate_succ, zbv, q_a, zbn, AV.one, D.one, Value.oneCell', q_n, Nat.reduceEqDiff, Nat.reduceAdd, zbd, Nat.zero_mul, Nat.reduceMul, List.flatten_cons, List.flatten_nil, pa_83, zpi, zc_83, mk_28]
    refine hK109 _ _ ?_
    refine zac (Kp.all c107) zao hc107 rfl fun K110 hK110 => ?_
    simp -dsimp -implicitDefEqProofs (disch := first | assumption | omega | (simp [maxLen, zab, zaw, zah, zan, za5, zaf, zad, zct, zci, zai] <;> omega) | decide) only [zal, zag, zdd, zdy, zp3, zbd, zaj, zae, q_o, zdx, layF, ↓reduceIte, q_b, ifn, q_f, q_s, q_l, q_a, zbn, zga, zum, AV.one, D.one, Value.oneCell', q_n, Nat.reduceEqDiff, Nat.reduceAdd, zbd, mm_m, pa_140, pl_140_0, pl_140_1, pl_140_2, zc_140]
    refine hK110 _ _ ?_
    refine zbc ?_
    refine zc5 (t := 0) rfl ?_
    simp -dsimp -implicitDefEqProofs (disch := first | assumption | omega | (simp [maxLen, zab, zaw, zah, zan, za5, zaf, zad, zct, zci, zai] <;> omega) | decide) only [zal, zag, zdd, zdy, zdw, zbd, zaj, zae, q_o, zdx, layF, ↓reduceIte, q_b, ifp, ifn, q_f, q_s, q_l, List.replicate_zero, List.replicate_succ, zbv, q_a, zbn, as_fs, zga, as_op, AV.one, D.one, Value.oneCell', q_n, Nat.reduceEqDiff, Nat.reduceAdd, zbd, zgp, pa_123, pl_123_0, pl_123_2, pl_123_3, zc_123]
    refine hK7 _ _ ?_
    refine zas fun K8 hK8 => ?_
    refine zac hp zao hc rfl fun K9 hK9 => ?_
    simp -dsimp -implicitDefEqProofs (disch := first | assumption | omega | (simp [maxLen, zab, zaw, zah, zan, za5, zaf, zad, zct, zci, zai] <;> omega) | decide) only [zal, zat, zb6, zb8, zaj, zae, q_o, za8, zam, lenF, zbe, ↓reduceIte, q_b, ifp, q_f, q_s, q_l, q_n, Nat.reduceEqDiff, Nat.reduceAdd, zgq, zkc, zkd, znp]
    refine hK9 _ _ ?_
    refine zbg ?_
    refine zby hp (fun τ' H' mm => ∃ (v : Nat) (ts : List T) (μu μm : Mp), (v ≤ n.ins.length ∧ MS V ts μu μm ∧ ts.length ≤ v ∧ ∀ t ∈ vfs v, t ∈ full ts) ∧ mm = n.ins.length - v ∧ H' = mgrH ts μu μm ++ bldG ts [] sh (vfs v) ++ [.cells (avs (netC n)), .cells [.d (.val (.slice none 0 0)), .d (.val (.slice none 0 0))]] ∧ τ' = frL [(1, .d (shD sh)), (2, .d (zbj nodes)), (3, .op 7 0), (6, .op 8 0), (11, .op 4 0), (51, .d (iD n.ins.length)), (52, .d (iD v))]) (n.ins.length) ?_ ⟨0, [], ([], 0), ([], 0), ⟨Nat.zero_le _, MS.nil hV9, Nat.zero_le _, fun t ht => ht⟩, rfl, rfl, rfl⟩ ?_
    · refine Rt.trans (Rt.nilc 8 1 1 rfl rfl) ?_
      refine Rt.trans (Rt.gc (keep := [6,4,5,3,8,7,9,0,1]) (by decide) (by decide) (by simp [])) ?_
      refine Rt.end (zaa (zaa (zaa (zaa (zaa (zaa (zaa (zaq _) rfl) rfl) rfl) rfl) rfl) rfl) rfl) ?_
      simp only [zbj, gcH, zb1, gc_m, gcVs, gcV, Nat.reduceAdd, posN, zav, zap, List.map_cons, List.map_nil, List.getD_cons_zero, List.getD_cons_succ, ↓reduceIte, Nat.reduceEqDiff, Option.map_some, List.set_cons_zero, List.set_cons_succ, List.cons_append, List.nil_append, gc_m, mgrH, mgrC, bldG, shD, netC, zbw, zbx]; first | done | rfl | (rw [mrow_nil]; rfl)
    rintro τ' H' mm ⟨v, ts, μu, μm, ⟨hv, hS, htl, hfs⟩, rfl, rfl, rfl⟩
    refine zac hp zao hc rfl fun K10 hK10 => ?_
    simp -dsimp -implicitDefEqProofs (disch := first | assumption | omega | (simp [maxLen, zab, zaw, zah, zan, za5, zaf, zad, zct, zci, zai] <;> omega) | decide) only [za1, zaj, zae, q_o, zay, zcz, ↓reduceIte, q_b, q_f, q_s, q_l, Nat.reduceEqDiff, zav, zap, iD, zbj, mgrH, mgrC, bldG, shD, netC, zbw, zbx]
    refine hK10 _ _ ?_
    refine zas fun K11 hK11 => ?_
    refine zau rfl (fun ht => ?_) (fun ht => ?_)
    · have hlt : v < n.ins.length := by simp at ht; omega
      refine zbb (hK11 _ _ ?_)
      refine zas fun K12 hK12 => ?_
      refine zbg ?_
      refine zac hp zao hc rfl fun K13 hK13 => ?_
      simp -dsimp -implicitDefEqProofs (disch := first | assumption | omega | (simp [maxLen, zab, zaw, zah, zan, za5, zaf, zad, zct, zci, zai] <;> omega) | decide) only [zal, zag, zaj, ↓reduceIte, q_b, q_f, Nat.reduceEqDiff]
      refine hK13 _ _ ?_
      refine zni zao hp hc mixed rfl [(0, []), (1, []), (2, []), (3, []), (4, []), (5, []), (6, []), (7, []), (8, []), (9, []), (10, [4]), (11, []), (12, []), (13, []), (14, []), (15, [])] [[], [], [1], [1, 2], [1, 2, 3], [], [5], [5, 6], [5, 6, 7], [], [5, 6, 7, 8, 9], [5, 6, 7, 8, 9, 10], [1, 2, 3, 4, 5, 6, 7, 8, 9, 10, 11], [0, 1, 2, 3, 4, 5, 6, 7, 8, 9, 10, 11, 12], [0, 1, 2, 3, 4, 5, 6, 7, 8, 9, 10, 11, 12, 13], [0, 1, 2, 3, 4, 5, 6, 7, 8, 9, 10, 11, 12, 13, 14]] 1 (by kernel_rfl) fun K14 hK14 => ?_
      simp -dsimp -implicitDefEqProofs (disch := first | assumption | omega | (simp [maxLen, zab, zaw, zah, zan, za5, zaf, zad, zct, zci, zai] <;> omega) | decide) only [zae, za8, zam, zev, ↓reduceIte, q_b, ifp, q_f, q_s, q_l, List.replicate_zero, List.replicate_succ, q_n, Nat.reduceEqDiff, Nat.reduceAdd, zgm, zfc, List.getD_cons_zero, List.getD_cons_succ, zg2, zgn, zll, zir, zfd, zih, zfg, zfh, zgs, zhz, zh0]
      refine zp6 (S := mgrH ts μu μm) (T := bldG ts [] sh (vfs v) ++ [.cells (avs (netC n)), .cells [.d (.val (.slice none 0 0)), .d (.val (.slice none 0 0))], .free]) (var_n (v := v) hS (by omega) (by unfold bigB; omega) rfl) rfl (Nat.le_of_ble_eq_true rfl) (by first | rfl | (simp [AV.allIs, AV.allI, zbs, zb3, zbz, okI, ltI, za6, zcp, mgrH, mgrC, bldG, bldT, bldH, gA]; done) | (intro o ho; simp at ho; done)) (fun t => zdb (by first | rfl | (simp [AV.allIs, AV.allI, zbs, zb3, zbz, okI, ltI, za6, zcp, mgrH, mgrC, bldG, bldT, bldH, gA]; done) | (intro o ho; simp at ho; done)) t) (fun t => zdb (by first | rfl | (simp [AV.allIs, AV.allI, zbs, zb3, zbz, okI, ltI, za6, zcp, mgrH, mgrC, bldG, bldT, bldH, gA]; done) | (intro o ho; simp at ho; done)) t) (by first | rfl | (simp [AV.allIs, AV.allI, zbs, zb3, zbz, okI, ltI, za6, zcp, mgrH, mgrC, bldG, bldT, bldH, gA]; done) | (intro o ho; simp at ho; done)) (by first | rfl | (simp [AV.allIs, AV.allI, zbs, ltI, za6, zcp, mgrH, mgrC]; done) | (intro o ho; simp at ho; done)) (by first | rfl | (simp [AV.allIs, AV.allI, zbs, zbz, okI, za6, mgrH, mgrC, bldG]; done) | (intro o ho; simp at ho; done)) ?_
      rintro _ _ ⟨ts2, μu2, rfl, rfl, hS2, hp2, hl2, hm2⟩
      refine ⟨rfl, ?_⟩
      simp -dsimp -implicitDefEqProofs (disch := first | assumption | omega | (simp [maxLen, zab, zaw, zah, zan, za5, zaf, zad, zct, zci, zai] <;> omega) | decide) only [zbd, zae, q_o, za8, zam, layF, zdl, srcF, zb4, zev, ↓reduceIte, q_b, ifp, ifn, q_f, q_s, q_l, List.append_nil, List.replicate_zero, List.replicate_succ, zbv, q_a, zbn, zga, and_true, q_n, Nat.reduceEqDiff, shB, appB, zav, zap, zab, zcv, List.drop_zero, iD, zbj, Nat.reduceAdd, zbd, List.length_map, zdl, frzF, zjs, zfv, zf2, zid, zll, zir, sS_bs, sS_app, zhl, mgrH, mgrC, bldG, shD, netC, zbw, zbx, zih, zfg, zfh, zgp]
      refine hK14 _ _ (hK12 _ _ ?_)
      refine zcw hp zao hc rfl fun K15 hK15 => ?_
      simp -dsimp -implicitDefEqProofs (disch := first | assumption | omega | (simp [maxLen, zab, zaw, zah, zan, za5, zaf, zad, zct, zci, zai] <;> omega) | decide) only [zal, za1, zaj, zae, q_o, zay, zcu, ↓reduceIte, q_b, q_f, Nat.reduceEqDiff]
      have hfs2 : ∀ t ∈ vfs (v + 1), t ∈ full ts2 := fun t ht => by
        rw [vfs_succ] at ht
        rcases List.mem_append.1 ht with ht | ht
        · exact zdn hp2 (hfs t ht)
        · rw [List.mem_singleton.1 ht]; exact hm2
      refine hK15 _ _ ⟨_, _, _, ?_, ⟨v + 1, ts2, μu2, μm, ⟨by omega, hS2, by omega, hfs2⟩, rfl, rfl, rfl⟩, ?_⟩
      · first | omega | (simp only [List.length_cons]; omega) | (dsimp only; omega)
      · refine Rt.trans (Rt.gc (keep := [0,1,2,3,4,10,6,7,8]) (by decide) (by decide) (by simp [])) ?_
        refine Rt.end (zaa (zaa (zaa (zaa (zaa (zaa (zaa (zaq _) rfl) rfl) rfl) rfl) rfl) rfl) rfl) ?_
        simp only [zbj, gcH, zb1, gc_m, zaz, gcVs, gcV, Nat.reduceAdd, posN, zav, zap, List.map_cons, List.map_nil, List.getD_cons_zero, List.getD_cons_succ, ↓reduceIte, Nat.reduceEqDiff, Option.map_some, List.cons_append, List.nil_append, gc_m, mgrH, mgrC, bldG, shD, netC, zbw, zbx]; rw [vfs_succ, List.map_append, zfy hp2 hfs]; simp [avs, numD, iD, zct]
    · have hvv : v = n.ins.length := by simp at ht; omega
      subst hvv
      refine zcl (hK8 _ _ ?_)
      refine zac hp zao hc rfl fun K16 hK16 => ?_
      simp -dsimp -implicitDefEqProofs (disch := first | assumption | omega | (simp [maxLen, zab, zaw, zah, zan, za5, zaf, zad, zct, zci, zai] <;> omega) | decide) only [zag, zat, zb6, zb8, zaj, zae, q_o, za8, zam, lenF, zbe, ↓reduceIte, q_b, ifp, q_f, q_s, q_l, q_n, Nat.reduceEqDiff, Nat.reduceAdd, zgq, zkc, zkd, znp]
      refine hK16 _ _ ?_
      refine zas fun K17 hK17 => ?_
      refine zac hp zao hc rfl fun K18 hK18 => ?_
      simp -dsimp -implicitDefEqProofs (disch := first | assumption | omega | (simp [maxLen, zab, zaw, zah, zan, za5, zaf, zad, zct, zci, zai] <;> omega) | decide) only [zal, zb8, zaj, zae, q_o, lenF, zbe, ↓reduceIte, q_b, q_f, q_s, Nat.reduceEqDiff, zjv]
      refine hK18 _ _ ?_
      refine zbg ?_
      refine zby hp (fun τ' H' mm => ∃ (i : Nat) (fst : List Nat), (i ≤ sh.length ∧ fst = (zpk n.ins.length sh).take i) ∧ mm = sh.length - i ∧ H' = mgrH ts μu μm ++ bldG ts fst sh (vfs n.ins.length) ++ [.cells (avs (netC n)), .cells [.d (.val (.slice none 0 0)), .d (.val (.slice none 0 0))]] ∧ τ' = frL [(2, .d (zbj nodes)), (3, .op 7 0), (6, .op 8 0), (11, .op 4 0), (13, .d (iD (zc6 n.ins.length sh i))), (74, .d (shD sh)), (75, .d (iD sh.length)), (76, .d (iD i))]) (sh.length) ?_ ⟨0, [], ⟨Nat.zero_le _, rfl⟩, rfl, rfl, rfl⟩ ?_
      · refine Rt.trans (Rt.gc (keep := [0,1,2,3,4,5,6,7,8]) (by decide) (by decide) (by simp [])) ?_
        refine Rt.end (zaa (zaa (zaa (zaa (zaa (zaa (zaa (zaa (zaq _) rfl) rfl) rfl) rfl) rfl) rfl) rfl) rfl) ?_
        first | rfl | (simp only [zbj, gcH, zb1, gc_m, zaz, gcVs, gcV, Nat.reduceAdd, posN, zav, zap, List.map_cons, List.map_nil, List.getD_cons_zero, List.getD_cons_succ, ↓reduceIte, Nat.reduceEqDiff, Option.map_some, List.cons_append, List.nil_append, gc_m, mgrH, mgrC, bldG, shD, netC, zbw, zbx]; first | done | rfl)
      rintro τ' H' mm ⟨i, fst, ⟨hi, hfst⟩, rfl, rfl, rfl⟩
      refine zac hp zao hc rfl fun K19 hK19 => ?_
      simp -dsimp -implicitDefEqProofs (disch := first | assumption | omega | (simp [maxLen, zab, zaw, zah, zan, za5, zaf, zad, zct, zci, zai] <;> omega) | decide) only [za1, zaj, zae, q_o, zay, zcz, ↓reduceIte, q_b, q_f, q_s, Nat.reduceEqDiff, zav, zap, iD, zbj, mgrH, mgrC, bldG, shD, netC, zbw, zbx]
      refine hK19 _ _ ?_
      refine zas fun K20 hK20 => ?_
      refine zau rfl (fun ht => ?_) (fun ht => ?_)
      · have hlt : i < sh.length := by simp at ht; omega
        have hfl : fst.length = i := by rw [hfst, List.length_take, za5]; omega
        have fb := zse (base := n.ins.length) hsh (k := i) (by omega)
        have hel := hsh.el i hlt
        have hib : ((nth sh i).1 : Int) * ((nth sh i).2 : Int) ≤ 64 := by
          have := Nat.mul_le_mul hel.1 hel.2
          omega
        have hib0 : 0 ≤ ((nth sh i).1 : Int) * ((nth sh i).2 : Int) := by
          have : (((nth sh i).1 * (nth sh i).2 : Nat) : Int) = ((nth sh i).1 : Int) * ((nth sh i).2 : Int) := by simp
          omega
        have hfs1 : (zc6 n.ins.length sh (i + 1) : Int) = (zc6 n.ins.length sh i : Int) + ((nth sh i).1 : Int) * ((nth sh i).2 : Int) := by rw [zhp hlt]; simp
        refine zbb (hK20 _ _ ?_)
        refine zas fun K21 hK21 => ?_
        refine zbg ?_
        refine zac hp zao hc rfl fun K22 hK22 => ?_
        simp -dsimp -implicitDefEqProofs (disch := first | assumption | omega | (simp [maxLen, zab, zaw, zah, zan, za5, zaf, zad, zct, zci, zai] <;> omega) | decide) only [zat, zdo, zcm, zbu, zbd, zaj, zae, q_o, za8, ixO, za2, layF, zb4, ↓reduceIte, q_b, ifp, q_f, q_s, q_l, zca, q_a, D.one, Value.oneCell', Int.toNat_natCast, q_n, Nat.reduceEqDiff, zdk, zav, zap, iD, Nat.reduceAdd, zbd, sh_row, shC, zjv, sz_84, ag_84, za_84]
        refine hK22 _ _ ?_
        refine zac hp zao hc rfl fun K23 hK23 => ?_
        simp -dsimp -implicitDefEqProofs (disch := first | assumption | omega | (simp [maxLen, zab, zaw, zah, zan, za5, zaf, zad, zct, zci, zai] <;> omega) | decide) only [zal, zat, zb6, ze9, zdw, zd6, zbu, zbd, zaj, zae, q_o, za8, zam, layF, srcF, zb4, zev, ↓reduceIte, q_b, ifp, ifn, q_f, q_s, q_l, List.append_nil, List.replicate_zero, List.replicate_succ, zbv, q_a, zbn, zga, q_n, Nat.reduceEqDiff, zab, zcv, zak, List.drop_zero, Nat.reduceAdd, zbd, List.length_map, fo_123_1, zfg, zfh, zgp]
        refine hK23 _ _ ?_
        refine zcw hp zao hc rfl fun K24 hK24 => ?_
        simp -dsimp -implicitDefEqProofs (disch := first | assumption | omega | (simp [maxLen, zab, zaw, zah, zan, za5, zaf, zad, zct, zci, zai] <;> omega) | decide) only [zal, zag, zat, zdo, za1, zaj, zae, q_o, za8, ixO, za2, zay, zcu, znl, ↓reduceIte, q_b, ifp, q_f, q_l, q_n, Nat.reduceEqDiff, Nat.reduceAdd, Int.toNat_zero, Int.reduceToNat, zp8, sz_3, ag_3]
        refine hK24 _ _ (hK21 _ _ ?_)
        refine zcw hp zao hc rfl fun K25 hK25 => ?_
        simp -dsimp -implicitDefEqProofs (disch := first | assumption | omega | (simp [maxLen, zab, zaw, zah, zan, za5, zaf, zad, zct, zci, zai] <;> omega) | decide) only [zal, za1, zaj, zae, q_o, zay, zcu, ↓reduceIte, q_b, q_f, Nat.reduceEqDiff]
        refine hK25 _ _ ⟨_, _, _, ?_, ⟨i + 1, fst ++ [zc6 n.ins.length sh i], ⟨by omega, by rw [hfst, zu9 _ _ hlt]⟩, rfl, rfl, rfl⟩, ?_⟩
        · first | omega | (simp only [List.length_cons]; omega) | (dsimp only; omega)
        · refine Rt.trans (Rt.gc (keep := [0,1,2,3,4,5,11,7,8]) (by decide) (by decide) (by simp [])) ?_
          refine Rt.end (zaa (zaa (zaa (zaa (zaa (zaa (zaa (zaa (zaq _) rfl) rfl) rfl) (by first | rfl | (simp [frL, gcV, iD]; done) | simp [frL, gcV, iD, *])) rfl) rfl) rfl) rfl) ?_
          simp only [zbj, gcH, zb1, gc_m, zaz, gcVs, gcV, Nat.reduceAdd, posN, zav, zap, List.map_cons, List.map_nil, List.getD_cons_zero, List.getD_cons_succ, ↓reduceIte, Nat.reduceEqDiff, Option.map_some, List.cons_append, List.nil_append, gc_m, mgrH, mgrC, bldG, shD, netC, zbw, zbx]; simp [avs, natD, iD]
      · have hii : i = sh.length := by simp at ht; omega
        subst hii
        rw [List.take_of_length_le (by rw [za5]; exact Nat.le_refl _)] at hfst
        subst hfst
        refine zcl (hK17 _ _ ?_)
        refine zas fun K26 hK26 => ?_
        refine zac hp zao hc rfl fun K27 hK27 => ?_
        simp -dsimp -implicitDefEqProofs (disch := first | assumption | omega | (simp [maxLen, zab, zaw, zah, zan, za5, zaf, zad, zct, zci, zai] <;> omega) | decide) only [zal, zat, zb6, zb8, zaj, zae, q_o, za8, zam, lenF, zbe, ↓reduceIte, q_b, ifp, q_f, q_s, q_l, q_n, Nat.reduceEqDiff, Nat.reduceAdd, zhe, znq, znr, zr2]
        refine hK27 _ _ ?_
        refine zbg ?_
        refine zby hp (fun τ' H' mm => ∃ (j : Nat) (fs : List T) (ts2 : List T) (μu2 μm2 : Mp), (j ≤ n.gates.length ∧ FsP V n.ins.length sh n.gates j fs ∧ MS V ts2 μu2 μm2 ∧ (∀ t ∈ fs, t ∈ full ts2) ∧ ts2.length ≤ n.ins.length + j * (8 + 7 * 2 ^ V) ∧ ∀ q, q < j → (expT (fs.take (2 + n.ins.length + (q + 1)))).length ≤ 3000) ∧ mm = n.gates.length - j ∧ H' = bldH ts2 μu2 μm2 n.ins.length sh fs ++ [.cells (avs (netC n)), .cells [.d (.val (.slice none 0 0)), .d (.val (.slice none 0 0))]] ∧ τ' = frL [(2, .d (zbj nodes)), (6, .op 8 0), (11, .op 4 0), (99, .d (zbx n.gates)), (100, .d (iD n.gates.length)), (101, .d (iD j))]) (n.gates.length) ?_ ⟨0, vfs n.ins.length, ts, μu, μm, ⟨Nat.zero_le _, FsP.base hiV, hS, hfs, by omega, fun q hq => absurd hq (by omega)⟩, rfl, rfl, rfl⟩ ?_
        · refine Rt.trans (Rt.gc (keep := [0,1,2,3,4,5,6,7,8]) (by decide) (by decide) (by simp [])) ?_
          refine Rt.end (zaa (zaa (zaa (zaa (zaa (zaa (zaq _) rfl) rfl) rfl) rfl) rfl) rfl) ?_
          simp only [zbj, gcH, zb1, gc_m, zaz, gcVs, gcV, Nat.reduceAdd, posN, zav, zap, List.map_cons, List.map_nil, List.getD_cons_zero, List.getD_cons_succ, ↓reduceIte, Nat.reduceEqDiff, Option.map_some, List.cons_append, List.nil_append, gc_m, mgrH, mgrC, bldH, bldT, shD, netC, zbw, zbx]; first | done | rfl | (simp [za5]; done)
        rintro τ' H' mm ⟨j, fs, ts2, μu2, μm2, ⟨hj, hF, hS2, hf2, hl2, hx2⟩, rfl, rfl, rfl⟩
        refine zac hp zao hc rfl fun K28 hK28 => ?_
        simp -dsimp -implicitDefEqProofs (disch := first | assumption | omega | (simp [maxLen, zab, zaw, zah, zan, za5, zaf, zad, zct, zci, zai] <;> omega) | decide) only [za1, zaj, zae, q_o, zay, zcz, ↓reduceIte, q_b, q_f, q_s, Nat.reduceEqDiff, zav, zap, iD, zbj, mgrH, mgrC, bldH, bldT, shD, netC, zbw, zbx]
        refine hK28 _ _ ?_
        refine zas fun K29 hK29 => ?_
        refine zau rfl (fun ht => ?_) (fun ht => ?_)
        · have hlt : j < n.gates.length := by simp at ht; omega
          have hFl := hF.len
          have hg : GOp fs.length (nth n.gates j) := by rw [hFl]; have := hgs j hlt; simpa using this
          have hjb : j * (8 + 7 * 2 ^ V) + (8 + 7 * 2 ^ V) ≤ n.gates.length * (8 + 7 * 2 ^ V) := by
            rw [← Nat.succ_mul]; exact Nat.mul_le_mul_right _ hlt
          refine zbb (hK29 _ _ ?_)
          refine zas fun K30 hK30 => ?_
          refine zbg ?_
          refine zac hp zao hc rfl fun K31 hK31 => ?_
          simp -dsimp -implicitDefEqProofs (disch := first | assumption | omega | (simp [maxLen, zab, zaw, zah, zan, za5, zaf, zad, zct, zci, zai] <;> omega) | decide) only [zat, zdo, zcm, zbu, zbd, zaj, zae, q_o, za8, ixO, za2, layF, zb4, ↓reduceIte, q_b, ifp, q_f, q_s, q_l, zca, q_a, D.one, Value.oneCell', Int.toNat_natCast, q_n, Nat.reduceEqDiff, zdk, zav, zap, iD, Nat.reduceAdd, zbd, gate_row, zf3, zr2, zr4, ztr, za_64]
          refine hK31 _ _ ?_
          refine zg1 zao hp hc mixed rfl [(0, []), (1, []), (2, []), (3, []), (4, []), (5, []), (6, []), (7, [4]), (8, []), (9, []), (10, []), (11, []), (12, [])] [[], [], [1], [1, 2], [1, 2, 3], [], [], [5, 6], [5, 6, 7], [1, 2, 3, 4, 5, 6, 7, 8], [0, 1, 2, 3, 4, 5, 6, 7, 8, 9], [0, 1, 2, 3, 4, 5, 6, 7, 8, 9, 10], [0, 1, 2, 3, 4, 5, 6, 7, 8, 9, 10, 11]] 1 (by kernel_rfl) fun K32 hK32 => ?_
          simp -dsimp -implicitDefEqProofs (disch := first | assumption | omega | (simp [maxLen, zab, zaw, zah, zan, za5, zaf, zad, zct, zci, zai] <;> omega) | decide) only [zae, q_o, za8, zam, zev, ↓reduceIte, q_b, ifp, q_f, q_s, q_l, List.replicate_zero, List.replicate_succ, q_n, Nat.reduceEqDiff, zak, Nat.reduceAdd, zgm, zfc, List.getD_cons_zero, List.getD_cons_succ, zg2, zgn, zll, zir, zfd, zih, zfg, zfh, zr4, ztr]
          refine zp6 (S := bldH ts2 μu2 μm2 n.ins.length sh fs) (T := [.cells (avs (netC n)), .cells [.d (.val (.slice none 0 0)), .d (.val (.slice none 0 0))], .cells (gA (nth n.gates j)), .free]) (gate_c V n.ins.length sh fs ts2 μu2 μm2 (nth n.gates j) hS2 hsh (Nat.le_of_eq hV) hf2 (by omega) hg (by unfold bigB; omega)) rfl (Nat.le_of_ble_eq_true rfl) (by first | rfl | (simp [AV.allIs, AV.allI, zbs, zb3, zbz, okI, ltI, za6, zcp, mgrH, mgrC, bldG, bldT, bldH, gA]; done) | (intro o ho; simp at ho; done)) (fun t => zdb (by first | rfl | (simp [AV.allIs, AV.allI, zbs, zb3, zbz, okI, ltI, za6, zcp, mgrH, mgrC, bldG, bldT, bldH, gA]; done) | (intro o ho; simp at ho; done)) t) (fun t => zdb (by first | rfl | (simp [AV.allIs, AV.allI, zbs, zb3, zbz, okI, ltI, za6, zcp, mgrH, mgrC, bldG, bldT, bldH, gA]; done) | (intro o ho; simp at ho; done)) t) (by first | rfl | (simp [AV.allIs, AV.allI, zbs, zb3, zbz, okI, ltI, za6, zcp, mgrH, mgrC, bldG, bldT, bldH, gA]; done) | (intro o ho; simp at ho; done)) (by first | rfl | (simp [AV.allIs, AV.allI, zbs, ltI, za6, zcp, mgrH, mgrC, bldT, bldH]; done) | (intro o ho; simp at ho; done)) (by first | rfl | (simp [AV.allIs, AV.allI, zbs, zbz, za6, mgrH, mgrC, bldT, bldH, gA]; done) | (intro o ho; simp at ho; done)) ?_
          rintro _ _ ⟨ts3, μu3, μm3, t3, rfl, rfl, hS3, hp3, hl3, hm3, hi3⟩
          refine ⟨rfl, ?_⟩
          simp -dsimp -implicitDefEqProofs (disch := first | assumption | omega | (simp [maxLen, zab, zaw, zah, zan, za5, zaf, zad, zct, zci, zai] <;> omega) | decide) only [zbd, zae, q_o, za8, zam, layF, zdl, srcF, zb4, zev, ↓reduceIte, q_b, ifp, ifn, q_f, q_s, q_l, List.append_nil, List.replicate_zero, List.replicate_succ, zbv, q_a, zbn, zga, and_true, q_n, Nat.reduceEqDiff, shB, appB, zav, zap, zab, zcv, List.drop_zero, iD, zbj, Nat.reduceAdd, zbd, List.length_map, zdl, frzF, zjs, zfv, zf2, zid, zll, zir, sS_bs, sS_app, zhl, mgrH, mgrC, bldH, bldT, shD, gA, netC, zbw, zbx, zih, zfg, zfh, zgp]
          have hf3 : ∀ t ∈ fs ++ [t3], t ∈ full ts3 := fun t ht => by
            rcases List.mem_append.1 ht with ht | ht
            · exact zdn hp3 (hf2 t ht)
            · rw [List.mem_singleton.1 ht]; exact hm3
          have hF3 : FsP V n.ins.length sh n.gates (j + 1) (fs ++ [t3]) := hF.snoc (hS3.row.okf hm3) hi3
          have hxl := exp_le hS3.row hf3
          have hxe := zai (expT (fs ++ [t3]))
          have hS3l := hS3.len
          unfold bigB at hS3l
          refine hK32 _ _ ?_
          refine zcx hp (τ' := frL [(2, .d (zbj nodes)), (6, .op 8 0), (11, .op 4 0), (99, .d (zbx n.gates)), (100, .d (iD n.gates.length)), (101, .d (iD j))]) (H' := bldH ts3 μu3 μm3 n.ins.length sh (fs ++ [t3]) ++ [.cells (avs (netC n)), .cells [.d (.val (.slice none 0 0)), .d (.val (.slice none 0 0))]]) ?_ ?_
          · refine Rt.trans (Rt.gc (keep := [0,1,2,3,4,11,6,7,8]) (by decide) (by decide) (by simp [])) ?_
            refine Rt.end (zaa (zaa (zaa (zaa (zaa (zaa (zaq _) rfl) rfl) rfl) rfl) rfl) rfl) ?_
            simp only [zbj, gcH, zb1, gc_m, zaz, gcVs, gcV, Nat.reduceAdd, posN, zav, zap, List.map_cons, List.map_nil, List.getD_cons_zero, List.getD_cons_succ, ↓reduceIte, Nat.reduceEqDiff, Option.map_some, List.cons_append, List.nil_append, gc_m, mgrH, mgrC, bldH, bldT, shD, netC, zbw, zbx]; rw [List.map_append, zfy hp3 hf2]; simp [avs, numD, iD]
          refine zcs zao hc mixed rfl (q := 0) (by kernel_rfl) (by kernel_rfl) fun K33 hK33 => ?_
          simp -dsimp -implicitDefEqProofs (disch := first | assumption | omega | (simp only [maxLen, List.length_replicate, eq_self, true_and, and_true, and_self, zab, List.length_map, List.length_append, List.length_cons, List.length_nil, List.length_set, List.length_range, List.length_take, List.length_drop, zaw, zah, zan, za5, zaf, zad, zct, zci, zai] <;> omega) | decide | fail) only [zco, zcq, zem, zhc, zd5, zae, za8, zam, zev, ↓reduceIte, Bool.false_eq_true, eq_self, ifp, zbi, zdq, zc3, zd4, List.map_cons, List.map_nil, List.length_cons, List.length_nil, List.getElem?_cons_zero, List.getElem?_cons_succ, List.cons_append, List.nil_append, List.append_nil, List.replicate_zero, Nat.zero_add, Nat.add_zero, Nat.reduceEqDiff, zav, zap, iD, zbj, Nat.reduceAdd, List.nil_append, mgrH, mgrC, bldH, bldT, shD, netC, zbw, zbx, zgs, zhz, zh0, zih, zfg, zfh]
          refine kc_new (export_n V ts3 μu3 μm3 hS3.row hS3.len (fs ++ [t3]) hf3 (by simp; omega)) ?_ ?_
          · simp (disch := first | assumption | omega | (simp only [maxLen, List.length_replicate, eq_self, true_and, and_true, and_self, zab, List.length_map, List.length_append, List.length_cons, List.length_nil, List.length_set, List.length_range, List.length_take, List.length_drop, zaw, zah, zan, za5, zaf, zad, zct, zci, zai] <;> omega) | decide | fail) only [zc2, zb5, zb0, zcn, zcf, zc7, zex, Nat.reduceAdd, zak, Option.map_some, Option.bind_some, Nat.mul_one, List.getElem?_cons_zero, List.getElem?_cons_succ, zf7, zno, mgrD, zka, zhk, zf7, zmi, fixN]
          simp -dsimp -implicitDefEqProofs (disch := first | assumption | omega | (simp [maxLen, zab, zaw, zah, zan, za5, zaf, zad, zct, zci, zai] <;> omega) | decide) only [zl3, zdt, zl4, zc4, zae, q_o, zmv, zh8, zfz, zay, lenF, zbe, zgj, ↓reduceIte, q_b, q_f, q_s, q_l, killAll, Nat.reduceAdd, List.length_map, bddD, bddC, ft_31_0, zep]
          refine hK33 _ _ ?_
          refine zau rfl (fun ht => ?_) (fun ht => ?_)
          · have hbig : 3000 < (expT (fs ++ [t3])).length := by simp at ht; omega
            refine zac hp zao hc rfl fun K34 hK34 => ?_
            simp -dsimp -implicitDefEqProofs (disch := first | assumption | omega | (simp [maxLen, zab, zaw, zah, zan, za5, zaf, zad, zct, zci, zai] <;> omega) | decide) only [zag, zdd, zbu, zaj, zae, q_o, zdx, zb4, ↓reduceIte, q_b, ifp, q_f, q_s, q_l, q_a, AV.one, D.one, Value.oneCell', q_n, Nat.reduceEqDiff, Nat.reduceAdd, zuw, zez, zuu]
            refine hK34 _ _ ?_
            refine zbc ?_
            try dsimp only [zkw, zet]
            refine zhx rfl ?_
            simp -dsimp -implicitDefEqProofs (disch := first | assumption | omega | (simp [maxLen, zab, zaw, zah, zan, za5, zaf, zad, zct, zci, zai] <;> omega) | decide) only [zae, q_o, za8, ↓reduceIte, q_b, ifp, q_f, q_l, q_n, Nat.reduceEqDiff, zak, Nat.reduceAdd, zez, zft]
            show ∃ r, za7 _ _ = some r ∧ _
            simp (disch := first | assumption | omega | (simp [maxLen, zab, zaw, zah, zan, za5, zaf, zad, zct, zci, zai] <;> omega) | decide) only [List.map_cons, List.map_nil, za7, zbr, zek, zb5, zb0, Nat.reduceAdd, Nat.zero_add, D.fix, Option.map_some, Option.bind_some, List.length_cons, List.length_nil]
            exact ⟨_, rfl, .inl ⟨j + 1, fs ++ [t3], by omega, hF3, hbig, rfl⟩⟩
          · have hsm : (expT (fs ++ [t3])).length ≤ 3000 := by simp at ht; omega
            refine zbb (hK30 _ _ ?_)
            refine zcw hp zao hc rfl fun K35 hK35 => ?_
            simp -dsimp -implicitDefEqProofs (disch := first | assumption | omega | (simp [maxLen, zab, zaw, zah, zan, za5, zaf, zad, zct, zci, zai] <;> omega) | decide) only [zal, za1, zaj, zae, q_o, zay, zcu, ↓reduceIte, q_b, q_f, Nat.reduceEqDiff]
            have hx3 : ∀ q, q < j + 1 → (expT ((fs ++ [t3]).take (2 + n.ins.length + (q + 1)))).length ≤ 3000 := fun q hq => by
              by_cases hqj : q < j
              · rw [zsd (by omega)]; exact hx2 q hqj
              · have : q = j := by omega
                subst this
                rw [List.take_of_length_le (by simp; omega)]; exact hsm
            refine hK35 _ _ ⟨_, _, _, ?_, ⟨j + 1, fs ++ [t3], ts3, μu3, μm3, ⟨by omega, hF3, hS3, hf3, by rw [Nat.succ_mul]; omega, hx3⟩, rfl, rfl, rfl⟩, ?_⟩
            · first | omega | (simp only [List.length_cons]; omega) | (dsimp only; omega)
            · refine Rt.trans (Rt.gc (keep := [0,1,2,3,4,5,6,7,8]) (by decide) (by decide) (by simp [])) ?_
              refine Rt.end (zaa (zaa (zaa (zaa (zaa (zaa (zaq _) rfl) rfl) rfl) rfl) rfl) rfl) ?_
              first | rfl | (simp only [zbj, gcH, zb1, gc_m, zaz, gcVs, gcV, Nat.reduceAdd, posN, zav, zap, List.map_cons, List.map_nil, List.getD_cons_zero, List.getD_cons_succ, ↓reduceIte, Nat.reduceEqDiff, Option.map_some, List.cons_append, List.nil_append, gc_m, mgrH, mgrC, bldH, bldT, shD, netC, zbw, zbx]; first | done | rfl)
        · have hjj : j = n.gates.length := by simp at ht; omega
          subst hjj
          have hFl := hF.len
          have hS2l := hS2.len
          unfold bigB at hS2l
          have hroot : ∀ k, k < nodes.length → 0 ≤ nth nodes k ∧ nth nodes k < fs.length := fun k hk => by
            have := List.any_eq_false.1 hno _ (zdi hk)
            simp only [unkB, Bool.or_eq_true, decide_eq_true_eq, not_or] at this
            omega
          refine zcl (hK26 _ _ ?_)
          refine zac hp zao hc rfl fun K36 hK36 => ?_
          simp -dsimp -implicitDefEqProofs (disch := first | assumption | omega | (simp [maxLen, zab, zaw, zah, zan, za5, zaf, zad, zct, zci, zai] <;> omega) | decide) only [zag, zaj, q_f]
          refine hK36 _ _ ?_
          refine zas fun K37 hK37 => ?_
          refine zac hp zao hc rfl fun K38 hK38 => ?_
          simp -dsimp -implicitDefEqProofs (disch := first | assumption | omega | (simp [maxLen, zab, zaw, zah, zan, za5, zaf, zad, zct, zci, zai] <;> omega) | decide) only [zal, zb8, zaj, zae, q_o, lenF, zbe, ↓reduceIte, q_b, q_f, q_s, Nat.reduceEqDiff, zea]
          refine hK38 _ _ ?_
          refine zbg ?_
          refine zby hp (fun τ' H' mm => ∃ (i : Nat), (i ≤ nodes.length) ∧ mm = nodes.length - i ∧ H' = bldH ts2 μu2 μm2 n.ins.length sh fs ++ [.cells (avs (netC n)), .cells [.d (.val (.slice none 0 0)), .d (.val (.slice none 0 0))], .cells (avs (((ze1 fs nodes).take i).map (numD ts2)))] ∧ τ' = frL [(6, .op 8 0), (11, .op 4 0), (18, .os 1 9 0 i), (131, .d (zbj nodes)), (132, .d (iD nodes.length)), (133, .d (iD i))]) (nodes.length) ?_ ⟨0, Nat.zero_le _, rfl, rfl, rfl⟩ ?_
          · refine Rt.trans (Rt.nil 18 1 rfl) ?_
            refine Rt.trans (Rt.gc (keep := [0,1,2,3,4,5,6,7,8,9]) (by decide) (by decide) (by simp [])) ?_
            refine Rt.end (zaa (zaa (zaa (zaa (zaa (zaa (zaq _) rfl) rfl) rfl) rfl) rfl) rfl) ?_
            first | rfl | (simp only [zbj, gcH, zb1, gc_m, zaz, gcVs, gcV, Nat.reduceAdd, posN, zav, zap, List.map_cons, List.map_nil, List.getD_cons_zero, List.getD_cons_succ, ↓reduceIte, Nat.reduceEqDiff, Option.map_some, List.cons_append, List.nil_append, gc_m, mgrH, mgrC, bldH, bldT, shD, netC, zbw, zbx]; first | done | rfl)
          rintro τ' H' mm ⟨i, hi, rfl, rfl, rfl⟩
          refine zac hp zao hc rfl fun K39 hK39 => ?_
          simp -dsimp -implicitDefEqProofs (disch := first | assumption | omega | (simp [maxLen, zab, zaw, zah, zan, za5, zaf, zad, zct, zci, zai] <;> omega) | decide) only [za1, zaj, zae, q_o, zay, zcz, ↓reduceIte, q_b, q_f, q_s, Nat.reduceEqDiff, zav, zap, iD, zbj, mgrH, mgrC, bldH, bldT, shD, netC, zbw, zbx]
          refine hK39 _ _ ?_
          refine zas fun K40 hK40 => ?_
          refine zau rfl (fun ht => ?_) (fun ht => ?_)
          · have hlt : i < nodes.length := by simp at ht; omega
            obtain ⟨r0, r1⟩ := hroot i hlt
            have hrl := zml fs nodes
            refine zbb (hK40 _ _ ?_)
            refine zas fun K41 hK41 => ?_
            refine zbg ?_
            refine zac hp zao hc rfl fun K42 hK42 => ?_
            simp -dsimp -implicitDefEqProofs (disch := first | assumption | omega | (simp [maxLen, zab, zaw, zah, zan, za5, zaf, zad, zct, zci, zai] <;> omega) | decide) only [zag, zat, zdo, zaj, zae, q_o, za8, ixO, za2, ↓reduceIte, q_b, ifp, q_f, Int.toNat_natCast, q_n, Nat.reduceEqDiff, zcg, iD, zea, sz_3, ag_3]
            refine hK42 _ _ ?_
            refine zcw hp zao hc rfl fun K43 hK43 => ?_
            simp -dsimp -implicitDefEqProofs (disch := first | assumption | omega | (simp [maxLen, zab, zaw, zah, zan, za5, zaf, zad, zct, zci, zai] <;> omega) | decide) only [zal, zag, zat, zb6, zdo, ze9, zdw, zd6, zbd, zaj, zae, q_o, za8, zam, ixO, za2, layF, srcF, zev, ↓reduceIte, q_b, ifp, ifn, q_f, q_s, q_l, List.append_nil, List.replicate_zero, List.replicate_succ, zbv, q_a, zbn, and_true, q_n, Nat.reduceEqDiff, zab, ze4, zcv, zak, List.drop_zero, zcg, iD, Nat.reduceAdd, zbd, List.length_map, numD, zcg, zih, zfg, zfh, zea, sz_3, ag_3, zgp]
            refine hK43 _ _ (hK41 _ _ ?_)
            refine zcw hp zao hc rfl fun K44 hK44 => ?_
            simp -dsimp -implicitDefEqProofs (disch := first | assumption | omega | (simp [maxLen, zab, zaw, zah, zan, za5, zaf, zad, zct, zci, zai] <;> omega) | decide) only [zal, za1, zaj, zae, q_o, zay, zcu, ↓reduceIte, q_b, q_f, Nat.reduceEqDiff]
            refine hK44 _ _ ⟨_, _, _, ?_, ⟨i + 1, by omega, rfl, rfl, rfl⟩, ?_⟩
            · first | omega | (simp only [List.length_cons]; omega) | (dsimp only; omega)
            · refine Rt.trans (Rt.gc (keep := [0,1,2,3,4,5,6,7,8,11]) (by decide) (by decide) (by simp [])) ?_
              refine Rt.end (zaa (zaa (zaa (zaa (zaa (zaa (zaq _) rfl) rfl) rfl) rfl) rfl) rfl) ?_
              simp only [zbj, gcH, zb1, gc_m, zaz, gcVs, gcV, Nat.reduceAdd, posN, zav, zap, List.map_cons, List.map_nil, List.getD_cons_zero, List.getD_cons_succ, ↓reduceIte, Nat.reduceEqDiff, Option.map_some, List.cons_append, List.nil_append, gc_m, mgrH, mgrC, bldH, bldT, shD, netC, zbw, zbx]; rw [zfq (l := ze1 fs nodes) (by omega)]; simp [avs, numD, iD, ze1, zmz hlt]
          · have hii : i = nodes.length := by simp at ht; omega
            subst hii
            rw [List.take_of_length_le (by rw [zml]; exact Nat.le_refl _)]
            have hrl := zml fs nodes
            have hrm : ∀ t ∈ ze1 fs nodes, t ∈ full ts2 := fun t ht => by
              obtain ⟨k, hk, rfl⟩ := List.mem_map.1 ht
              obtain ⟨q, hq, rfl⟩ := List.getElem_of_mem hk
              obtain ⟨r0, r1⟩ := hroot q hq
              rw [zde hq] at r0 r1
              exact hf2 _ (zdi (by omega))
            have hxr := exp_le hS2.row hrm
            refine zcl (hK37 _ _ ?_)
            refine zac hp zao hc rfl fun K45 hK45 => ?_
            simp -dsimp -implicitDefEqProofs (disch := first | assumption | omega | (simp only [maxLen, List.length_replicate, eq_self, true_and, and_true, and_self, zab, List.length_map, List.length_append, List.length_cons, List.length_nil, List.length_set, List.length_range, List.length_take, List.length_drop, zaw, zah, zan, za5, zaf, zad, zct, zci, zai] <;> omega) | decide | fail) only [zal, zat, zb6, ze9, zbh, zae, za8, zam, zev, ↓reduceIte, Bool.false_eq_true, eq_self, ifp, zbi, zdq, zc3, zd4, List.map_cons, List.map_nil, List.length_cons, List.length_nil, List.getElem?_cons_zero, List.getElem?_cons_succ, Nat.zero_add, Nat.add_zero, Nat.reduceEqDiff, Nat.reduceAdd, zgs, zhz, zh0]
            refine kc_new ((by have := export_n V ts2 μu2 μm2 hS2.row hS2.len (ze1 fs nodes) hrm (by omega); rw [zml] at this; exact this)) ?_ ?_
            · simp (disch := first | assumption | omega | (simp only [maxLen, List.length_replicate, eq_self, true_and, and_true, and_self, zab, List.length_map, List.length_append, List.length_cons, List.length_nil, List.length_set, List.length_range, List.length_take, List.length_drop, zaw, zah, zan, za5, zaf, zad, zct, zci, zai] <;> omega) | decide | fail) only [zc2, zb5, zb0, zcn, zcf, zc7, zex, Nat.reduceAdd, zak, Option.map_some, Option.bind_some, Nat.mul_one, List.getElem?_cons_zero, List.getElem?_cons_succ, zf7, zno, mgrD, zka, zhk, zf7, zmi, fixN]
            simp -dsimp -implicitDefEqProofs (disch := first | assumption | omega | (simp [maxLen, zab, zaw, zah, zan, za5, zaf, zad, zct, zci, zai] <;> omega) | decide) only [zag, zbu, zaj, zae, zb4, ↓reduceIte, q_b, ifp, q_f, q_s, q_l, zca, q_a, D.one, q_n, Nat.reduceEqDiff, Nat.reduceAdd, List.length_map, bddD, bddC, zez]
            refine hK45 _ _ ?_
            refine zbc ?_
            try dsimp only [zkw, zet]
            refine zhx rfl ?_
            simp -dsimp -implicitDefEqProofs (disch := first | assumption | omega | (simp [maxLen, zab, zaw, zah, zan, za5, zaf, zad, zct, zci, zai] <;> omega) | decide) only [zae, q_o, za8, ↓reduceIte, q_b, ifp, q_f, q_l, q_n, Nat.reduceEqDiff, zak, Nat.reduceAdd, zez, zft]
            show ∃ r, za7 _ _ = some r ∧ _
            simp (disch := first | assumption | omega | (simp [maxLen, zab, zaw, zah, zan, za5, zaf, zad, zct, zci, zai] <;> omega) | decide) only [List.map_cons, List.map_nil, za7, zbr, zek, zb5, zb0, Nat.reduceAdd, Nat.zero_add, D.fix, Option.map_some, Option.bind_some, List.length_cons, List.length_nil]
            exact ⟨_, rfl, .inr ⟨fs, hF, hx2, by simp [bddF, bddD, bddC, iD]⟩⟩
end Go.Proofs.Ytgfnpfchdlcoeaa
