/- What Build refuses; its results, as the laws take them. -/
import Derived.Test.YtgfnpfchdlcoeaaQ
import Derived.Test.YtgfnpfchdlcoeaaCm
set_option linter.unusedVariables false
set_option linter.unusedSimpArgs false
namespace Go.Proofs.Ytgfnpfchdlcoeaa
open Go Go.RowKit
def refB (n : Net) (sh : List (Int × Int)) (nodes : List Int) : Bool := decide (8 < sh.length) || (sh.any outB || nodes.any (unkB (2 + n.ins.length + n.gates.length)))
set_option maxRecDepth 100000 in
set_option linter.unusedVariables false in
set_option maxHeartbeats 4000000 in
theorem build_a (n : Net) (sh : List (Int × Int)) (nodes : List Int) (h : refB n sh nodes = true) (hsl : sh.length ≤ maxLen) (hnl : nodes.length ≤ maxLen) (hil : n.ins.length ≤ 1000000) (hgl : n.gates.length ≤ 1000000) : zce Try.prog 41 [netD n, shI sh, zbj nodes] (.tup [.d (bddD [] []), .d (iD 1)]) := by
  have hin := zq1 sh hsl
  have hun := zq2 nodes (2 + n.ins.length + n.gates.length) hnl
  have hsl' := hsl
  unfold maxLen at hsl'
  refine zb7 (fn := Try.f41) (by kernel_rfl) Try.func41 rfl (Nat.le_of_ble_eq_true rfl) fun c hc hp => ?_
  refine zch (τ' := frL [(0, .d (netD n)), (1, .d (shI sh)), (2, .d (zbj nodes))]) (zaa (zaa (zaa (zaq _) rfl) rfl) rfl) ?_
  refine zac hp zao hc rfl fun K1 hK1 => ?_
  simp -dsimp -implicitDefEqProofs (disch := first | assumption | omega | (simp [maxLen, zab, zci, zaf, zad] <;> omega) | decide) only [zag, zdy, zcm, zbd, zaj, zae, q_o, layF, ↓reduceIte, q_b, q_f, q_s, q_l, zca, D.one, q_n, zdk, zav, zap, zbj, zbd, netD, netC, zbw, zbx, shI, zuv]
  refine hK1 _ _ ?_
  refine zac hp zao hc rfl fun K2 hK2 => ?_
  simp -dsimp -implicitDefEqProofs (disch := first | assumption | omega | (simp [maxLen, zab, zci, zaf, zad] <;> omega) | decide) only [zag, zaj, q_f]
  refine hK2 _ _ ?_
  refine zac hp zao hc rfl fun K3 hK3 => ?_
  simp -dsimp -implicitDefEqProofs (disch := first | assumption | omega | (simp [maxLen, zab, zci, zaf, zad] <;> omega) | decide) only [zat, zb6, za1, zb8, zcm, zbu, zbd, zaj, zae, q_o, za8, zam, zay, lenF, zbe, layF, zb4, zcu, ↓reduceIte, q_b, ifp, q_f, q_s, q_l, q_a, q_n, Nat.reduceEqDiff, zdk, zav, zap, Nat.reduceAdd, zbd, zgq, zkc, zkd, znp, sz_3, zhe, znq, znr, zr2, za_3]
  refine hK3 _ _ ?_
  refine zac hp zao hc rfl fun K4 hK4 => ?_
  simp -dsimp -implicitDefEqProofs (disch := first | assumption | omega | (simp [maxLen, zab, zci, zaf, zad] <;> omega) | decide) only [zag, zlj, zaj, ↓reduceIte, q_b, q_f, q_s]
  refine hK4 _ _ ?_
  refine zas fun K5 hK5 => ?_
  refine zac hp zao hc rfl fun K6 hK6 => ?_
  rcases (show 8 < sh.length ∨ (sh.length ≤ 8 ∧ sh.any outB = true) ∨ (sh.length ≤ 8 ∧ sh.any outB = false ∧ nodes.any (unkB (2 + n.ins.length + n.gates.length)) = true) by simp only [refB, Bool.or_eq_true, decide_eq_true_eq] at h; rcases h with h | h | h; exact .inl h; by_cases h8 : 8 < sh.length; exact .inl h8; exact .inr (.inl ⟨by omega, h⟩); by_cases h8 : 8 < sh.length; exact .inl h8; cases e : sh.any outB; exact .inr (.inr ⟨by omega, rfl, h⟩); exact .inr (.inl ⟨by omega, rfl⟩)) with q | ⟨q, q'⟩ | ⟨q, q', q''⟩
  · have q0 : decide ((8 : Int) < sh.length) = true := by simp; omega
    simp -dsimp -implicitDefEqProofs (disch := first | assumption | omega | (simp [maxLen, zab, zci, zaf, zad] <;> omega) | decide) only [zal, zbq, za1, zb8, zaj, sT_g, zae, gK_f, q_o, zay, lenF, zbe, zgj, ↓reduceIte, q_b, zar, zbk, q_f, q_s, q_l, Nat.reduceEqDiff, q0, zjv]
    refine hK6 _ _ ?_
    refine zau rfl (fun ht => ?_) (fun ht => ?_)
    · refine zac hp zao hc rfl fun K7 hK7 => ?_
      simp -dsimp -implicitDefEqProofs (disch := first | assumption | omega | (simp [maxLen, zab, zci, zaf, zad] <;> omega) | decide) only [zag, zdd, zbu, zaj, zae, q_o, zdx, zb4, ↓reduceIte, q_b, ifp, q_f, q_s, q_l, q_a, AV.one, D.one, Value.oneCell', q_n, Nat.reduceEqDiff, Nat.reduceAdd, zuw, zez, zuu]
      refine hK7 _ _ ?_
      refine zbc ?_
      try dsimp only [zkw, zet]
      refine zhx rfl ?_
      simp -dsimp -implicitDefEqProofs (disch := first | assumption | omega | (simp [maxLen, zab, zci, zaf, zad] <;> omega) | decide) only [zae, q_o, za8, ↓reduceIte, q_b, ifp, q_f, q_l, q_n, Nat.reduceEqDiff, zak, iD, Nat.reduceAdd, zez, zft]
      show za7 _ _ = _
      simp (disch := first | assumption | omega | (simp [maxLen, zab, zci, zaf, zad] <;> omega) | decide) only [List.map_cons, List.map_nil, za7, zbr, zek, zb5, zb0, Nat.reduceAdd, Nat.zero_add, D.fix, Option.map_some, Option.bind_some, List.length_cons, List.length_nil]
      rfl
    · cases ht
  · have q0 : decide ((8 : Int) < sh.length) = false := by simp; omega
    rw [q'] at hin
    simp -dsimp -implicitDefEqProofs (disch := first | assumption | omega | (simp [maxLen, zab, zci, zaf, zad] <;> omega) | decide) only [zal, za1, zb8, zbh, sT_g, zae, gK_t, q_o, zay, lenF, zbe, zgj, ↓reduceIte, q_b, zar, zbk, q_f, q_s, q_l, q_n, Nat.reduceEqDiff, Nat.reduceAdd, q0, zjv]
    refine zda (hin) rfl ?_
    simp -dsimp -implicitDefEqProofs (disch := first | assumption | omega | (simp [maxLen, zab, zci, zaf, zad] <;> omega) | decide) only [zal, zbq, zaj, sT_g, zae, gK_f, q_o, ↓reduceIte, q_b, zar, zbk, q_f, q_l, Nat.reduceEqDiff, oD]
    refine hK6 _ _ ?_
    refine zau rfl (fun ht => ?_) (fun ht => ?_)
    · refine zac hp zao hc rfl fun K8 hK8 => ?_
      simp -dsimp -implicitDefEqProofs (disch := first | assumption | omega | (simp [maxLen, zab, zci, zaf, zad] <;> omega) | decide) only [zag, zdd, zbu, zaj, zae, q_o, zdx, zb4, ↓reduceIte, q_b, ifp, q_f, q_s, q_l, q_a, AV.one, D.one, Value.oneCell', q_n, Nat.reduceEqDiff, Nat.reduceAdd, zuw, zez, zuu]
      refine hK8 _ _ ?_
      refine zbc ?_
      try dsimp only [zkw, zet]
      refine zhx rfl ?_
      simp -dsimp -implicitDefEqProofs (disch := first | assumption | omega | (simp [maxLen, zab, zci, zaf, zad] <;> omega) | decide) only [zae, q_o, za8, ↓reduceIte, q_b, ifp, q_f, q_l, q_n, Nat.reduceEqDiff, zak, iD, Nat.reduceAdd, zez, zft]
      show za7 _ _ = _
      simp (disch := first | assumption | omega | (simp [maxLen, zab, zci, zaf, zad] <;> omega) | decide) only [List.map_cons, List.map_nil, za7, zbr, zek, zb5, zb0, Nat.reduceAdd, Nat.zero_add, D.fix, Option.map_some, Option.bind_some, List.length_cons, List.length_nil]
      rfl
    · cases ht
  · have q0 : decide ((8 : Int) < sh.length) = false := by simp; omega
    rw [q'] at hin
    rw [q''] at hun
    simp -dsimp -implicitDefEqProofs (disch := first | assumption | omega | (simp [maxLen, zab, zci, zaf, zad] <;> omega) | decide) only [zal, za1, zb8, zbh, sT_g, zae, gK_t, q_o, zay, lenF, zbe, zgj, ↓reduceIte, q_b, zar, zbk, q_f, q_s, q_l, q_n, Nat.reduceEqDiff, Nat.reduceAdd, q0, zjv]
    refine zda (hin) rfl ?_
    simp -dsimp -implicitDefEqProofs (disch := first | assumption | omega | (simp [maxLen, zab, zci, zaf, zad] <;> omega) | decide) only [zal, zbq, zbh, sT_g, zae, gK_t, q_o, ↓reduceIte, q_b, zar, zbk, q_f, q_s, q_l, q_n, Nat.reduceEqDiff, oD, Nat.reduceAdd]
    refine zhh (hun) ?_ ?_
    · simp (disch := first | assumption | omega | (simp [maxLen, zab, zci, zaf, zad] <;> omega) | decide) only [zbr, zb5, zb0, zcn, zcf, zex, zfx, Nat.reduceAdd, D.fix, Option.map_some, Option.bind_some, List.getElem?_cons_zero, List.getElem?_cons_succ, iD, zbj]
    simp -dsimp -implicitDefEqProofs (disch := first | assumption | omega | (simp [maxLen, zab, zci, zaf, zad] <;> omega) | decide) only [zbq, zaj, zae, ↓reduceIte, q_b, q_f, Nat.reduceEqDiff]
    refine hK6 _ _ ?_
    refine zau rfl (fun ht => ?_) (fun ht => ?_)
    · refine zac hp zao hc rfl fun K9 hK9 => ?_
      simp -dsimp -implicitDefEqProofs (disch := first | assumption | omega | (simp [maxLen, zab, zci, zaf, zad] <;> omega) | decide) only [zag, zdd, zbu, zaj, zae, q_o, zdx, zb4, ↓reduceIte, q_b, ifp, q_f, q_s, q_l, q_a, AV.one, D.one, Value.oneCell', q_n, Nat.reduceEqDiff, Nat.reduceAdd, zuw, zez, zuu]
      refine hK9 _ _ ?_
      refine zbc ?_
      try dsimp only [zkw, zet]
      refine zhx rfl ?_
      simp -dsimp -implicitDefEqProofs (disch := first | assumption | omega | (simp [maxLen, zab, zci, zaf, zad] <;> omega) | decide) only [zae, q_o, za8, ↓reduceIte, q_b, ifp, q_f, q_l, q_n, Nat.reduceEqDiff, zak, iD, Nat.reduceAdd, zez, zft]
      show za7 _ _ = _
      simp (disch := first | assumption | omega | (simp [maxLen, zab, zci, zaf, zad] <;> omega) | decide) only [List.map_cons, List.map_nil, za7, zbr, zek, zb5, zb0, Nat.reduceAdd, Nat.zero_add, D.fix, Option.map_some, Option.bind_some, List.length_cons, List.length_nil]
      rfl
    · cases ht
/-- What Build gives, in parts. -/
def BuR (V : Nat) (n : Net) (sh : Sh) (nodes : List Int) (ns : List Nd) (rs : List Nat) (e : Int) : Prop :=
  (e = 2 ∧ ns = [] ∧ rs = [] ∧ ∃ j fs, j ≤ n.gates.length ∧ FsP V n.ins.length sh n.gates j fs ∧ 3000 < (expT fs).length) ∨
  (e = 0 ∧ ∃ fs, FsP V n.ins.length sh n.gates n.gates.length fs ∧ (∀ q, q < n.gates.length → (expT (fs.take (2 + n.ins.length + (q + 1)))).length ≤ 3000) ∧ ns = erow (expT (ze1 fs nodes)) ∧ rs = (ze1 fs nodes).map (num (expT (ze1 fs nodes))))
theorem BuK.parts {V : Nat} {n : Net} {sh : Sh} {nodes : List Int} {r : AV} (h : BuK V n sh nodes r) : ∃ ns rs e, r = .tup [.d (bddD ns rs), .d (iD e)] ∧ BuR V n sh nodes ns rs e := by
  rcases h with ⟨j, fs, h1, h2, h3, rfl⟩ | ⟨fs, h1, h2, rfl⟩
  · exact ⟨_, _, _, rfl, .inl ⟨rfl, rfl, rfl, j, fs, h1, h2, h3⟩⟩
  · exact ⟨_, _, _, rfl, .inr ⟨rfl, fs, h1, h2, rfl, rfl⟩⟩
def bltD (ns : List Nd) (rs : List Nat) (e : Int) : D := .agg (bddC ns rs ++ [iD e])
structure BIn (V : Nat) (n : Net) (sh : Sh) (nodes : List Int) : Prop where
  hsh : ShOk sh
  hV : zcr n.ins.length sh = V
  hV9 : V ≤ 900
  hgs : ∀ k, k < n.gates.length → GOp (2 + n.ins.length + k) (nth n.gates k)
  hno : nodes.any (unkB (2 + n.ins.length + n.gates.length)) = false
  hnl : nodes.length ≤ 1000000
  hil : n.ins.length ≤ 1000
  hgl : n.gates.length ≤ 1000
  hB : n.ins.length + n.gates.length * (8 + 7 * 2 ^ V) + 32 * 2 ^ V ≤ bigB
theorem BIn.build {V : Nat} {n : Net} {sh : Sh} {nodes : List Int} (h : BIn V n sh nodes) : RCalls Try.prog 41 [netD n, shD sh, zbj nodes] (BuK V n sh nodes) := build_c V n sh nodes h.hsh h.hV h.hV9 h.hgs h.hno h.hnl h.hil h.hgl h.hB
set_option maxRecDepth 100000 in
set_option linter.unusedVariables false in
set_option maxHeartbeats 4000000 in
theorem zna (V : Nat) (n : Net) (sh : Sh) (nodes : List Int) (hb : BIn V n sh nodes) : RCalls Try.prog 15 [netD n, shD sh, zbj nodes] (fun r => ∃ ns rs e, r = .d (bltD ns rs e) ∧ BuR V n sh nodes ns rs e) := by
  refine zho (fn := Try.f15) (by kernel_rfl) Try.func15 rfl (Nat.le_of_ble_eq_true rfl) fun c hc hp => ?_
  refine zch (τ' := frL [(0, .d (netD n)), (1, .d (shD sh)), (2, .d (zbj nodes))]) (zaa (zaa (zaa (zaq _) rfl) rfl) rfl) ?_
  refine zac hp zao hc rfl fun K1 hK1 => ?_
  simp -dsimp -implicitDefEqProofs (disch := first | assumption | omega | (simp [maxLen, zab, zaf, zad, zan, zah] <;> omega) | decide) only [zdy, zcm, zbd, zaj, zae, q_o, layF, ↓reduceIte, q_b, q_f, q_s, q_l, zca, D.one, q_n, zdk, zav, zap, zbj, zbd, netD, netC, zbw, zbx, shD, ztq]
  refine hK1 _ _ ?_
  refine zac hp zao hc rfl fun K2 hK2 => ?_
  simp -dsimp -implicitDefEqProofs (disch := first | assumption | omega | (simp [maxLen, zab, zaf, zad, zan, zah] <;> omega) | decide) only [zal, zat, zbh, zae, q_o, za8, ↓reduceIte, q_b, ifp, q_f, q_s, q_l, q_n, Nat.reduceEqDiff, zak, Nat.reduceAdd, zes, zfi]
  refine znh (hb.build) rfl fun r hr0 => ?_
  obtain ⟨ns, rs, e, rfl, hr⟩ := BuK.parts hr0
  simp -dsimp -implicitDefEqProofs (disch := first | assumption | omega | (simp [maxLen, zab, zaf, zad, zan, zah] <;> omega) | decide) only [zal, zag, zei, zcm, zbu, zbd, zaj, zae, q_o, layF, zb4, ↓reduceIte, q_b, ifp, q_f, q_s, q_l, zca, q_a, D.one, q_n, Nat.reduceEqDiff, zdk, zav, zap, iD, Nat.reduceAdd, zbd, bddD, bddC, zez, zuv]
  refine hK2 _ _ ?_
  refine zac hp zao hc rfl fun K3 hK3 => ?_
  simp -dsimp -implicitDefEqProofs (disch := first | assumption | omega | (simp [maxLen, zab, zaf, zad, zan, zah] <;> omega) | decide) only [zal, zat, zdd, zbu, zaj, zae, q_o, za8, zdx, zb4, ↓reduceIte, q_b, ifp, ifn, q_f, q_s, q_l, q_a, zbn, AV.one, D.one, Value.oneCell', q_n, Nat.reduceEqDiff, zak, Nat.reduceAdd, zez, zft, pa_47, zr3, pl_47_1, zns, zc_47]
  refine hK3 _ _ ?_
  refine zbc ?_
  try dsimp only [zkw, zet]
  refine zg0 rfl ?_
  simp -dsimp -implicitDefEqProofs (disch := first | assumption | omega | (simp [maxLen, zab, zaf, zad, zan, zah] <;> omega) | decide) only [zae, q_o, za8, ↓reduceIte, q_b, ifp, q_f, q_l, q_n, Nat.reduceEqDiff, zak, Nat.reduceAdd, zns, ag_47]
  show ∃ r, za7 _ _ = some r ∧ _
  simp (disch := first | assumption | omega | (simp [maxLen, zab, zaf, zad, zan, zah] <;> omega) | decide) only [za7, zbr, zek, zb5, zb0, Nat.reduceAdd, Nat.zero_add, D.fix, Option.map_some, Option.bind_some, List.length_cons, List.length_nil]
  exact ⟨_, rfl, ns, rs, e, rfl, hr⟩
set_option maxRecDepth 100000 in
set_option linter.unusedVariables false in
set_option maxHeartbeats 4000000 in
theorem built_a (n : Net) (sh : List (Int × Int)) (nodes : List Int) (h : refB n sh nodes = true) (hsl : sh.length ≤ maxLen) (hnl : nodes.length ≤ maxLen) (hil : n.ins.length ≤ 1000000) (hgl : n.gates.length ≤ 1000000) : zce Try.prog 15 [netD n, shI sh, zbj nodes] (.d (bltD [] [] 1)) := by
  refine zb7 (fn := Try.f15) (by kernel_rfl) Try.func15 rfl (Nat.le_of_ble_eq_true rfl) fun c hc hp => ?_
  refine zch (τ' := frL [(0, .d (netD n)), (1, .d (shI sh)), (2, .d (zbj nodes))]) (zaa (zaa (zaa (zaq _) rfl) rfl) rfl) ?_
  refine zac hp zao hc rfl fun K1 hK1 => ?_
  simp -dsimp -implicitDefEqProofs (disch := first | assumption | omega | (simp [maxLen, zab, zaf, zad, zci] <;> omega) | decide) only [zdy, zcm, zbd, zaj, zae, q_o, layF, ↓reduceIte, q_b, q_f, q_s, q_l, zca, D.one, q_n, zdk, zav, zap, zbj, zbd, netD, netC, zbw, zbx, shI, ztq]
  refine hK1 _ _ ?_
  refine zac hp zao hc rfl fun K2 hK2 => ?_
  simp -dsimp -implicitDefEqProofs (disch := first | assumption | omega | (simp [maxLen, zab, zaf, zad, zci] <;> omega) | decide) only [zal, zat, zbh, zae, q_o, za8, ↓reduceIte, q_b, ifp, q_f, q_s, q_l, q_n, Nat.reduceEqDiff, zak, Nat.reduceAdd, zes, zfi]
  refine zda (build_a n sh nodes h hsl hnl hil hgl) rfl ?_
  simp -dsimp -implicitDefEqProofs (disch := first | assumption | omega | (simp [maxLen, zab, zaf, zad, zci] <;> omega) | decide) only [zal, zag, zei, zcm, zbu, zbd, zaj, zae, q_o, layF, zb4, ↓reduceIte, q_b, ifp, q_f, q_s, q_l, zca, q_a, D.one, q_n, Nat.reduceEqDiff, zdk, zav, zap, iD, Nat.reduceAdd, zbd, bddD, bddC, zez, zuv]
  refine hK2 _ _ ?_
  refine zac hp zao hc rfl fun K3 hK3 => ?_
  simp -dsimp -implicitDefEqProofs (disch := first | assumption | omega | (simp [maxLen, zab, zaf, zad, zci] <;> omega) | decide) only [zal, zat, zdd, zbu, zaj, zae, q_o, za8, zdx, zb4, ↓reduceIte, q_b, ifp, ifn, q_f, q_s, q_l, q_a, zbn, AV.one, D.one, Value.oneCell', q_n, Nat.reduceEqDiff, zak, Nat.reduceAdd, zez, zft, pa_47, zr3, pl_47_1, zns, zc_47]
  refine hK3 _ _ ?_
  refine zbc ?_
  try dsimp only [zkw, zet]
  refine zg0 rfl ?_
  simp -dsimp -implicitDefEqProofs (disch := first | assumption | omega | (simp [maxLen, zab, zaf, zad, zci] <;> omega) | decide) only [zae, q_o, za8, ↓reduceIte, q_b, ifp, q_f, q_l, q_n, Nat.reduceEqDiff, zak, Nat.reduceAdd, zns, ag_47]
  show za7 _ _ = _
  simp (disch := first | assumption | omega | (simp [maxLen, zab, zaf, zad, zci] <;> omega) | decide) only [za7, zbr, zek, zb5, zb0, Nat.reduceAdd, Nat.zero_add, D.fix, Option.map_some, Option.bind_some, List.length_cons, List.length_nil]
  rfl
set_option maxRecDepth 100000 in
set_option linter.unusedVariables false in
set_option maxHeartbeats 4000000 in
theorem zsf (V : Nat) (us : List T) (rs : List Nat) (hr : RowOk V us) (hV : V ≤ 1000) (hul : us.length ≤ bigB) (node n : Int) : zce Try.prog 20 [bddD (erow us) rs, iD node, iD n] (.d (.agg [za9 (anyL us node n), iD (anyE us node n)])) := by
  refine zb7 (fn := Try.f20) (by kernel_rfl) Try.func20 rfl (Nat.le_of_ble_eq_true rfl) fun c hc hp => ?_
  refine zch (τ' := frL [(0, .d (bddD (erow us) rs)), (1, .d (iD node)), (2, .d (iD n))]) (zaa (zaa (zaa (zaq _) rfl) rfl) rfl) ?_
  refine zac hp zao hc rfl fun K1 hK1 => ?_
  simp -dsimp -implicitDefEqProofs (disch := first | assumption | omega | (simp [maxLen, zab, zah] <;> omega) | decide) only [zdy, zcm, zbd, zaj, zae, q_o, layF, ↓reduceIte, q_b, q_f, q_s, q_l, zca, D.one, q_n, zdk, zav, zap, iD, zbd, bddD, bddC, za_53]
  refine hK1 _ _ ?_
  refine zac hp zao hc rfl fun K2 hK2 => ?_
  simp -dsimp -implicitDefEqProofs (disch := first | assumption | omega | (simp [maxLen, zab, zah] <;> omega) | decide) only [zal, zat, zbh, zae, q_o, za8, ↓reduceIte, q_b, ifp, q_f, q_s, q_l, q_n, Nat.reduceEqDiff, zak, Nat.reduceAdd, zez, zft]
  refine zda (any_c V us rs hr hV hul node n) rfl ?_
  simp -dsimp -implicitDefEqProofs (disch := first | assumption | omega | (simp [maxLen, zab, zah] <;> omega) | decide) only [zal, zag, zei, zaj, zae, ↓reduceIte, q_b, q_f, q_l, Nat.reduceEqDiff, iD, za9]
  refine hK2 _ _ ?_
  refine zac hp zao hc rfl fun K3 hK3 => ?_
  simp -dsimp -implicitDefEqProofs (disch := first | assumption | omega | (simp [maxLen, zab, zah] <;> omega) | decide) only [zal, zdd, zbu, zaj, zae, q_o, zdx, zb4, ↓reduceIte, q_b, ifp, ifn, q_f, q_s, q_l, q_a, zbn, as_fs, AV.one, D.one, Value.oneCell', q_n, Nat.reduceEqDiff, Nat.reduceAdd, pa_53, pl_53_0, pl_53_1, sz_53, zc_53]
  refine hK3 _ _ ?_
  refine zbc ?_
  try dsimp only [zkw, zet]
  refine zg0 rfl ?_
  simp -dsimp -implicitDefEqProofs (disch := first | assumption | omega | (simp [maxLen, zab, zah] <;> omega) | decide) only [zae, q_o, za8, ↓reduceIte, q_b, ifp, q_f, q_l, q_n, Nat.reduceEqDiff, zak, iD, za9, Nat.reduceAdd, sz_53, ag_53]
  show za7 _ _ = _
  simp (disch := first | assumption | omega | (simp [maxLen, zab, zah] <;> omega) | decide) only [za7, zbr, zek, zb5, zb0, Nat.reduceAdd, Nat.zero_add, D.fix, Option.map_some, Option.bind_some, List.length_cons, List.length_nil]
set_option maxRecDepth 100000 in
set_option linter.unusedVariables false in
set_option maxHeartbeats 4000000 in
theorem zkh (V : Nat) (us : List T) (rs : List Nat) (hr : RowOk V us) (hV : V ≤ 1000) (hul : us.length ≤ bigB) (node n : Int) : zce Try.prog 27 [bddD (erow us) rs, iD node, iD n] (.d (.agg [iD (cntA us node n), iD (askE us node n)])) := by
  refine zb7 (fn := Try.f27) (by kernel_rfl) Try.func27 rfl (Nat.le_of_ble_eq_true rfl) fun c hc hp => ?_
  refine zch (τ' := frL [(0, .d (bddD (erow us) rs)), (1, .d (iD node)), (2, .d (iD n))]) (zaa (zaa (zaa (zaq _) rfl) rfl) rfl) ?_
  refine zac hp zao hc rfl fun K1 hK1 => ?_
  simp -dsimp -implicitDefEqProofs (disch := first | assumption | omega | (simp [maxLen, zab, zah] <;> omega) | decide) only [zdy, zcm, zbd, zaj, zae, q_o, layF, ↓reduceIte, q_b, q_f, q_s, q_l, zca, D.one, q_n, zdk, zav, zap, iD, zbd, bddD, bddC, za_59]
  refine hK1 _ _ ?_
  refine zac hp zao hc rfl fun K2 hK2 => ?_
  simp -dsimp -implicitDefEqProofs (disch := first | assumption | omega | (simp [maxLen, zab, zah] <;> omega) | decide) only [zal, zat, zbh, zae, q_o, za8, ↓reduceIte, q_b, ifp, q_f, q_s, q_l, q_n, Nat.reduceEqDiff, zak, Nat.reduceAdd, zez, zft]
  refine zda (count_c V us rs hr hV hul node n) rfl ?_
  simp -dsimp -implicitDefEqProofs (disch := first | assumption | omega | (simp [maxLen, zab, zah] <;> omega) | decide) only [zal, zag, zei, zaj, zae, ↓reduceIte, q_b, q_f, q_l, Nat.reduceEqDiff, iD]
  refine hK2 _ _ ?_
  refine zac hp zao hc rfl fun K3 hK3 => ?_
  simp -dsimp -implicitDefEqProofs (disch := first | assumption | omega | (simp [maxLen, zab, zah] <;> omega) | decide) only [zal, zdd, zbu, zaj, zae, q_o, zdx, zb4, ↓reduceIte, q_b, ifp, ifn, q_f, q_s, q_l, q_a, zbn, AV.one, D.one, Value.oneCell', q_n, Nat.reduceEqDiff, Nat.reduceAdd, pa_59, pl_59_0, pl_59_1, sz_59, zc_59]
  refine hK3 _ _ ?_
  refine zbc ?_
  try dsimp only [zkw, zet]
  refine zg0 rfl ?_
  simp -dsimp -implicitDefEqProofs (disch := first | assumption | omega | (simp [maxLen, zab, zah] <;> omega) | decide) only [zae, q_o, za8, ↓reduceIte, q_b, ifp, q_f, q_l, q_n, Nat.reduceEqDiff, zak, iD, Nat.reduceAdd, sz_59, ag_59]
  show za7 _ _ = _
  simp (disch := first | assumption | omega | (simp [maxLen, zab, zah] <;> omega) | decide) only [za7, zbr, zek, zb5, zb0, Nat.reduceAdd, Nat.zero_add, D.fix, Option.map_some, Option.bind_some, List.length_cons, List.length_nil]
end Go.Proofs.Ytgfnpfchdlcoeaa
