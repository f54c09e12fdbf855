/- Which diagrams are valid. -/
import Derived.Test.YtgfnpfchdlcoeaaQ
import Derived.Test.YtgfnpfchdlcoeaaCn
set_option linter.unusedVariables false
set_option linter.unusedSimpArgs false
namespace Go.Proofs.Ytgfnpfchdlcoeaa
open Go Go.RowKit
/-- A node as it comes. -/
structure NI where
  v : Int
  lo : Int
  hi : Int
deriving DecidableEq, Inhabited
def niC (n : NI) : List D := [iD n.v, iD n.lo, iD n.hi]
def niV (n : NI) : Value := .agg #[.int .i64 n.v, .int .i64 n.lo, .int .i64 n.hi]
def niA (n : NI) : List AV := [.d (iD n.v), .d (iD n.lo), .d (iD n.hi)]
theorem ni_w (n : NI) : (niC n).length = 3 := rfl
theorem zq3 {l : List NI} {k : Nat} (h : k < l.length) : zd0 (l.flatMap niC) (k * 3) 3 = some (niC (nth l k)) := zja ni_w h
theorem ni_0 {l : List NI} {k : Nat} (h : k < l.length) : (l.flatMap niC)[k * 3]? = some (iD (nth l k).v) := (zkr (j := 0) ni_w h (by omega)).trans rfl
theorem zbf {l : List NI} : (l.flatMap niC).length = l.length * 3 := zgl ni_w l
def bdiC (ns : List NI) (rs : List Int) : List D := [.fs (ns.flatMap niC) ns.length, .fs (rs.map iD) rs.length]
def bdiD (ns : List NI) (rs : List Int) : D := .agg (bdiC ns rs)
structure N64 (n : NI) : Prop where
  v : I64 n.v
  lo : I64 n.lo
  hi : I64 n.hi
def kB (ns : List NI) (i : Nat) (v k : Int) : Bool := decide (0 ≤ k) && (decide (k < i + 2) && (decide (k < 2) || decide (v < (nth ns (k - 2).toNat).v)))
def vB (ns : List NI) (i : Nat) : Bool := decide (0 ≤ (nth ns i).v) && (decide ((nth ns i).v ≤ 999) && (decide ((nth ns i).lo ≠ (nth ns i).hi) && (decide (nth ns i ∉ ns.take i) && (kB ns i (nth ns i).v (nth ns i).lo && kB ns i (nth ns i).v (nth ns i).hi))))
def rootB (c k : Int) : Bool := decide (0 ≤ k) && decide (k < c)
def zki (ns : List NI) (rs : List Int) : Bool := decide (ns.length ≤ 3000) && ((List.range ns.length).all (vB ns) && rs.all (rootB (2 + ns.length)))
theorem val_len {ns : List NI} {rs : List Int} (h : 3000 < ns.length) : zki ns rs = false := by unfold zki; rw [decide_eq_false (by omega)]; rfl
theorem zgu {ns : List NI} {rs : List Int} {i : Nat} (hi : i < ns.length) (h : vB ns i = false) : zki ns rs = false := by
  unfold zki
  have : (List.range ns.length).all (vB ns) = false := by
    rw [List.all_eq_false]
    exact ⟨i, List.mem_range.2 hi, by simp [h]⟩
  rw [this]; simp
theorem zve {ns : List NI} {rs : List Int} (h0 : ns.length ≤ 3000) (h : ∀ i, i < ns.length → vB ns i = true) : zki ns rs = rs.all (rootB (2 + ns.length)) := by
  unfold zki
  have : (List.range ns.length).all (vB ns) = true := List.all_eq_true.2 fun i hi => h i (List.mem_range.1 hi)
  rw [this, decide_eq_true h0]; rfl
theorem not_root (c k : Int) : (!rootB c k) = unkB c k := by
  unfold rootB unkB
  rw [Bool.eq_iff_iff]; simp <;> omega
theorem zop (c : Int) (l : List Int) : l.all (rootB c) = !l.any (unkB c) := by
  rw [List.all_eq_not_any_not]
  congr 1
  exact congrArg (List.any l) (funext fun k => not_root c k)
set_option maxRecDepth 100000 in
set_option linter.unusedVariables false in
set_option maxHeartbeats 4000000 in
theorem vun_c (ns : List NI) (rs : List Int) (k : Int) (hl : ns.length ≤ 3000) : zce Try.prog 45 [iD k, .fp (bdiC ns rs) 0] (.d (oD (unkB (2 + ns.length) k))) := by
  refine zb7 (fn := Try.f45) (by kernel_rfl) Try.func45 rfl (Nat.le_of_ble_eq_true rfl) fun c hc hp => ?_
  refine zch (τ' := frL [(0, .d (iD k)), (1, .d (.fp (bdiC ns rs) 0))]) (zaa (zaa (zaq _) rfl) rfl) ?_
  refine zac hp zao hc rfl fun K1 hK1 => ?_
  simp -dsimp -implicitDefEqProofs (disch := first | assumption | omega | (simp [maxLen, zab, zbf] <;> omega) | decide) only [zag, zaj, q_f, iD, bdiC]
  refine hK1 _ _ ?_
  refine zac hp zao hc rfl fun K2 hK2 => ?_
  rcases tf (decide (k < 0)) with q | q
  · simp -dsimp -implicitDefEqProofs (disch := first | assumption | omega | (simp [maxLen, zab, zbf] <;> omega) | decide) only [zal, zag, zbq, za1, zaj, sT_g, zae, gK_f, q_o, zay, zcz, ↓reduceIte, q_b, zar, zbk, q_f, q_l, Nat.reduceEqDiff, q]
    refine hK2 _ _ ?_
    refine zbc ?_
    show za7 _ _ = _
    simp (disch := first | assumption | omega | (simp [maxLen, zab, zbf] <;> omega) | decide) only [za7, retV, zbr, D.fix, zbi, ↓reduceIte, Option.map_some, List.length_nil, oD]
    simp [unkB, q]
  · simp -dsimp -implicitDefEqProofs (disch := first | assumption | omega | (simp [maxLen, zab, zbf] <;> omega) | decide) only [zal, zag, zbq, zat, zb6, za1, zb8, zaj, sT_g, zae, gK_t, q_o, za8, zam, zay, lenF, zbe, zcu, zcz, zeb, ↓reduceIte, q_b, zar, zbk, q_f, q_s, q_l, q_n, Nat.reduceEqDiff, q, zdc, zen, zeo, zep]
    refine hK2 _ _ ?_
    refine zbc ?_
    show za7 _ _ = _
    simp (disch := first | assumption | omega | (simp [maxLen, zab, zbf] <;> omega) | decide) only [za7, retV, zbr, D.fix, zbi, ↓reduceIte, Option.map_some, List.length_nil, oD]
    simp [unkB, q]
abbrev vclo (ns : List NI) (rs : List Int) : D := .clo (.func 45) [] [.fp (bdiC ns rs) 0]
set_option maxRecDepth 100000 in
set_option linter.unusedVariables false in
set_option maxHeartbeats 4000000 in
theorem index_v (ns : List NI) (rs l : List Int) (hns : ns.length ≤ 3000) (hl : l.length ≤ maxLen) : RCalls Try.prog 66 [zbj l, vclo ns rs] (fun r => ∃ z : Int, r = .d (iD z) ∧ (0 ≤ z ↔ l.any (unkB (2 + ns.length)) = true)) := by
  unfold maxLen at hl
  refine zho (fn := Try.f66) (by kernel_rfl) Try.func66 rfl (Nat.le_of_ble_eq_true rfl) fun c hc hp => ?_
  refine zch (τ' := frL [(0, .d (zbj l)), (1, .d (vclo ns rs))]) (zaa (zaa (zaq _) rfl) rfl) ?_
  refine zac hp zao hc rfl fun K1 hK1 => ?_
  simp -dsimp -implicitDefEqProofs (disch := first | assumption | omega | (simp [maxLen, zab] <;> omega) | decide) only [zag, zaj, q_f, zbj]
  refine hK1 _ _ ?_
  refine zas fun K2 hK2 => ?_
  refine zac hp zao hc rfl fun K3 hK3 => ?_
  simp -dsimp -implicitDefEqProofs (disch := first | assumption | omega | (simp [maxLen, zab] <;> omega) | decide) only [zal, zb8, zaj, zae, q_o, lenF, zbe, ↓reduceIte, q_b, q_f, q_s, Nat.reduceEqDiff, zea]
  refine hK3 _ _ ?_
  refine zbg ?_
  refine zby hp (fun τ' H' mm => ∃ k, (k ≤ l.length ∧ (l.take k).any (unkB (2 + ns.length)) = false) ∧ mm = l.length - k ∧ H' = [] ∧ τ' = frL [(0, .d (zbj l)), (1, .d (vclo ns rs)), (7, .d (iD l.length)), (8, .d (iD k))]) (l.length) ?_ ⟨0, ⟨Nat.zero_le _, rfl⟩, rfl, rfl, rfl⟩ ?_
  · refine Rt.end (zaa (zaa (zaa (zaa (zaq _) rfl) rfl) rfl) rfl) ?_
    first | rfl | (simp only [zbj, za9, zbp, zbt, zbm, gcH, zb1, zcb, zcc, gc_m, fz_m, zaz, gcVs, gcV, zcy, fzH, zc0, zb9, zcd, zbl, Nat.reduceAdd, fzVs, fzV, posN, zav, zap, List.map_cons, List.map_nil, List.getD_cons_zero, List.getD_cons_succ, ↓reduceIte, Nat.reduceEqDiff, Option.map_some, List.set_cons_zero, List.set_cons_succ, zba, zak, Nat.mul_one, List.length_map, List.cons_append, List.nil_append]; first | done | rfl)
  rintro τ' H' mm ⟨k, ⟨hk, hno⟩, rfl, rfl, rfl⟩
  refine zac hp zao hc rfl fun K4 hK4 => ?_
  simp -dsimp -implicitDefEqProofs (disch := first | assumption | omega | (simp [maxLen, zab] <;> omega) | decide) only [za1, zaj, zae, q_o, zay, zcz, ↓reduceIte, q_b, q_f, Nat.reduceEqDiff, iD, zbj]
  refine hK4 _ _ ?_
  refine zas fun K5 hK5 => ?_
  refine zau rfl (fun ht => ?_) (fun ht => ?_)
  · have hlt : k < l.length := by simp at ht; omega
    refine zbb (hK5 _ _ ?_)
    refine zas fun K6 hK6 => ?_
    refine zbg ?_
    refine zac hp zao hc rfl fun K7 hK7 => ?_
    simp -dsimp -implicitDefEqProofs (disch := first | assumption | omega | (simp [maxLen, zab] <;> omega) | decide) only [zal, zag, zaj, ↓reduceIte, q_b, q_f, Nat.reduceEqDiff]
    refine hK7 _ _ ?_
    refine zac hp zao hc rfl fun K8 hK8 => ?_
    simp -dsimp -implicitDefEqProofs (disch := first | assumption | omega | (simp [maxLen, zab] <;> omega) | decide) only [zal, zat, zdo, zfb, zae, q_o, za8, ixO, za2, ↓reduceIte, q_b, ifp, q_f, q_s, q_l, Int.toNat_natCast, q_n, Nat.reduceEqDiff, zcg, iD, zea, sz_3, ag_3]
    refine kc_clod (fi := []) (ca := [.fp (bdiC ns rs) 0]) (ds := [iD (nth l k)]) (vun_c ns rs (nth l k) hns) rfl ?_
    simp -dsimp -implicitDefEqProofs (disch := first | assumption | omega | (simp [maxLen, zab] <;> omega) | decide) only [zaj, q_f, oD]
    refine hK8 _ _ ?_
    refine zau rfl (fun ht => ?_) (fun ht => ?_)
    · have hy := ht
      refine zac hp zao hc rfl fun K9 hK9 => ?_
      simp -dsimp -implicitDefEqProofs (disch := first | assumption | omega | (simp [maxLen, zab] <;> omega) | decide) only [zal, zag, zaj, ↓reduceIte, q_b, q_f, Nat.reduceEqDiff]
      refine hK9 _ _ ?_
      refine zbc ?_
      show ∃ r, za7 _ _ = some r ∧ _
      simp (disch := first | assumption | omega | (simp [maxLen, zab] <;> omega) | decide) only [za7, retV, zbr, D.fix, zbi, ↓reduceIte, Option.map_some, List.length_nil, iD]
      exact ⟨_, rfl, _, rfl, fun _ => zmk hlt hy, fun _ => by omega⟩
    · refine zbb (hK6 _ _ ?_)
      refine zcw hp zao hc rfl fun K10 hK10 => ?_
      simp -dsimp -implicitDefEqProofs (disch := first | assumption | omega | (simp [maxLen, zab] <;> omega) | decide) only [zal, za1, zaj, zae, q_o, zay, zcu, ↓reduceIte, q_b, q_f, Nat.reduceEqDiff]
      refine hK10 _ _ ⟨_, _, _, ?_, ⟨k + 1, ⟨by omega, by rw [zon hlt, hno, ht]; rfl⟩, rfl, rfl, rfl⟩, ?_⟩
      · first | omega | (simp only [List.length_cons]; omega) | (dsimp only; omega)
      · refine Rt.end (zaa (zaa (zaa (zaa (zaq _) rfl) rfl) rfl) rfl) ?_
        first | rfl | (simp only [zbj, za9, zbp, zbt, zbm, gcH, zb1, zcb, zcc, gc_m, fz_m, zaz, gcVs, gcV, zcy, fzH, zc0, zb9, zcd, zbl, Nat.reduceAdd, fzVs, fzV, posN, zav, zap, List.map_cons, List.map_nil, List.getD_cons_zero, List.getD_cons_succ, ↓reduceIte, Nat.reduceEqDiff, Option.map_some, List.set_cons_zero, List.set_cons_succ, zba, zak, Nat.mul_one, List.length_map, List.cons_append, List.nil_append]; first | done | rfl)
  · have hge : k = l.length := by simp at ht; omega
    rw [hge, List.take_length] at hno
    refine zcl (hK2 _ _ ?_)
    refine zac hp zao hc rfl fun K11 hK11 => ?_
    simp -dsimp -implicitDefEqProofs (disch := first | assumption | omega | (simp [maxLen, zab] <;> omega) | decide) only [zag, zaj, q_f]
    refine hK11 _ _ ?_
    refine zbc ?_
    show ∃ r, za7 _ _ = some r ∧ _
    simp (disch := first | assumption | omega | (simp [maxLen, zab] <;> omega) | decide) only [za7, retV, zbr, D.fix, zbi, ↓reduceIte, Option.map_some, List.length_nil, iD]
    exact ⟨_, rfl, _, rfl, fun h => by omega, fun h => by rw [hno] at h; cases h⟩
set_option maxRecDepth 100000 in
set_option linter.unusedVariables false in
set_option maxHeartbeats 4000000 in
theorem contains_v (ns : List NI) (rs l : List Int) (hns : ns.length ≤ 3000) (hl : l.length ≤ maxLen) : zce Try.prog 44 [zbj l, vclo ns rs] (.d (oD (l.any (unkB (2 + ns.length))))) := by
  refine zb7 (fn := Try.f44) (by kernel_rfl) Try.func44 rfl (Nat.le_of_ble_eq_true rfl) fun c hc hp => ?_
  refine zch (τ' := frL [(0, .d (zbj l)), (1, .d (vclo ns rs))]) (zaa (zaa (zaq _) rfl) rfl) ?_
  refine zac hp zao hc rfl fun K1 hK1 => ?_
  simp -dsimp -implicitDefEqProofs (disch := first | assumption | omega | (simp [maxLen, zab] <;> omega) | decide) only [zag, zaj, q_f, zbj]
  refine hK1 _ _ ?_
  refine zac hp zao hc rfl fun K2 hK2 => ?_
  simp -dsimp -implicitDefEqProofs (disch := first | assumption | omega | (simp [maxLen, zab] <;> omega) | decide) only [zal, zbh, ↓reduceIte, q_b, q_f, q_s, q_l, Nat.reduceEqDiff]
  refine znh (index_v ns rs l hns hl) rfl fun r hr => ?_
  obtain ⟨z, rfl, hz⟩ := hr
  simp -dsimp -implicitDefEqProofs (disch := first | assumption | omega | (simp [maxLen, zab] <;> omega) | decide) only [zag, za1, zaj, zae, q_o, zay, zeb, ↓reduceIte, q_b, q_f, iD]
  refine hK2 _ _ ?_
  refine zbc ?_
  show za7 _ _ = _
  simp (disch := first | assumption | omega | (simp [maxLen, zab] <;> omega) | decide) only [za7, retV, zbr, D.fix, zbi, ↓reduceIte, Option.map_some, List.length_nil, oD]
  congr 4
  rw [Bool.eq_iff_iff, decide_eq_true_iff]
  exact hz
/-! ### Nodes that were seen -/
abbrev tV : TypeId := 96
theorem mtV : mtB Try.prog KT tV = some (.bool false) := by kernel_rfl
theorem key_ni {n : NI} (h : N64 n) : KeyP Try.prog tV (niV n) := by
  obtain ⟨ha, hb, hc⟩ := h
  refine ⟨rfl, fun kt et hm => ?_⟩
  have h0 : mapO Try.prog tV = some (83, 4) := by kernel_rfl
  rw [h0] at hm; cases hm
  exact (key_nd ha hb hc).2 _ 3 (by kernel_rfl)
theorem niV_inj {m n : NI} (h : niV m = niV n) : m = n := by
  cases m; cases n
  simp only [niV, Value.agg.injEq, Array.mk.injEq, List.cons.injEq, Value.int.injEq, true_and, and_true] at h
  obtain ⟨rfl, rfl, rfl⟩ := h
  rfl
theorem zsg {n : NI} : Value.agg #[.int .i64 n.v, .int .i64 n.lo, .int .i64 n.hi] = niV n := rfl
structure SOk (ns : List NI) (μ : Mp) : Prop where
  ok : OkM Try.prog tV μ
  get : ∀ n, getM (niV n) μ = if n ∈ ns then some (.bool true) else none
theorem SOk.nil : SOk [] ([], 0) := ⟨OkM.nil _ _, fun n => rfl⟩
theorem SOk.add {ns : List NI} {μ : Mp} (h : SOk ns μ) {n : NI} (hn : N64 n) : SOk (ns ++ [n]) (putM (niV n) (.bool true) μ) := by
  refine ⟨h.ok.put (key_ni hn), fun m => ?_⟩
  classical
  rw [zie (rfl : vKey (niV n) = true) rfl, h.get m]
  by_cases e : m = n
  · subst e; simp
  · rw [if_neg fun e' => e (niV_inj e')]; simp [e]
theorem or4 (a b c d : Bool) : a = true ∨ (a = false ∧ b = true) ∨ (a = false ∧ b = false ∧ c = true) ∨ (a = false ∧ b = false ∧ c = false ∧ d = true) ∨ (a = false ∧ b = false ∧ c = false ∧ d = false) := by
  cases a <;> cases b <;> cases c <;> cases d <;> simp
theorem k_bad {ns : List NI} {i : Nat} (h : kB ns i (nth ns i).v (nth ns i).lo = false ∨ kB ns i (nth ns i).v (nth ns i).hi = false) : vB ns i = false := by
  unfold vB
  rcases h with h | h <;> simp [h]
set_option maxRecDepth 100000 in
set_option linter.unusedVariables false in
set_option maxHeartbeats 4000000 in
theorem valid_c (ns : List NI) (rs : List Int) (hI : ∀ n ∈ ns, N64 n) (hnl : ns.length ≤ maxLen) (hrl : rs.length ≤ maxLen) : zce Try.prog 17 [bdiD ns rs] (.d (oD (zki ns rs))) := by
  unfold maxLen at hnl
  refine zb7 (fn := Try.f17) (by kernel_rfl) Try.func17 rfl (Nat.le_of_ble_eq_true rfl) fun c hc hp => ?_
  refine zch (τ' := frL [(0, .d (bdiD ns rs))]) (zaa (zaq _) rfl) ?_
  refine zac hp zao hc rfl fun K1 hK1 => ?_
  simp -dsimp -implicitDefEqProofs (disch := first | assumption | omega | (simp [maxLen, zab, zbf] <;> omega) | decide) only [zag, zdy, zbd, zaj, zae, q_o, layF, ↓reduceIte, q_b, q_f, q_s, q_l, zca, D.one, zbd, bdiD, bdiC]
  refine hK1 _ _ ?_
  refine zas fun K2 hK2 => ?_
  refine zac hp zao hc rfl fun K3 hK3 => ?_
  simp -dsimp -implicitDefEqProofs (disch := first | assumption | omega | (simp [maxLen, zab, zbf] <;> omega) | decide) only [zat, zb6, za1, zb8, zaj, zae, q_o, za8, zam, zay, lenF, zbe, zgj, ↓reduceIte, q_b, ifp, q_f, q_s, q_l, q_n, Nat.reduceEqDiff, zdc, zen, zeo, zep]
  refine hK3 _ _ ?_
  refine zau rfl (fun ht => ?_) (fun ht => ?_)
  · have hbig : 3000 < ns.length := by simp at ht; omega
    refine zac hp zao hc rfl fun K4 hK4 => ?_
    simp -dsimp -implicitDefEqProofs (disch := first | assumption | omega | (simp [maxLen, zab, zbf] <;> omega) | decide) only [zag, zaj, q_f]
    refine hK4 _ _ ?_
    refine zbc ?_
    show za7 _ _ = _
    simp (disch := first | assumption | omega | (simp [maxLen, zab, zbf] <;> omega) | decide) only [za7, retV, zbr, Nat.zero_add, D.fix, zbi, ↓reduceIte, Option.map_some, List.length_cons, List.length_nil, oD]
    rw [val_len hbig]
  · have hsm : ns.length ≤ 3000 := by simp at ht; omega
    refine zbb (hK2 _ _ ?_)
    refine zac hp zao hc rfl fun K5 hK5 => ?_
    simp -dsimp -implicitDefEqProofs (disch := first | assumption | omega | (simp [maxLen, zab, zbf] <;> omega) | decide) only [zag, zp3, zbd, zaj, zae, layF, ↓reduceIte, q_b, q_f, q_l, q_s, q_n, zbd, mm_m]
    refine hK5 _ _ ?_
    refine zas fun K6 hK6 => ?_
    refine zac hp zao hc rfl fun K7 hK7 => ?_
    simp -dsimp -implicitDefEqProofs (disch := first | assumption | omega | (simp [maxLen, zab, zbf] <;> omega) | decide) only [zal, zat, zb6, zb8, zaj, zae, q_o, za8, zam, lenF, zbe, ↓reduceIte, q_b, ifp, q_f, q_s, q_l, q_n, Nat.reduceEqDiff, Nat.reduceAdd, zdc, zen, zeo, zep]
    refine hK7 _ _ ?_
    refine zbg ?_
    refine zby hp (fun τ' H' mm => ∃ (i : Nat) (μ : Mp), (i ≤ ns.length ∧ SOk (ns.take i) μ ∧ ∀ j, j < i → vB ns j = true) ∧ mm = ns.length - i ∧ H' = [.cells (avs (bdiC ns rs)), mO μ] ∧ τ' = frL [(1, .op 0 0), (3, .om 1), (14, .d (.fs (ns.flatMap niC) ns.length)), (15, .d (iD ns.length)), (16, .d (iD i))]) (ns.length) ?_ ⟨0, ([], 0), ⟨Nat.zero_le _, SOk.nil, fun j hj => absurd hj (by omega)⟩, rfl, rfl, rfl⟩ ?_
    · refine Rt.end (zaa (zaa (zaa (zaa (zaa (zaq _) rfl) rfl) rfl) rfl) rfl) ?_
      first | rfl | (simp only [zbj, za9, zbp, zbt, zbm, gcH, zb1, zcb, zcc, gc_m, fz_m, zaz, gcVs, gcV, zcy, fzH, zc0, zb9, zcd, zbl, Nat.reduceAdd, fzVs, fzV, posN, zav, zap, List.map_cons, List.map_nil, List.getD_cons_zero, List.getD_cons_succ, ↓reduceIte, Nat.reduceEqDiff, Option.map_some, List.set_cons_zero, List.set_cons_succ, zba, zak, Nat.mul_one, List.length_map, List.cons_append, List.nil_append, zif, zmc, zmd, zme, ztg, zmf, zth, lk_dK, zg8, zi0, zry, zig, zdp, zc8, gc_m, fz_m, zf7, zno, fix_mD, mm_m, bdiD, bdiC, niA]; first | done | rfl)
    rintro τ' H' mm ⟨i, μ, ⟨hi, hS, hv⟩, rfl, rfl, rfl⟩
    refine zac hp zao hc rfl fun K8 hK8 => ?_
    simp -dsimp -implicitDefEqProofs (disch := first | assumption | omega | (simp [maxLen, zab, zbf] <;> omega) | decide) only [za1, zaj, zae, q_o, zay, zcz, ↓reduceIte, q_b, q_f, Nat.reduceEqDiff, zav, zap, iD, bdiC]
    refine hK8 _ _ ?_
    refine zas fun K9 hK9 => ?_
    refine zau rfl (fun ht => ?_) (fun ht => ?_)
    · have hlt : i < ns.length := by simp at ht; omega
      have hn := hI _ (zdi hlt)
      have hk := key_ni hn
      have hgm := hS.get (nth ns i)
      refine zbb (hK9 _ _ ?_)
      refine zas fun K10 hK10 => ?_
      refine zbg ?_
      refine zac hp zao hc rfl fun K11 hK11 => ?_
      simp -dsimp -implicitDefEqProofs (disch := first | assumption | omega | (simp [maxLen, zab, zbf] <;> omega) | decide) only [zal, zag, zat, zdo, zcm, zbu, zbd, zaj, zae, q_o, za8, ixO, za2, layF, zb4, ↓reduceIte, q_b, ifp, q_f, q_s, q_l, zca, q_a, D.one, Value.oneCell', Int.toNat_natCast, q_n, Nat.reduceEqDiff, zdk, zav, zap, iD, Nat.reduceAdd, zbd, zq3, niC, zep, zis, zje, zp7]
      refine hK11 _ _ ?_
      refine zas fun K12 hK12 => ?_
      refine zac hp zao hc rfl fun K13 hK13 => ?_
      rcases or4 (decide ((nth ns i).v < 0)) (decide (999 < (nth ns i).v)) ((nth ns i).lo == (nth ns i).hi) (decide (nth ns i ∈ ns.take i)) with q1 | ⟨q1, q2⟩ | ⟨q1, q2, q3⟩ | ⟨q1, q2, q3, q4⟩ | ⟨q1, q2, q3, q4⟩
      · have q2 := q1
        have q3 := q1
        have hbad : vB ns i = false := by simp only [decide_eq_true_eq] at q1; unfold vB; rw [decide_eq_false (p := 0 ≤ (nth ns i).v) (by omega)]; rfl
        simp -dsimp -implicitDefEqProofs (disch := first | assumption | omega | (simp [maxLen, zab, zbf] <;> omega) | decide) only [zal, zbq, zat, zb6, za1, zaj, sT_g, zae, gK_f, q_o, za8, zam, zay, zcz, ↓reduceIte, q_b, ifp, zar, zbk, q_f, q_l, q_n, Nat.reduceEqDiff, Nat.reduceAdd, q1, zdf, sz_3, ag_3]
        refine hK13 _ _ ?_
        refine zau rfl (fun ht => ?_) (fun ht => ?_)
        · refine zac hp zao hc rfl fun K14 hK14 => ?_
          simp -dsimp -implicitDefEqProofs (disch := first | assumption | omega | (simp [maxLen, zab, zbf] <;> omega) | decide) only [zag, zaj, q_f]
          refine hK14 _ _ ?_
          refine zbc ?_
          show za7 _ _ = _
          simp (disch := first | assumption | omega | (simp [maxLen, zab, zbf] <;> omega) | decide) only [za7, retV, zbr, Nat.reduceAdd, Nat.zero_add, D.fix, zbi, ↓reduceIte, Option.map_some, List.length_cons, List.length_nil, oD]
          rw [zgu hlt hbad]
        · cases ht
      · have q3 := q1
        have hbad : vB ns i = false := by simp only [decide_eq_true_eq] at q2; unfold vB; rw [decide_eq_false (p := (nth ns i).v ≤ 999) (by omega)]; simp
        simp -dsimp -implicitDefEqProofs (disch := first | assumption | omega | (simp [maxLen, zab, zbf] <;> omega) | decide) only [zal, zbq, zat, zb6, za1, zaj, sT_g, zae, gK_t, gK_f, q_o, za8, zam, zay, zcz, zgj, ↓reduceIte, q_b, ifp, zar, zbk, q_f, q_l, q_n, Nat.reduceEqDiff, Nat.reduceAdd, q1, q2, zdf, sz_3, ag_3]
        refine hK13 _ _ ?_
        refine zau rfl (fun ht => ?_) (fun ht => ?_)
        · refine zac hp zao hc rfl fun K15 hK15 => ?_
          simp -dsimp -implicitDefEqProofs (disch := first | assumption | omega | (simp [maxLen, zab, zbf] <;> omega) | decide) only [zag, zaj, q_f]
          refine hK15 _ _ ?_
          refine zbc ?_
          show za7 _ _ = _
          simp (disch := first | assumption | omega | (simp [maxLen, zab, zbf] <;> omega) | decide) only [za7, retV, zbr, Nat.reduceAdd, Nat.zero_add, D.fix, zbi, ↓reduceIte, Option.map_some, List.length_cons, List.length_nil, oD]
          rw [zgu hlt hbad]
        · cases ht
      · have hbad : vB ns i = false := by
          have q3' : (nth ns i).lo = (nth ns i).hi := by simpa using q3
          unfold vB; simp [q3']
        simp -dsimp -implicitDefEqProofs (disch := first | assumption | omega | (simp [maxLen, zab, zbf] <;> omega) | decide) only [zal, zbq, zat, zb6, za1, zaj, sT_g, zae, gK_t, gK_f, q_o, za8, zam, zay, zd9, zcz, zgj, ↓reduceIte, q_b, ifp, zar, zbk, q_f, q_l, q_n, Nat.reduceEqDiff, Nat.reduceAdd, q1, q2, q3, zdf, sz_3, ag_3, zd3, ze0]
        refine hK13 _ _ ?_
        refine zau rfl (fun ht => ?_) (fun ht => ?_)
        · refine zac hp zao hc rfl fun K16 hK16 => ?_
          simp -dsimp -implicitDefEqProofs (disch := first | assumption | omega | (simp [maxLen, zab, zbf] <;> omega) | decide) only [zag, zaj, q_f]
          refine hK16 _ _ ?_
          refine zbc ?_
          show za7 _ _ = _
          simp (disch := first | assumption | omega | (simp [maxLen, zab, zbf] <;> omega) | decide) only [za7, retV, zbr, Nat.reduceAdd, Nat.zero_add, D.fix, zbi, ↓reduceIte, Option.map_some, List.length_cons, List.length_nil, oD]
          rw [zgu hlt hbad]
        · cases ht
      · have q4' : nth ns i ∈ ns.take i := by simpa using q4
        rw [if_pos q4'] at hgm
        have hbad : vB ns i = false := by
          unfold vB; simp [q4']
        simp -dsimp -implicitDefEqProofs (disch := first | assumption | omega | (simp [maxLen, zab, zbf] <;> omega) | decide) only [zal, zbq, zat, zb6, za1, zew, zaj, sT_g, zae, gK_t, q_o, za8, zam, zay, zd9, zcz, zgj, ↓reduceIte, q_b, ifp, zar, zbk, q_f, q_l, q_n, Nat.reduceEqDiff, zak, Nat.reduceAdd, zg8, zig, zdp, zc8, q1, q2, q3, zsg, ziz, lkK_f mtV hk hS.ok, hgm, Option.getD_some, zdf, zis, zje, sz_3, ag_3, zd3, ze0]
        refine hK13 _ _ ?_
        refine zau rfl (fun ht => ?_) (fun ht => ?_)
        · refine zac hp zao hc rfl fun K17 hK17 => ?_
          simp -dsimp -implicitDefEqProofs (disch := first | assumption | omega | (simp [maxLen, zab, zbf] <;> omega) | decide) only [zag, zaj, q_f]
          refine hK17 _ _ ?_
          refine zbc ?_
          show za7 _ _ = _
          simp (disch := first | assumption | omega | (simp [maxLen, zab, zbf] <;> omega) | decide) only [za7, retV, zbr, Nat.reduceAdd, Nat.zero_add, D.fix, zbi, ↓reduceIte, Option.map_some, List.length_cons, List.length_nil, oD]
          rw [zgu hlt hbad]
        · cases ht
      · have q4' : nth ns i ∉ ns.take i := by simpa using q4
        rw [if_neg q4'] at hgm
        have q1' : 0 ≤ (nth ns i).v := by simpa using q1
        have q2' : (nth ns i).v ≤ 999 := by simpa using q2
        have q3' : (nth ns i).lo ≠ (nth ns i).hi := by simpa using q3
        simp -dsimp -implicitDefEqProofs (disch := first | assumption | omega | (simp [maxLen, zab, zbf] <;> omega) | decide) only [zal, zbq, zat, zb6, za1, zew, zaj, sT_g, zae, gK_t, q_o, za8, zam, zay, zd9, zcz, zgj, ↓reduceIte, q_b, ifp, zar, zbk, q_f, q_l, q_n, Nat.reduceEqDiff, zak, Nat.reduceAdd, zg8, zig, zdp, zc8, q1, q2, q3, zsg, ziz, lkK_f mtV hk hS.ok, hgm, Option.getD_none, zdf, zis, zje, sz_3, ag_3, zd3, ze0]
        refine hK13 _ _ ?_
        refine zau rfl (fun ht => ?_) (fun ht => ?_)
        · cases ht
        · refine zbb (hK12 _ _ ?_)
          refine zas fun K18 hK18 => ?_
          obtain ⟨kl, hkl⟩ : ∃ kl, kl = [(nth ns i).lo, (nth ns i).hi] := ⟨_, rfl⟩
          have hkll : kl.length = 2 := by rw [hkl]; rfl
          have hok : ∀ q, q < 2 → kB ns i (nth ns i).v (nth kl q) = false → vB ns i = false := fun q hq h => k_bad (by
            rw [hkl] at h
            match q, hq with
            | 0, _ => exact .inl h
            | 1, _ => exact .inr h)
          refine zac hp zao hc rfl fun K19 hK19 => ?_
          simp -dsimp -implicitDefEqProofs (disch := first | assumption | omega | (simp [maxLen, zab, zbf] <;> omega) | decide) only [zal, zat, zb6, zb8, zdw, zbd, zaj, zae, q_o, za8, zam, lenF, zbe, layF, ↓reduceIte, q_b, ifp, ifn, q_f, q_s, q_l, List.replicate_zero, List.replicate_succ, zbv, q_a, zbn, q_n, Nat.reduceEqDiff, Nat.reduceAdd, zbd, zd3, sz_3, ag_3, ze0, zea, zgp]
          refine hK19 _ _ ?_
          refine zbg ?_
          refine zby hp (fun τ' H' mm => ∃ (q : Nat), (q ≤ 2 ∧ ∀ j, j < q → kB ns i (nth ns i).v (nth kl j) = true) ∧ mm = 2 - q ∧ H' = [.cells (avs (bdiC ns rs)), mO μ, .cells (niA (nth ns i)), .cells (avs (kl.map iD))] ∧ τ' = frL [(1, .op 0 0), (3, .om 1), (4, .d (iD i)), (5, .op 2 0), (14, .d (.fs (ns.flatMap niC) ns.length)), (15, .d (iD ns.length)), (16, .d (iD i)), (45, .os 1 3 0 2), (46, .d (iD 2)), (47, .d (iD q))]) (2) ?_ ⟨0, ⟨Nat.zero_le _, fun j hj => absurd hj (by omega)⟩, rfl, rfl, rfl⟩ ?_
          · refine Rt.end (zaa (zaa (zaa (zaa (zaa (zaa (zaa (zaa (zaa (zaa (zaq _) rfl) rfl) rfl) rfl) rfl) rfl) rfl) rfl) rfl) rfl) ?_
            simp only [zav, zap, bdiC, niA]; rw [hkl]; rfl
          rintro τ' H' mm ⟨q, ⟨hq, hvq⟩, rfl, rfl, rfl⟩
          refine zac hp zao hc rfl fun K20 hK20 => ?_
          simp -dsimp -implicitDefEqProofs (disch := first | assumption | omega | (simp [maxLen, zab, zbf] <;> omega) | decide) only [za1, zaj, zae, q_o, zay, zcz, ↓reduceIte, q_b, q_f, Nat.reduceEqDiff, zav, zap, iD, bdiC, niA]
          refine hK20 _ _ ?_
          refine zas fun K21 hK21 => ?_
          refine zau rfl (fun ht => ?_) (fun ht => ?_)
          · have hq2 : q < 2 := by simp at ht; omega
            refine zbb (hK21 _ _ ?_)
            refine zas fun K22 hK22 => ?_
            refine zbg ?_
            refine zac hp zao hc rfl fun K23 hK23 => ?_
            simp -dsimp -implicitDefEqProofs (disch := first | assumption | omega | (simp [maxLen, zab, zbf] <;> omega) | decide) only [zag, zat, zdo, zaj, zae, q_o, za8, ixO, za2, ↓reduceIte, q_b, ifp, q_f, q_l, and_true, Int.toNat_natCast, q_n, Nat.reduceEqDiff, ze4, zcg, iD, Nat.reduceAdd, zcg, zea, sz_3, ag_3]
            refine hK23 _ _ ?_
            refine zcs zao hc mixed rfl (q := 0) (by kernel_rfl) (by kernel_rfl) fun K24 hK24 => ?_
            rcases (show nth kl q < 0 ∨ (0 ≤ nth kl q ∧ (i : Int) + 2 ≤ nth kl q) ∨ (0 ≤ nth kl q ∧ nth kl q < (i : Int) + 2 ∧ nth kl q < 2) ∨ (2 ≤ nth kl q ∧ nth kl q < (i : Int) + 2 ∧ (nth ns (nth kl q - 2).toNat).v ≤ (nth ns i).v) ∨ (2 ≤ nth kl q ∧ nth kl q < (i : Int) + 2 ∧ (nth ns i).v < (nth ns (nth kl q - 2).toNat).v) by omega) with p | ⟨p, p'⟩ | ⟨p, p', p''⟩ | ⟨p, p', p''⟩ | ⟨p, p', p''⟩
            · have p1 : decide (nth kl q < 0) = true := by simp; omega
              have p2 := p1
              have p3 := p1
              have p4 := p1
              have hkb : kB ns i (nth ns i).v (nth kl q) = false := by unfold kB; rw [decide_eq_false (by omega)]; rfl
              simp -dsimp -implicitDefEqProofs (disch := first | assumption | omega | (simp [maxLen, zab, zbf] <;> omega) | decide) only [zco, zed, zdt, zc4, zae, gK_f, q_o, zay, zcz, ↓reduceIte, q_b, zar, zbk, zi5, q_f, q_l, List.append_nil, List.replicate_zero, q_n, Nat.reduceEqDiff, killAll, Nat.reduceAdd, zhd, zij, zli, zgd, zmu, zlz, zh7, p1]
              refine hK24 _ _ ?_
              refine zau rfl (fun ht => ?_) (fun ht => ?_)
              · refine zac hp zao hc rfl fun K25 hK25 => ?_
                simp -dsimp -implicitDefEqProofs (disch := first | assumption | omega | (simp [maxLen, zab, zbf] <;> omega) | decide) only [zag, zaj, q_f]
                refine hK25 _ _ ?_
                refine zbc ?_
                show za7 _ _ = _
                simp (disch := first | assumption | omega | (simp [maxLen, zab, zbf] <;> omega) | decide) only [za7, retV, zbr, Nat.reduceAdd, Nat.zero_add, D.fix, zbi, ↓reduceIte, Option.map_some, List.length_cons, List.length_nil, oD]
                rw [zgu hlt (hok q hq2 hkb)]
              · cases ht
            · have p1 : decide (nth kl q < 0) = false := by simp; omega
              have p2 : decide ((i : Int) + 2 ≤ nth kl q) = true := by simp; omega
              have p3 := p1
              have p4 := p1
              have hkb : kB ns i (nth ns i).v (nth kl q) = false := by unfold kB; rw [decide_eq_false (p := nth kl q < i + 2) (by omega)]; simp
              simp -dsimp -implicitDefEqProofs (disch := first | assumption | omega | (simp [maxLen, zab, zbf] <;> omega) | decide) only [zco, zed, zdt, zc4, zae, gK_t, gK_f, q_o, zay, zcu, zcz, zeb, ↓reduceIte, q_b, zar, zbk, zi5, q_f, q_l, List.append_nil, List.replicate_zero, q_n, Nat.reduceEqDiff, killAll, Nat.reduceAdd, zhd, zij, zli, zgd, zmu, zlz, zh7, p1, p2]
              refine hK24 _ _ ?_
              refine zau rfl (fun ht => ?_) (fun ht => ?_)
              · refine zac hp zao hc rfl fun K26 hK26 => ?_
                simp -dsimp -implicitDefEqProofs (disch := first | assumption | omega | (simp [maxLen, zab, zbf] <;> omega) | decide) only [zag, zaj, q_f]
                refine hK26 _ _ ?_
                refine zbc ?_
                show za7 _ _ = _
                simp (disch := first | assumption | omega | (simp [maxLen, zab, zbf] <;> omega) | decide) only [za7, retV, zbr, Nat.reduceAdd, Nat.zero_add, D.fix, zbi, ↓reduceIte, Option.map_some, List.length_cons, List.length_nil, oD]
                rw [zgu hlt (hok q hq2 hkb)]
              · cases ht
            · have p1 : decide (nth kl q < 0) = false := by simp; omega
              have p2 : decide ((i : Int) + 2 ≤ nth kl q) = false := by simp; omega
              have p3 : decide (2 ≤ nth kl q) = false := by simp; omega
              have p4 := p1
              have hkb : kB ns i (nth ns i).v (nth kl q) = true := by unfold kB; simp only [Bool.and_eq_true, Bool.or_eq_true, decide_eq_true_eq]; omega
              simp -dsimp -implicitDefEqProofs (disch := first | assumption | omega | (simp [maxLen, zab, zbf] <;> omega) | decide) only [zco, zed, zdt, zc4, zae, gK_t, gK_f, q_o, zay, zcu, zcz, zeb, ↓reduceIte, q_b, zar, zck, zbk, q_f, q_l, List.append_nil, List.replicate_zero, q_n, Nat.reduceEqDiff, killAll, Nat.reduceAdd, zhd, zij, zgd, zmu, zlz, zh7, p1, p2, p3]
              refine hK24 _ _ ?_
              refine zau rfl (fun ht => ?_) (fun ht => ?_)
              · cases ht
              · refine zbb (hK22 _ _ ?_)
                refine zcw hp zao hc rfl fun K27 hK27 => ?_
                simp -dsimp -implicitDefEqProofs (disch := first | assumption | omega | (simp [maxLen, zab, zbf] <;> omega) | decide) only [zal, za1, zaj, zae, q_o, zay, zcu, ↓reduceIte, q_b, q_f, Nat.reduceEqDiff]
                have hvq2 : ∀ j, j < q + 1 → kB ns i (nth ns i).v (nth kl j) = true := fun j hj => by
                  by_cases e : j = q
                  · subst e; exact hkb
                  · exact hvq j (by omega)
                refine hK27 _ _ ⟨_, _, _, ?_, ⟨q + 1, ⟨by omega, hvq2⟩, rfl, rfl, rfl⟩, ?_⟩
                · first | omega | (simp only [List.length_cons]; omega) | (dsimp only; omega)
                · refine Rt.end (zaa (zaa (zaa (zaa (zaa (zaa (zaa (zaa (zaa (zaa (zaq _) rfl) rfl) rfl) rfl) rfl) rfl) rfl) rfl) rfl) rfl) ?_
                  first | rfl | (simp only [zbj, za9, zbp, zbt, zbm, gcH, zb1, zcb, zcc, gc_m, fz_m, zaz, gcVs, gcV, zcy, fzH, zc0, zb9, zcd, zbl, Nat.reduceAdd, fzVs, fzV, posN, zav, zap, List.map_cons, List.map_nil, List.getD_cons_zero, List.getD_cons_succ, ↓reduceIte, Nat.reduceEqDiff, Option.map_some, List.set_cons_zero, List.set_cons_succ, zba, zak, Nat.mul_one, List.length_map, List.cons_append, List.nil_append, zif, zmc, zmd, zme, ztg, zmf, zth, lk_dK, zg8, zi0, zry, zig, zdp, zc8, gc_m, fz_m, zf7, zno, fix_mD, mm_m, bdiD, bdiC, niA]; first | done | rfl)
            · have p1 : decide (nth kl q < 0) = false := by simp; omega
              have p2 : decide ((i : Int) + 2 ≤ nth kl q) = false := by simp; omega
              have p3 : decide (2 ≤ nth kl q) = true := by simp; omega
              have p4 : decide ((nth ns (nth kl q - 2).toNat).v ≤ (nth ns i).v) = true := by simp; omega
              have hkb : kB ns i (nth ns i).v (nth kl q) = false := by unfold kB; rw [decide_eq_false (p := nth kl q < 2) (by omega), decide_eq_false (p := (nth ns i).v < _) (by omega)]; simp
              simp -dsimp -implicitDefEqProofs (disch := first | assumption | omega | (simp [maxLen, zab, zbf] <;> omega) | decide) only [zco, zed, zcq, zem, ze2, zdt, zc4, zae, gK_t, q_o, za8, zam, ixO, za2, zay, zcu, zg7, zcz, znm, zeb, ↓reduceIte, q_b, ifp, zar, zck, zbk, q_f, q_l, List.append_nil, List.replicate_zero, q_n, Nat.reduceEqDiff, killAll, iD, Nat.reduceAdd, zhd, p1, p2, p3, p4, ni_0, sz_3, ag_3, zdc, zen, zeo, zep, zdf]
              refine hK24 _ _ ?_
              refine zau rfl (fun ht => ?_) (fun ht => ?_)
              · refine zac hp zao hc rfl fun K28 hK28 => ?_
                simp -dsimp -implicitDefEqProofs (disch := first | assumption | omega | (simp [maxLen, zab, zbf] <;> omega) | decide) only [zag, zaj, q_f]
                refine hK28 _ _ ?_
                refine zbc ?_
                show za7 _ _ = _
                simp (disch := first | assumption | omega | (simp [maxLen, zab, zbf] <;> omega) | decide) only [za7, retV, zbr, Nat.reduceAdd, Nat.zero_add, D.fix, zbi, ↓reduceIte, Option.map_some, List.length_cons, List.length_nil, oD]
                rw [zgu hlt (hok q hq2 hkb)]
              · cases ht
            · have p1 : decide (nth kl q < 0) = false := by simp; omega
              have p2 : decide ((i : Int) + 2 ≤ nth kl q) = false := by simp; omega
              have p3 : decide (2 ≤ nth kl q) = true := by simp; omega
              have p4 : decide ((nth ns (nth kl q - 2).toNat).v ≤ (nth ns i).v) = false := by simp; omega
              have hkb : kB ns i (nth ns i).v (nth kl q) = true := by unfold kB; simp only [Bool.and_eq_true, Bool.or_eq_true, decide_eq_true_eq]; omega
              simp -dsimp -implicitDefEqProofs (disch := first | assumption | omega | (simp [maxLen, zab, zbf] <;> omega) | decide) only [zco, zed, zcq, zem, ze2, zdt, zc4, zae, gK_t, q_o, za8, zam, ixO, za2, zay, zcu, zg7, zcz, znm, zeb, ↓reduceIte, q_b, ifp, zar, zck, zbk, q_f, q_l, List.append_nil, List.replicate_zero, q_n, Nat.reduceEqDiff, killAll, iD, Nat.reduceAdd, zhd, p1, p2, p3, p4, ni_0, sz_3, ag_3, zdc, zen, zeo, zep, zdf]
              refine hK24 _ _ ?_
              refine zau rfl (fun ht => ?_) (fun ht => ?_)
              · cases ht
              · refine zbb (hK22 _ _ ?_)
                refine zcw hp zao hc rfl fun K29 hK29 => ?_
                simp -dsimp -implicitDefEqProofs (disch := first | assumption | omega | (simp [maxLen, zab, zbf] <;> omega) | decide) only [zal, za1, zaj, zae, q_o, zay, zcu, ↓reduceIte, q_b, q_f, Nat.reduceEqDiff]
                have hvq2 : ∀ j, j < q + 1 → kB ns i (nth ns i).v (nth kl j) = true := fun j hj => by
                  by_cases e : j = q
                  · subst e; exact hkb
                  · exact hvq j (by omega)
                refine hK29 _ _ ⟨_, _, _, ?_, ⟨q + 1, ⟨by omega, hvq2⟩, rfl, rfl, rfl⟩, ?_⟩
                · first | omega | (simp only [List.length_cons]; omega) | (dsimp only; omega)
                · refine Rt.end (zaa (zaa (zaa (zaa (zaa (zaa (zaa (zaa (zaa (zaa (zaq _) rfl) rfl) rfl) rfl) rfl) rfl) rfl) rfl) rfl) rfl) ?_
                  first | rfl | (simp only [zbj, za9, zbp, zbt, zbm, gcH, zb1, zcb, zcc, gc_m, fz_m, zaz, gcVs, gcV, zcy, fzH, zc0, zb9, zcd, zbl, Nat.reduceAdd, fzVs, fzV, posN, zav, zap, List.map_cons, List.map_nil, List.getD_cons_zero, List.getD_cons_succ, ↓reduceIte, Nat.reduceEqDiff, Option.map_some, List.set_cons_zero, List.set_cons_succ, zba, zak, Nat.mul_one, List.length_map, List.cons_append, List.nil_append, zif, zmc, zmd, zme, ztg, zmf, zth, lk_dK, zg8, zi0, zry, zig, zdp, zc8, gc_m, fz_m, zf7, zno, fix_mD, mm_m, bdiD, bdiC, niA]; first | done | rfl)
          · have hq2 : q = 2 := by simp at ht; omega
            subst hq2
            have hvi : vB ns i = true := by
              have a0 := hvq 0 (by omega)
              have a1 := hvq 1 (by omega)
              rw [hkl] at a0 a1
              unfold vB
              rw [decide_eq_true q1', decide_eq_true q2', decide_eq_true q3', decide_eq_true q4']
              simp only [Bool.true_and]
              exact Bool.and_eq_true_iff.2 ⟨a0, a1⟩
            refine zcl (hK18 _ _ ?_)
            refine zcw hp zao hc rfl fun K30 hK30 => ?_
            simp -dsimp -implicitDefEqProofs (disch := first | assumption | omega | (simp [maxLen, zab, zbf] <;> omega) | decide) only [zal, zat, sT_mu, zaj, zae, q_o, za8, ↓reduceIte, q_b, ifp, q_f, q_l, q_s, q_n, Nat.reduceEqDiff, zak, Nat.reduceAdd, zif, zmd, zig, zdp, zc8, zsg, muO_m mtV hk hS.ok, zis, zje]
            refine hK30 _ _ (hK10 _ _ ?_)
            refine zcw hp zao hc rfl fun K31 hK31 => ?_
            simp -dsimp -implicitDefEqProofs (disch := first | assumption | omega | (simp [maxLen, zab, zbf] <;> omega) | decide) only [zal, za1, zaj, zae, q_o, zay, zcu, ↓reduceIte, q_b, q_f, Nat.reduceEqDiff]
            have hv2 : ∀ j, j < i + 1 → vB ns j = true := fun j hj => by
              by_cases e : j = i
              · subst e; exact hvi
              · exact hv j (by omega)
            refine hK31 _ _ ⟨_, _, _, ?_, ⟨i + 1, putM (niV (nth ns i)) (.bool true) μ, ⟨by omega, by rw [zfq hlt]; exact hS.add hn, hv2⟩, rfl, rfl, rfl⟩, ?_⟩
            · first | omega | (simp only [List.length_cons]; omega) | (dsimp only; omega)
            · refine Rt.trans (Rt.gc (keep := [0,1]) (by decide) (by decide) (by simp [])) ?_
              refine Rt.end (zaa (zaa (zaa (zaa (zaa (zaq _) rfl) rfl) rfl) rfl) rfl) ?_
              first | rfl | (simp only [gcH, zb1, gc_m, gcVs, gcV, zav, zap, List.map_cons, List.map_nil, List.getD_cons_zero, List.getD_cons_succ, gc_m, bdiC]; first | done | rfl)
    · have hie : i = ns.length := by simp at ht; omega
      subst hie
      have hva := zve (rs := rs) hsm hv
      refine zcl (hK6 _ _ ?_)
      refine zac hp zao hc rfl fun K32 hK32 => ?_
      simp -dsimp -implicitDefEqProofs (disch := first | assumption | omega | (simp [maxLen, zab, zbf] <;> omega) | decide) only [zat, zb6, zlj, zbh, zae, za8, zam, ↓reduceIte, q_b, ifp, q_f, q_s, q_l, q_n, Nat.reduceEqDiff, Nat.reduceAdd, zeh, zfg, zfh]
      refine zhh (contains_v ns rs rs hsm hrl) ?_ ?_
      · simp (disch := first | assumption | omega | (simp [maxLen, zab, zbf] <;> omega) | decide) only [zbr, zb5, zb0, zcn, zcf, zex, zfx, Nat.reduceAdd, D.fix, Option.map_some, Option.bind_some, List.getElem?_cons_zero, zbj, bdiC, vclo]
      simp -dsimp -implicitDefEqProofs (disch := first | assumption | omega | (simp [maxLen, zab, zbf] <;> omega) | decide) only [zag, zfn, zaj, zae, zfo, ↓reduceIte, q_b, q_f]
      refine hK32 _ _ ?_
      refine zbc ?_
      show za7 _ _ = _
      simp (disch := first | assumption | omega | (simp [maxLen, zab, zbf] <;> omega) | decide) only [za7, retV, zbr, Nat.reduceAdd, Nat.zero_add, D.fix, zbi, ↓reduceIte, Option.map_some, List.length_cons, List.length_nil, oD]
      rw [hva, zop]
end Go.Proofs.Ytgfnpfchdlcoeaa
