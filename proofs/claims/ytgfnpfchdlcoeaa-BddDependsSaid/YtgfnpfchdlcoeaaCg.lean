/- The manager's export. -/
import Derived.Test.YtgfnpfchdlcoeaaQ
import Derived.Test.YtgfnpfchdlcoeaaCf
set_option linter.unusedVariables false
set_option linter.unusedSimpArgs false
namespace Go.Proofs.Ytgfnpfchdlcoeaa
open Go Go.RowKit
theorem vis_c (V : Nat) (ts : List T) (μu μm : Mp) (hr : RowOk V ts) (hl : ts.length ≤ bigB) : ∀ (n : Nat) (f : T), f.sz ≤ n → VisC V ts μu μm f
  | 0, f, h => by cases f <;> simp [T.sz] at h
  | n + 1, f, h => fun acc μn rs hf ha hs hN => vis_s V ts μu μm hr hl f (fun s hs' => vis_c V ts μu μm hr hl n s (by omega)) acc μn rs hf ha hs hN
/-- The diagram's trees, in their order. -/
def expT (fs : List T) : List T := fs.foldl (fun acc t => visT t acc) []
theorem zmj {fs : List T} {k : Nat} (h : k < fs.length) : expT (fs.take (k + 1)) = visT (nth fs k) (expT (fs.take k)) := by
  unfold expT; rw [zfq h, List.foldl_append]; rfl
theorem exp_pre (us : List T) : ∀ (fs : List T), us <+: fs.foldl (fun acc t => visT t acc) us := fun fs => by
  induction fs generalizing us with
  | nil => exact List.prefix_refl _
  | cons t fs ih => exact (zm7 t us).trans (ih _)
theorem expT_app (fs gs : List T) : expT fs <+: expT (fs ++ gs) := by
  unfold expT; rw [List.foldl_append]; exact exp_pre _ gs
theorem exp_ok {V : Nat} {us : List T} (hr : RowOk V us) : ∀ (fs : List T) (acc : List T), (∀ t ∈ fs, t ∈ full us) → RowOk V acc → (∀ s ∈ acc, s ∈ full us) → RowOk V (fs.foldl (fun acc t => visT t acc) acc) ∧ ∀ s ∈ fs.foldl (fun acc t => visT t acc) acc, s ∈ full us
  | [], acc, _, h1, h2 => ⟨h1, h2⟩
  | t :: fs, acc, hf, h1, h2 => by
    have ht := hf t (List.mem_cons_self ..)
    exact exp_ok hr fs (visT t acc) (fun s hs => hf s (List.mem_cons_of_mem _ hs)) (zm8 t 0 acc (hr.okf ht) h1) (zpm hr t acc ht h2)
theorem expT_ok {V : Nat} {us : List T} (hr : RowOk V us) {fs : List T} (h : ∀ t ∈ fs, t ∈ full us) : RowOk V (expT fs) ∧ ∀ s ∈ expT fs, s ∈ full us := exp_ok hr fs [] h (.nil V) fun s hs => by cases hs
theorem expT_mem {fs : List T} : ∀ {k : Nat}, k < fs.length → nth fs k ∈ full (expT (fs.take (k + 1))) := fun {k} h => by rw [zmj h]; exact zpl _ _
theorem zpo {fs : List T} {t : T} (h : t ∈ fs) : t ∈ full (expT fs) := by
  obtain ⟨k, hk, rfl⟩ := List.getElem_of_mem h
  rw [← zde hk]
  have := expT_app (fs.take (k + 1)) (fs.drop (k + 1))
  rw [List.take_append_drop] at this
  exact zdn this (expT_mem hk)
def bddC (ns : List Nd) (rs : List Nat) : List D := [.fs (ns.flatMap ndC) ns.length, .fs (rs.map natD) rs.length]
def bddD (ns : List Nd) (rs : List Nat) : D := .agg (bddC ns rs)
theorem plain_nds (l : List Nd) : ∀ y ∈ l.flatMap ndC, y.plain = true := fun y hy => by
  obtain ⟨n, _, h⟩ := List.mem_flatMap.1 hy
  simp only [ndC, List.mem_cons, List.not_mem_nil, or_false] at h
  rcases h with rfl | rfl | rfl <;> rfl
theorem plain_nat (l : List Nat) : ∀ y ∈ l.map natD, y.plain = true := fun y hy => by
  obtain ⟨n, _, rfl⟩ := List.mem_map.1 hy
  rfl
theorem as_clo {fn : Fn} {fi ca : List AV} : zec (.clo fn fi ca) = some [.clo fn fi ca] := rfl
theorem k0 : KeyP Try.prog tI (.int .i64 0) := keyI (n := 0) (by omega)
theorem k1 : KeyP Try.prog tI (.int .i64 1) := keyI (n := 1) (by omega)
def μ01 : Mp := putM (.int .i64 1) (.int .i64 1) (putM (.int .i64 0) (.int .i64 0) ([], 0))
theorem n01 (ts : List T) : NOk ts [] μ01 := by
  refine ⟨((OkM.nil tI 0).put k0).put k1, fun t ht => ?_, fun k u hg => ?_⟩
  · simp only [full, List.mem_cons, List.not_mem_nil, or_false] at ht
    rcases ht with rfl | rfl
    · rw [zjt, zjt]; rfl
    · rw [zph, zph]; rfl
  · obtain ⟨n, hm⟩ := zmb hg
    have hm' : (k, n, u) ∈ [((Value.int .i64 0 : Value), 0, (Value.int .i64 0 : Value)), (.int .i64 1, 1, .int .i64 1)] := hm
    simp only [List.mem_cons, List.not_mem_nil, or_false, Prod.mk.injEq] at hm'
    rcases hm' with ⟨rfl, _⟩ | ⟨rfl, _⟩
    · exact ⟨.leaf false, zju _, by rw [zjt]; rfl⟩
    · exact ⟨.leaf true, zr1 _, by rw [zph]; rfl⟩
set_option maxRecDepth 100000 in
set_option linter.unusedVariables false in
set_option maxHeartbeats 4000000 in
theorem export_n (V : Nat) (ts : List T) (μu μm : Mp) (hr : RowOk V ts) (hl : ts.length ≤ bigB) (fs : List T) (hf : ∀ t ∈ fs, t ∈ full ts) (hfl : fs.length ≤ 1000000) : NCalls Try.prog 63 [mgrD ts μu μm, .fs (fs.map (numD ts)) fs.length] (.d (bddD (erow (expT fs)) (fs.map (num (expT fs))))) := by
  refine ncalls_of0 (fn := Try.f63) (by kernel_rfl) Try.func63 rfl (Nat.le_of_ble_eq_true rfl) fun c hc hp => ?_
  refine zch (τ' := frL [(0, .d (mgrD ts μu μm)), (1, .d (.fs (fs.map (numD ts)) fs.length))]) (zaa (zaa (zaq _) rfl) rfl) ?_
  have hmd : D.one (mgrD ts μu μm) = true := rfl
  refine zac hp zao hc rfl fun K1 hK1 => ?_
  simp -dsimp -implicitDefEqProofs (disch := first | assumption | omega | (simp [maxLen, zab, zaw, zah, zai] <;> omega) | decide) only [zdy, zcm, zbd, zaj, zae, q_o, layF, ↓reduceIte, q_b, q_f, q_l, q_s, as_fp, q_n, zdk, zav, zap, zbd, mgrD, zuv]
  refine hK1 _ _ ?_
  refine zac hp zao hc rfl fun K2 hK2 => ?_
  simp -dsimp -implicitDefEqProofs (disch := first | assumption | omega | (simp [maxLen, zab, zaw, zah, zai] <;> omega) | decide) only [zal, zcm, zp3, zbu, zqp, zbd, zaj, zae, q_o, layF, zb4, ↓reduceIte, q_b, ifp, q_f, q_l, q_s, zum, q_a, q_n, Nat.reduceEqDiff, zdk, zav, zap, Nat.reduceAdd, zbd, zmc, zmd, zi0, mm_m, muO_m mtI k0 (OkM.nil tI 0), muO_m mtI k1 ((OkM.nil tI 0).put k0), zjp, za_132]
  refine hK2 _ _ ?_
  refine zac hp zao hc rfl fun K3 hK3 => ?_
  simp -dsimp -implicitDefEqProofs (disch := first | assumption | omega | (simp [maxLen, zab, zaw, zah, zai] <;> omega) | decide) only [zcm, zbd, zaj, zae, q_o, layF, q_f, q_l, q_s, q_n, zdk, zav, zap, Nat.reduceAdd, zbd, zuv]
  refine hK3 _ _ ?_
  refine zac hp zao hc rfl fun K4 hK4 => ?_
  simp -dsimp -implicitDefEqProofs (disch := first | assumption | omega | (simp [maxLen, zab, zaw, zah, zai] <;> omega) | decide) only [zcm, zbd, zaj, zae, q_o, layF, q_f, q_l, q_s, q_n, zdk, zav, zap, Nat.reduceAdd, zbd, za_141]
  refine hK4 _ _ ?_
  refine zac hp zao hc rfl fun K5 hK5 => ?_
  simp -dsimp -implicitDefEqProofs (disch := first | assumption | omega | (simp [maxLen, zab, zaw, zah, zai] <;> omega) | decide) only [zlj, zbu, zaj, zae, zb4, ↓reduceIte, q_b, ifp, q_f, q_s, q_l, q_a, q_n, Nat.reduceEqDiff, as_clo, sz_141]
  refine hK5 _ _ ?_
  refine zas fun K6 hK6 => ?_
  refine zac hp zao hc rfl fun K7 hK7 => ?_
  simp -dsimp -implicitDefEqProofs (disch := first | assumption | omega | (simp [maxLen, zab, zaw, zah, zai] <;> omega) | decide) only [zal, zb8, zaj, zae, q_o, lenF, zbe, ↓reduceIte, q_b, q_f, q_s, Nat.reduceEqDiff, zea]
  refine hK7 _ _ ?_
  refine zbg ?_
  refine zby hp (fun τ' H' mm => ∃ (k : Nat) (μn : Mp) (rs : List Nat), (k ≤ fs.length ∧ NOk ts (expT (fs.take k)) μn ∧ rs = (fs.take k).map (num (expT (fs.take k)))) ∧ mm = fs.length - k ∧ H' = expH (mgrD ts μu μm) (expT (fs.take k)) μn rs ++ [.cells [.d (.val (.slice none 0 0)), .d (.val (.slice none 0 0))]] ∧ τ' = frL [(4, .op 7 0), (6, .op 3 0), (7, .op 2 0), (13, .d (.fs (fs.map (numD ts)) fs.length)), (14, .d (iD fs.length)), (15, .d (iD k))]) (fs.length) ?_ ⟨0, μ01, [], ⟨Nat.zero_le _, n01 ts, rfl⟩, rfl, rfl, rfl⟩ ?_
  · refine Rt.trans (Rt.nilc 4 0 3 rfl rfl) ?_
    refine Rt.trans (Rt.nilc 4 1 1 rfl rfl) ?_
    refine Rt.trans (Rt.gc (keep := [0,3,5,4,2,6,7,1]) (by decide) (by decide) (by simp [])) ?_
    refine Rt.end (zaa (zaa (zaa (zaa (zaa (zaa (zaq _) rfl) rfl) rfl) rfl) rfl) rfl) ?_
    first | rfl | (simp only [zbj, za9, zbp, zbt, zbm, gcH, zb1, zcb, zcc, gc_m, fz_m, zaz, gcVs, gcV, zcy, fzH, zc0, zb9, zcd, zbl, Nat.reduceAdd, fzVs, fzV, posN, zav, zap, List.map_cons, List.map_nil, List.getD_cons_zero, List.getD_cons_succ, ↓reduceIte, Nat.reduceEqDiff, Option.map_some, List.set_cons_zero, List.set_cons_succ, zba, zak, Nat.mul_one, List.length_map, List.cons_append, List.nil_append, zif, zmc, zmd, zme, ztg, zmf, zth, lk_dK, zg8, zi0, zry, zig, zdp, zc8, gc_m, fz_m, zf7, zno, fix_mD, mm_m, expH, natD, numD, as_clo]; first | done | rfl)
  rintro τ' H' mm ⟨k, μn, rs, ⟨hk, hN, hrs⟩, rfl, rfl, rfl⟩
  refine zac hp zao hc rfl fun K8 hK8 => ?_
  simp -dsimp -implicitDefEqProofs (disch := first | assumption | omega | (simp [maxLen, zab, zaw, zah, zai] <;> omega) | decide) only [za1, zaj, zae, q_o, zay, zcz, ↓reduceIte, q_b, q_f, q_s, Nat.reduceEqDiff, iD, expH]
  refine hK8 _ _ ?_
  refine zas fun K9 hK9 => ?_
  refine zau rfl (fun ht => ?_) (fun ht => ?_)
  · have hlt : k < fs.length := by simp at ht; omega
    have hft : ∀ t ∈ fs.take k, t ∈ full ts := fun t h => hf t (List.mem_of_mem_take h)
    obtain ⟨ra, sa⟩ := expT_ok hr hft
    have hfk := hf _ (zdi hlt)
    have hrl : rs.length = k := by rw [hrs]; simp; omega
    refine zbb (hK9 _ _ ?_)
    refine zas fun K10 hK10 => ?_
    refine zbg ?_
    refine zac hp zao hc rfl fun K11 hK11 => ?_
    simp -dsimp -implicitDefEqProofs (disch := first | assumption | omega | (simp [maxLen, zab, zaw, zah, zai] <;> omega) | decide) only [zag, zat, zdo, zaj, zae, q_o, za8, ixO, za2, ↓reduceIte, q_b, ifp, q_f, Int.toNat_natCast, q_n, Nat.reduceEqDiff, zcg, iD, numD, zea, sz_3, ag_3]
    refine hK11 _ _ ?_
    refine zni zao hp hc mixed rfl [(0, []), (1, []), (2, []), (3, []), (4, [1]), (5, []), (6, []), (7, []), (8, [])] [[], [0], [], [], [2, 3], [2, 3, 4], [0, 1, 2, 3, 4, 5], [0, 1, 2, 3, 4, 5, 6], [0, 1, 2, 3, 4, 5, 6, 7]] 1 (by kernel_rfl) fun K12 hK12 => ?_
    simp -dsimp -implicitDefEqProofs (disch := first | assumption | omega | (simp [maxLen, zab, zaw, zah, zai] <;> omega) | decide) only [zae, za8, zam, ↓reduceIte, q_b, ifp, q_f, q_s, q_l, List.replicate_zero, List.replicate_succ, q_n, Nat.reduceEqDiff, Nat.reduceAdd, zgm, zfc, List.getD_cons_zero, List.getD_cons_succ, zg2, zgn, zll, zma, zeh, zfg, zfh, sz_141, ag_141]
    refine ztj (S := expH (mgrD ts μu μm) (expT (fs.take k)) μn rs) (T := [.cells [.d (.val (.slice none 0 0)), .d (.val (.slice none 0 0))], .free]) (vis_c V ts μu μm hr hl _ (nth fs k) (Nat.le_refl _) (expT (fs.take k)) μn _ hfk ra sa hN) rfl (Nat.le_of_ble_eq_true rfl) (by first | rfl | (simp [AV.allIs, AV.allI, zbs, zb3, zbz, okI, ltI, za6, zcp, expH]; done) | (intro o ho; simp at ho; done)) (fun t => zdb (by first | rfl | (simp [AV.allIs, AV.allI, zbs, zb3, zbz, okI, ltI, za6, zcp, expH]; done) | (intro o ho; simp at ho; done)) t) (fun t => zdb (by first | rfl | (simp [AV.allIs, AV.allI, zbs, zb3, zbz, okI, ltI, za6, zcp, expH]; done) | (intro o ho; simp at ho; done)) t) (by first | rfl | (simp [AV.allIs, AV.allI, zbs, zb3, zbz, okI, ltI, za6, zcp, expH]; done) | (intro o ho; simp at ho; done)) (by first | rfl | (simp [AV.allIs, AV.allI, zbs, ltI, za6, zcp, expH]; done) | (intro o ho; simp at ho; done)) (by first | rfl | (simp [AV.allIs, AV.allI, zbs, zbz, expH]; done) | (intro o ho; simp at ho; done)) ?_
    rintro _ _ ⟨μn1, rfl, rfl, hN1⟩
    refine ⟨rfl, ?_⟩
    simp -dsimp -implicitDefEqProofs (disch := first | assumption | omega | (simp [maxLen, zab, zaw, zah, zai] <;> omega) | decide) only [zbd, zae, q_o, za8, zam, layF, zdl, srcF, zb4, ↓reduceIte, q_b, ifp, ifn, q_f, q_s, q_l, List.append_nil, List.replicate_zero, List.replicate_succ, zbv, q_a, zbn, zga, and_true, q_n, Nat.reduceEqDiff, shB, appB, zab, zcv, List.drop_zero, iD, Nat.reduceAdd, zbd, List.length_map, zdl, frzF, zjs, zfv, zf2, zid, zll, sS_bs, sS_app, zhl, expH, zeh, zfg, zfh, zgp]
    refine hK12 _ _ (hK10 _ _ ?_)
    refine zcw hp zao hc rfl fun K13 hK13 => ?_
    simp -dsimp -implicitDefEqProofs (disch := first | assumption | omega | (simp [maxLen, zab, zaw, zah, zai] <;> omega) | decide) only [zal, za1, zaj, zae, q_o, zay, zcu, ↓reduceIte, q_b, q_f, Nat.reduceEqDiff]
    have hr' : rs ++ [num (visT (nth fs k) (expT (fs.take k))) (nth fs k)] = (fs.take (k + 1)).map (num (expT (fs.take (k + 1)))) := by
      rw [zfq hlt, List.map_append, ← zfq hlt, zmj hlt, hrs]
      congr 1
      exact List.map_congr_left fun t ht => (zfa (zm7 _ _) (zpo ht)).symm
    have hN' : NOk ts (expT (fs.take (k + 1))) μn1 := by rw [zmj hlt]; exact hN1
    refine hK13 _ _ ⟨_, _, _, ?_, ⟨k + 1, μn1, rs ++ [num (visT (nth fs k) (expT (fs.take k))) (nth fs k)], ⟨by omega, hN', hr'⟩, rfl, rfl, rfl⟩, ?_⟩
    · first | omega | (simp only [List.length_cons]; omega) | (dsimp only; omega)
    · refine Rt.trans (Rt.gc (keep := [0,1,2,3,4,5,9,7]) (by decide) (by decide) (by simp [])) ?_
      refine Rt.end (zaa (zaa (zaa (zaa (zaa (zaa (zaq _) rfl) rfl) rfl) rfl) rfl) rfl) ?_
      simp only [gcH, zb1, gc_m, zaz, gcVs, gcV, Nat.reduceAdd, posN, List.map_cons, List.map_nil, List.getD_cons_zero, List.getD_cons_succ, ↓reduceIte, Nat.reduceEqDiff, Option.map_some, List.cons_append, List.nil_append, gc_m, expH]; rw [zmj hlt]; simp [avs, natD, iD]
  · have hkk : k = fs.length := by simp at ht; omega
    subst hkk
    rw [List.take_length] at hN hrs ⊢
    refine zcl (hK6 _ _ ?_)
    refine zac hp zao hc rfl fun K14 hK14 => ?_
    simp -dsimp -implicitDefEqProofs (disch := first | assumption | omega | (simp [maxLen, zab, zaw, zah, zai] <;> omega) | decide) only [zat, zbu, zaj, zae, q_o, za8, zb4, ↓reduceIte, q_b, ifp, q_f, q_l, q_s, q_a, AV.one, q_n, Nat.reduceEqDiff, zak, Nat.reduceAdd, zez, zft]
    refine hK14 _ _ ?_
    refine zbc ?_
    try dsimp only [zkw, zet]
    refine zg0 rfl ?_
    simp -dsimp -implicitDefEqProofs (disch := first | assumption | omega | (simp [maxLen, zab, zaw, zah, zai] <;> omega) | decide) only [zae, q_o, za8, ↓reduceIte, q_b, ifp, q_f, q_l, q_n, Nat.reduceEqDiff, zak, Nat.reduceAdd, zez, zft]
    show zj6 _ _ = _
    simp (disch := first | assumption | omega | (simp only [maxLen, List.length_replicate, eq_self, true_and, and_true, and_self, zab, List.length_map, List.length_append, List.length_cons, List.length_nil, List.length_set, List.length_range, List.length_take, List.length_drop, zaw, zah, zai] <;> omega) | decide | fail) only [zj6, zcn, zcf, Nat.reduceAdd, Nat.zero_add, zak, Option.map_some, Option.bind_some, Nat.mul_one, List.getElem?_cons_zero, List.getElem?_cons_succ, List.length_cons, List.length_nil, new_os, new_agg, newL_cons, newL_nil, zwg (plain_nds _), zwg (plain_nat _)]
    simp [bddD, bddC, zmi, zai, hrs]
    exact fun _ _ => rfl
end Go.Proofs.Ytgfnpfchdlcoeaa
