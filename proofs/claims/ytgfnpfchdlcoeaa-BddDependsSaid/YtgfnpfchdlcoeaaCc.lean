/- The manager's ite. -/
import Derived.Test.YtgfnpfchdlcoeaaQ
import Derived.Test.YtgfnpfchdlcoeaaCb
set_option linter.unusedVariables false
set_option linter.unusedSimpArgs false
namespace Go.Proofs.Ytgfnpfchdlcoeaa
open Go Go.RowKit
theorem zpj {k v : Value} {μ : Mp} (hk : vKey k = true) : getM k (putM k v μ) = some v := by
  classical
  rw [zie hk hk, if_pos rfl]
theorem ndOf_v {ts : List T} {t : T} : (ndOf ts t).v = t.v := rfl
def IteK (V b : Nat) (ts : List T) (f g h : T) (x : AV) (S' : za0) : Prop := ∃ ts' μu' μm' t, S' = mgrH ts' μu' μm' ∧ x = .d (iD (num ts' t)) ∧ MS V ts' μu' μm' ∧ ts <+: ts' ∧ ts'.length + 1 ≤ ts.length + b ∧ t ∈ full ts' ∧ Ite f g h t
def IteC (V n : Nat) : Prop := ∀ (ts : List T) (μu μm : Mp) (f g h : T), MS V ts μu μm → f ∈ full ts → g ∈ full ts → h ∈ full ts → f.Ok V (V - n) → g.Ok V (V - n) → h.Ok V (V - n) → ts.length + 2 ^ n ≤ bigB →
  ScS Try.prog [0, 1, 2] 79 [.op 0 0, .d (iD (num ts f)), .d (iD (num ts g)), .d (iD (num ts h))] (mgrH ts μu μm) (IteK V (2 ^ n) ts f g h)
theorem leaf_t {ts : List T} {f : T} (hf : f ∈ full ts) (h : num ts f = 1) : f = .leaf true := zey hf (zr1 ts) (h.trans (zph ts).symm)
theorem leaf_f {ts : List T} {f : T} (hf : f ∈ full ts) (h : num ts f = 0) : f = .leaf false := zey hf (zju ts) (h.trans (zjt ts).symm)
theorem node_of {ts : List T} {f : T} (h1 : num ts f ≠ 1) (h0 : num ts f ≠ 0) : ∃ v l r, f = .node v l r := by
  cases f with
  | leaf b => cases b
              · exact absurd (zjt ts) h0
              · exact absurd (zph ts) h1
  | node v l r => exact ⟨v, l, r, rfl⟩
set_option maxRecDepth 100000 in
set_option linter.unusedVariables false in
set_option maxHeartbeats 4000000 in
theorem ite_s (V n : Nat) (ih : ∀ m, m < n → IteC V m) (ts : List T) (μu μm : Mp) (f g h : T) (hS : MS V ts μu μm) (hf : f ∈ full ts) (hg : g ∈ full ts) (hh : h ∈ full ts) (kf : f.Ok V (V - n)) (kg : g.Ok V (V - n)) (kh : h.Ok V (V - n)) (hlen : ts.length + 2 ^ n ≤ bigB) : ScS Try.prog [0, 1, 2] 79 [.op 0 0, .d (iD (num ts f)), .d (iD (num ts g)), .d (iD (num ts h))] (mgrH ts μu μm) (IteK V (2 ^ n) ts f g h) := by
  refine zmr (fn := Try.f79) (by kernel_rfl) Try.func79 rfl (Nat.le_of_ble_eq_true rfl) fun c hc hp => ?_
  refine awp_sv4 ?_
  unfold mgrH mgrC
  have hl := hS.len
  have hV := hS.V0
  have hpos : 0 < 2 ^ n := Nat.two_pow_pos n
  have nf := zer hf
  have ng := zer hg
  have nh := zer hh
  unfold bigB at hl hlen
  refine zac hp zao hc rfl fun K1 hK1 => ?_
  simp -dsimp -implicitDefEqProofs (disch := first | assumption | omega | (simp [maxLen, zab, zaw, zah] <;> omega) | decide) only [zag, zaj, q_f, iD]
  refine hK1 _ _ ?_
  refine zas fun K2 hK2 => ?_
  refine zbg ?_
  refine zac hp zao hc rfl fun K3 hK3 => ?_
  rcases (show num ts f = 1 ∨ (num ts f ≠ 1 ∧ num ts g = num ts h) ∨ (num ts f ≠ 1 ∧ num ts g ≠ num ts h) by omega) with hd1 | ⟨hd1, hd2⟩ | ⟨hd1, hd2⟩
  · have q1 : ((num ts f : Int) == 1) = true := by simp; omega
    have q2 := q1
    simp -dsimp -implicitDefEqProofs (disch := first | assumption | omega | (simp [maxLen, zab, zaw, zah] <;> omega) | decide) only [zal, zag, zbq, za1, zaj, sT_g, zae, gK_f, q_o, zay, zd9, ↓reduceIte, q_b, zar, zbk, q_f, q_l, Nat.reduceEqDiff, q1]
    refine hK3 _ _ ?_
    refine zau rfl (fun ht => ?_) (fun ht => ?_)
    · refine zac hp zao hc rfl fun K4 hK4 => ?_
      simp -dsimp -implicitDefEqProofs (disch := first | assumption | omega | (simp [maxLen, zab, zaw, zah] <;> omega) | decide) only [zal, zag, zaj, ↓reduceIte, q_b, q_f, Nat.reduceEqDiff]
      refine hK4 _ _ ?_
      refine zcx hp (τ' := frL [(8, .d (iD (num ts g)))]) (H' := mgrH ts μu μm) ?_ ?_
      · refine Rt.trans (Rt.gc (keep := [0,1,2,3]) (by decide) (by decide) (by simp [])) ?_
        refine Rt.end (zaa (zaq _) rfl) ?_
        first | rfl | (simp only [gcH, zb1, gc_m, zaz, gcVs, gcV, Nat.reduceAdd, posN, List.map_cons, List.map_nil, List.getD_cons_zero, List.getD_cons_succ, ↓reduceIte, Nat.reduceEqDiff, Option.map_some, gc_m, mgrH, mgrC]; first | done | rfl)
      refine zbc ?_
      refine zc5 (t := 8) rfl ?_
      show ∃ _, _
      obtain rfl := leaf_t hf hd1
      exact ⟨ts, μu, μm, g, rfl, rfl, hS, List.prefix_refl _, by omega, hg, fun a => rfl⟩
    · cases ht
  · have q1 : ((num ts f : Int) == 1) = false := by simp; omega
    have q2 : ((num ts g : Int) == (num ts h : Int)) = true := by simp; omega
    simp -dsimp -implicitDefEqProofs (disch := first | assumption | omega | (simp [maxLen, zab, zaw, zah] <;> omega) | decide) only [zal, zag, zbq, za1, zaj, sT_g, zae, gK_t, q_o, zay, zd9, ↓reduceIte, q_b, zar, zbk, q_f, q_l, Nat.reduceEqDiff, q1, q2]
    refine hK3 _ _ ?_
    refine zau rfl (fun ht => ?_) (fun ht => ?_)
    · refine zac hp zao hc rfl fun K5 hK5 => ?_
      simp -dsimp -implicitDefEqProofs (disch := first | assumption | omega | (simp [maxLen, zab, zaw, zah] <;> omega) | decide) only [zal, zag, zaj, ↓reduceIte, q_b, q_f, Nat.reduceEqDiff]
      refine hK5 _ _ ?_
      refine zcx hp (τ' := frL [(8, .d (iD (num ts g)))]) (H' := mgrH ts μu μm) ?_ ?_
      · refine Rt.trans (Rt.gc (keep := [0,1,2,3]) (by decide) (by decide) (by simp [])) ?_
        refine Rt.end (zaa (zaq _) rfl) ?_
        first | rfl | (simp only [gcH, zb1, gc_m, zaz, gcVs, gcV, Nat.reduceAdd, posN, List.map_cons, List.map_nil, List.getD_cons_zero, List.getD_cons_succ, ↓reduceIte, Nat.reduceEqDiff, Option.map_some, gc_m, mgrH, mgrC]; first | done | rfl)
      refine zbc ?_
      refine zc5 (t := 8) rfl ?_
      show ∃ _, _
      obtain rfl := zey hg hh hd2
      exact ⟨ts, μu, μm, g, rfl, rfl, hS, List.prefix_refl _, by omega, hg, fun a => by simp⟩
    · cases ht
  · have q1 : ((num ts f : Int) == 1) = false := by simp; omega
    have q2 : ((num ts g : Int) == (num ts h : Int)) = false := by simp; omega
    simp -dsimp -implicitDefEqProofs (disch := first | assumption | omega | (simp [maxLen, zab, zaw, zah] <;> omega) | decide) only [zal, zag, zbq, za1, zaj, sT_g, zae, gK_t, q_o, zay, zd9, ↓reduceIte, q_b, zar, zbk, q_f, q_l, Nat.reduceEqDiff, q1, q2]
    refine hK3 _ _ ?_
    refine zau rfl (fun ht => ?_) (fun ht => ?_)
    · cases ht
    · refine zac hp zao hc rfl fun K6 hK6 => ?_
      simp -dsimp -implicitDefEqProofs (disch := first | assumption | omega | (simp [maxLen, zab, zaw, zah] <;> omega) | decide) only [zal, zag, za1, zaj, zae, q_o, zay, zd9, ↓reduceIte, q_b, q_f, Nat.reduceEqDiff]
      refine hK6 _ _ ?_
      refine zau rfl (fun ht => ?_) (fun ht => ?_)
      · have hd3 : num ts f = 0 := by simp at ht; omega
        refine zac hp zao hc rfl fun K7 hK7 => ?_
        simp -dsimp -implicitDefEqProofs (disch := first | assumption | omega | (simp [maxLen, zab, zaw, zah] <;> omega) | decide) only [zal, zag, zaj, ↓reduceIte, q_b, q_f, Nat.reduceEqDiff]
        refine hK7 _ _ ?_
        refine zcx hp (τ' := frL [(8, .d (iD (num ts h)))]) (H' := mgrH ts μu μm) ?_ ?_
        · refine Rt.trans (Rt.gc (keep := [0,1,2,3]) (by decide) (by decide) (by simp [])) ?_
          refine Rt.end (zaa (zaq _) rfl) ?_
          first | rfl | (simp only [gcH, zb1, gc_m, zaz, gcVs, gcV, Nat.reduceAdd, posN, List.map_cons, List.map_nil, List.getD_cons_zero, List.getD_cons_succ, ↓reduceIte, Nat.reduceEqDiff, Option.map_some, gc_m, mgrH, mgrC]; first | done | rfl)
        refine zbc ?_
        refine zc5 (t := 8) rfl ?_
        show ∃ _, _
        obtain rfl := leaf_f hf hd3
        exact ⟨ts, μu, μm, h, rfl, rfl, hS, List.prefix_refl _, by omega, hh, fun a => rfl⟩
      · have hd3 : num ts f ≠ 0 := by simp at ht; omega
        have hk := hS.keyM hf hg hh
        refine zbb (hK2 _ _ ?_)
        refine zac hp zao hc rfl fun K8 hK8 => ?_
        simp -dsimp -implicitDefEqProofs (disch := first | assumption | omega | (simp [maxLen, zab, zaw, zah] <;> omega) | decide) only [zal, zdd, zcm, zbu, zbd, zaj, zae, q_o, zdx, layF, zb4, ↓reduceIte, q_b, ifp, ifn, q_f, q_s, q_l, q_a, zbn, AV.one, D.one, Value.oneCell', q_n, Nat.reduceEqDiff, zdk, zav, zap, Nat.reduceAdd, zbd, pa_154, pl_154_0, pl_154_1, pl_154_2, zqu, za_154, zc_154]
        refine hK8 _ _ ?_
        refine zas fun K9 hK9 => ?_
        refine zcs zao hc mixed rfl (q := 0) (by kernel_rfl) (by kernel_rfl) fun K10 hK10 => ?_
        cases hgm : getM (k3V (num ts f) (num ts g) (num ts h)) μm
        rotate_left
        · rename_i u
          obtain ⟨f', g', h', t, a1, a2, a3, a4, ek, rfl, hite⟩ := hS.m.inv _ _ hgm
          obtain ⟨e1, e2, e3⟩ := k3_inj ek
          obtain rfl := zey hf a1 e1
          obtain rfl := zey hg a2 e2
          obtain rfl := zey hh a3 e3
          simp -dsimp -implicitDefEqProofs (disch := first | assumption | omega | (simp [maxLen, zab, zaw, zah] <;> omega) | decide) only [zco, zdh, zcq, zem, zf6, zhc, zgi, zc4, zae, q_o, za8, zam, zev, ↓reduceIte, q_b, ifp, q_f, q_l, List.append_nil, List.replicate_zero, q_n, Nat.reduceEqDiff, killAll, zak, Nat.reduceAdd, zg8, zig, zdp, zc8, zlm, ziz, zti mtM hk hS.m.ok, hgm, Option.getD_some, Option.isSome_some, zom, zts, ztt, zqu, ztu]
          refine hK10 _ _ ?_
          refine zac hp zao hc rfl fun K11 hK11 => ?_
          simp -dsimp -implicitDefEqProofs (disch := first | assumption | omega | (simp [maxLen, zab, zaw, zah] <;> omega) | decide) only [zal, zaj, ↓reduceIte, q_b, q_f]
          refine hK11 _ _ ?_
          refine zau rfl (fun ht => ?_) (fun ht => ?_)
          · refine zac hp zao hc rfl fun K12 hK12 => ?_
            simp -dsimp -implicitDefEqProofs (disch := first | assumption | omega | (simp [maxLen, zab, zaw, zah] <;> omega) | decide) only [zal, zag, zaj, ↓reduceIte, q_b, q_f, Nat.reduceEqDiff]
            refine hK12 _ _ ?_
            refine zcx hp (τ' := frL [(8, .d (iD (num ts t)))]) (H' := mgrH ts μu μm) ?_ ?_
            · refine Rt.trans (Rt.gc (keep := [0,1,2,3]) (by decide) (by decide) (by simp [])) ?_
              refine Rt.end (zaa (zaq _) rfl) ?_
              first | rfl | (simp only [gcH, zb1, gc_m, zaz, gcVs, gcV, Nat.reduceAdd, posN, List.map_cons, List.map_nil, List.getD_cons_zero, List.getD_cons_succ, ↓reduceIte, Nat.reduceEqDiff, Option.map_some, gc_m, mgrH, mgrC]; first | done | rfl)
            refine zbc ?_
            refine zc5 (t := 8) rfl ?_
            show ∃ _, _
            exact ⟨ts, μu, μm, t, rfl, rfl, hS, List.prefix_refl _, by omega, a4, hite⟩
          · cases ht
        · simp -dsimp -implicitDefEqProofs (disch := first | assumption | omega | (simp [maxLen, zab, zaw, zah] <;> omega) | decide) only [zco, zdh, zcq, zem, zf6, zhc, zgi, zc4, zae, q_o, za8, zam, zev, ↓reduceIte, q_b, ifp, q_f, q_l, List.append_nil, List.replicate_zero, q_n, Nat.reduceEqDiff, killAll, zak, Nat.reduceAdd, zg8, zig, zdp, zc8, zlm, ziz, zti mtM hk hS.m.ok, hgm, Option.getD_none, Option.isSome_none, zom, zts, ztt, zqu, ztu]
          refine hK10 _ _ ?_
          refine zac hp zao hc rfl fun K13 hK13 => ?_
          simp -dsimp -implicitDefEqProofs (disch := first | assumption | omega | (simp [maxLen, zab, zaw, zah] <;> omega) | decide) only [zal, zaj, ↓reduceIte, q_b, q_f]
          refine hK13 _ _ ?_
          refine zau rfl (fun ht => ?_) (fun ht => ?_)
          · cases ht
          · refine zbb (hK9 _ _ ?_)
            refine zcs zao hc mixed rfl (q := 0) (by kernel_rfl) (by kernel_rfl) fun K14 hK14 => ?_
            simp -dsimp -implicitDefEqProofs (disch := first | assumption | omega | (simp [maxLen, zab, zaw, zah] <;> omega) | decide) only [zco, zdh, zcq, zem, ze2, zhc, zs7, zc4, zae, q_o, za8, zam, ixO, za2, zbe, zev, ↓reduceIte, q_b, ifp, q_f, q_s, q_l, List.append_nil, List.replicate_zero, and_true, Int.toNat_natCast, q_n, Nat.reduceEqDiff, killAll, ze4, iD, Nat.reduceAdd, nd_0, zks hf, zks hg, zks hh, ndOf_v, zmh, zen, zeo, zep, zdf, sz_3, ag_3]
            obtain ⟨v, hmin, vf, vg, vh, hvV, hvn⟩ : ∃ v : Nat, min (f.v : Int) (min (g.v : Int) (h.v : Int)) = (v : Int) ∧ v ≤ f.v ∧ v ≤ g.v ∧ v ≤ h.v ∧ v < V ∧ V - n ≤ v := by
              obtain ⟨u, l, r, rfl⟩ := node_of hd1 hd3
              have := kf.2.1
              have k1 := kf.1
              have k2 := kg.v_ge (by omega)
              have k3 := kh.v_ge (by omega)
              refine ⟨min (min (T.node u l r).v g.v) h.v, by omega, by omega, by omega, by omega, ?_, ?_⟩
              · rw [show (T.node u l r).v = u from rfl]; omega
              · rw [show (T.node u l r).v = u from rfl]; omega
            have hn1 : n - 1 < n := by omega
            have e2 : 2 ^ n = 2 ^ (n - 1) + 2 ^ (n - 1) := by
              obtain ⟨m, rfl⟩ : ∃ m, n = m + 1 := ⟨n - 1, by omega⟩
              rw [Nat.add_sub_cancel, Nat.pow_succ]; omega
            have hpos1 : 0 < 2 ^ (n - 1) := Nat.two_pow_pos _
            have lev : ∀ {q : T} {b : Bool}, q.Ok V (V - n) → v ≤ q.v → (zjc q v b).Ok V (V - (n - 1)) := fun hq hv => (zjd (by omega) hq hv _).mono (by omega)
            have prt : ∀ {us : List T} {q : T} (b : Bool), RowOk V us → q ∈ full us → zjc q v b ∈ full us := fun {us q} b hr hq => by
              unfold zjc
              have := hr.chf hq
              split
              · split
                · exact this.2
                · exact this.1
              · exact hq
            refine hK14 _ _ ?_
            refine zcx hp (τ' := frL [(0, .op 0 0), (1, .d (iD (num ts f))), (2, .d (iD (num ts g))), (3, .d (iD (num ts h))), (9, .op 4 0), (12, .d (iD v))]) (H' := mgrH ts μu μm ++ [.cells [.d (iD (num ts f)), .d (iD (num ts g)), .d (iD (num ts h))]]) ?_ ?_
            · refine Rt.trans (Rt.gc (keep := [0,1,2,3,4]) (by decide) (by decide) (by simp [])) ?_
              refine Rt.end (zaa (zaa (zaa (zaa (zaa (zaa (zaq _) (by first | rfl | (simp [frL, gcV, iD, hmin]; done) | simp [Fr.put, frL, gcV, fzV, posN, iD, bD, uD, oD, zbj, za9, zbp, zbt, zbm, zaw, zah, hmin, *])) rfl) rfl) rfl) rfl) rfl) ?_
              first | rfl | (simp only [gcH, zb1, gc_m, zaz, gcVs, gcV, Nat.reduceAdd, posN, List.map_cons, List.map_nil, List.getD_cons_zero, List.getD_cons_succ, ↓reduceIte, Nat.reduceEqDiff, Option.map_some, List.cons_append, List.nil_append, gc_m, mgrH, mgrC]; first | done | rfl)
            refine zac hp zao hc rfl fun K15 hK15 => ?_
            simp -dsimp -implicitDefEqProofs (disch := first | assumption | omega | (simp only [maxLen, List.length_replicate, eq_self, true_and, and_true, and_self, zab, List.length_map, List.length_append, List.length_cons, List.length_nil, List.length_set, List.length_range, List.length_take, List.length_drop, zaw, zah] <;> omega) | decide | fail) only [zal, zbh, ↓reduceIte, eq_self, zbi, zdq, zc3, zdr, zd4, List.map_cons, List.map_nil, List.length_cons, List.length_nil, List.cons_append, List.nil_append, Nat.zero_add, Nat.reduceEqDiff, iD, Nat.reduceAdd, List.nil_append, mgrH, mgrC]
            refine zhh (zqy ts μu μm f hf hS.len v false) ?_ ?_
            · simp (disch := first | assumption | omega | (simp only [maxLen, List.length_replicate, eq_self, true_and, and_true, and_self, zab, List.length_map, List.length_append, List.length_cons, List.length_nil, List.length_set, List.length_range, List.length_take, List.length_drop, zaw, zah] <;> omega) | decide | fail) only [zbr, zc2, zb5, zb0, zcn, zcf, zc7, zex, Nat.reduceAdd, zak, D.fix, Option.map_some, Option.bind_some, List.getElem?_cons_zero, List.getElem?_cons_succ, iD, oD, zf7, zno, mgrD, zka, zhk, zf7, zmi]
            simp -dsimp -implicitDefEqProofs (disch := first | assumption | omega | (simp only [maxLen, List.length_replicate, eq_self, true_and, and_true, and_self, zab, List.length_map, List.length_append, List.length_cons, List.length_nil, List.length_set, List.length_range, List.length_take, List.length_drop, zaw, zah] <;> omega) | decide | fail) only [zal, zbh, ↓reduceIte, eq_self, zbi, zdq, zc3, zdr, zd4, List.map_cons, List.map_nil, List.length_cons, List.length_nil, Nat.zero_add, Nat.reduceEqDiff, Nat.reduceAdd]
            refine zhh (zqy ts μu μm g hg hS.len v false) ?_ ?_
            · simp (disch := first | assumption | omega | (simp only [maxLen, List.length_replicate, eq_self, true_and, and_true, and_self, zab, List.length_map, List.length_append, List.length_cons, List.length_nil, List.length_set, List.length_range, List.length_take, List.length_drop, zaw, zah] <;> omega) | decide | fail) only [zbr, zc2, zb5, zb0, zcn, zcf, zc7, zex, Nat.reduceAdd, zak, D.fix, Option.map_some, Option.bind_some, List.getElem?_cons_zero, List.getElem?_cons_succ, iD, oD, zf7, zno, mgrD, zka, zhk, zf7, zmi]
            simp -dsimp -implicitDefEqProofs (disch := first | assumption | omega | (simp only [maxLen, List.length_replicate, eq_self, true_and, and_true, and_self, zab, List.length_map, List.length_append, List.length_cons, List.length_nil, List.length_set, List.length_range, List.length_take, List.length_drop, zaw, zah] <;> omega) | decide | fail) only [zal, zbh, ↓reduceIte, eq_self, zbi, zdq, zc3, zdr, zd4, List.map_cons, List.map_nil, List.length_cons, List.length_nil, Nat.zero_add, Nat.reduceEqDiff, Nat.reduceAdd]
            refine zhh (zqy ts μu μm h hh hS.len v false) ?_ ?_
            · simp (disch := first | assumption | omega | (simp only [maxLen, List.length_replicate, eq_self, true_and, and_true, and_self, zab, List.length_map, List.length_append, List.length_cons, List.length_nil, List.length_set, List.length_range, List.length_take, List.length_drop, zaw, zah] <;> omega) | decide | fail) only [zbr, zc2, zb5, zb0, zcn, zcf, zc7, zex, Nat.reduceAdd, zak, D.fix, Option.map_some, Option.bind_some, List.getElem?_cons_zero, List.getElem?_cons_succ, iD, oD, zf7, zno, mgrD, zka, zhk, zf7, zmi]
            simp -dsimp -implicitDefEqProofs (disch := first | assumption | omega | (simp [maxLen, zab, zaw, zah] <;> omega) | decide) only [zbh, ↓reduceIte, q_b, q_f, q_s, q_l, q_n, Nat.reduceEqDiff, Nat.reduceAdd]
            refine zun (S := mgrH ts μu μm) (T := [.cells [.d (iD (num ts f)), .d (iD (num ts g)), .d (iD (num ts h))]]) (ih (n - 1) hn1 ts μu μm _ _ _ hS (prt false hS.row hf) (prt false hS.row hg) (prt false hS.row hh) (lev kf vf) (lev kg vg) (lev kh vh) (by unfold bigB; omega)) rfl (by first | rfl | (simp [AV.allIs, AV.allI, zbs, zb3, zbz, okI, ltI, za6, zcp, mgrH, mgrC]; done) | (intro o ho; simp at ho; done)) (fun t => zdb (by first | rfl | (simp [AV.allIs, AV.allI, zbs, zb3, zbz, okI, ltI, za6, zcp, mgrH, mgrC]; done) | (intro o ho; simp at ho; done)) t) (by first | rfl | (simp [AV.allIs, AV.allI, zbs, zb3, zbz, okI, ltI, za6, zcp, mgrH, mgrC]; done) | (intro o ho; simp at ho; done)) (by first | rfl | (simp [AV.allIs, AV.allI, zbs, ltI, za6, zcp, mgrH, mgrC]; done) | (intro o ho; simp at ho; done)) (by first | rfl | (simp [AV.allIs, AV.allI, zbs, mgrH, mgrC]; done) | (intro o ho; simp at ho; done)) ?_
            rintro _ _ ⟨ts1, μu1, μm1, t1, rfl, rfl, hS1, hp1, hl1, hm1, hi1⟩
            refine ⟨rfl, ?_⟩
            simp -dsimp -implicitDefEqProofs (disch := first | assumption | omega | (simp [maxLen, zab, zaw, zah] <;> omega) | decide) only [zag, zaj, ↓reduceIte, q_b, q_f, q_s, iD, mgrH, mgrC]
            have hf1 := zdn hp1 hf
            have hg1 := zdn hp1 hg
            have hh1 := zdn hp1 hh
            have ef1 := zfa hp1 hf
            have eg1 := zfa hp1 hg
            have eh1 := zfa hp1 hh
            have hlen1 := hS1.len
            unfold bigB at hlen1
            refine hK15 _ _ ?_
            refine zcx hp (τ' := frL [(0, .op 0 0), (1, .d (iD (num ts1 f))), (2, .d (iD (num ts1 g))), (3, .d (iD (num ts1 h))), (9, .op 4 0), (12, .d (iD v)), (13, .d (iD (num ts1 t1)))]) (H' := mgrH ts1 μu1 μm1 ++ [.cells [.d (iD (num ts f)), .d (iD (num ts g)), .d (iD (num ts h))]]) ?_ ?_
            · refine Rt.trans (Rt.gc (keep := [0,1,2,3,4]) (by decide) (by decide) (by simp [])) ?_
              refine Rt.end (zaa (zaa (zaa (zaa (zaa (zaa (zaa (zaq _) rfl) rfl) rfl) (by first | rfl | (simp [frL, gcV, iD]; done) | simp [frL, gcV, iD, *])) (by first | rfl | (simp [frL, gcV, iD]; done) | simp [frL, gcV, iD, *])) (by first | rfl | (simp [frL, gcV, iD]; done) | simp [frL, gcV, iD, *])) rfl) ?_
              first | rfl | (simp only [gcH, zb1, gc_m, zaz, gcVs, gcV, Nat.reduceAdd, posN, List.map_cons, List.map_nil, List.getD_cons_zero, List.getD_cons_succ, ↓reduceIte, Nat.reduceEqDiff, Option.map_some, List.cons_append, List.nil_append, gc_m, mgrH, mgrC]; first | done | rfl)
            refine zac hp zao hc rfl fun K16 hK16 => ?_
            simp -dsimp -implicitDefEqProofs (disch := first | assumption | omega | (simp only [maxLen, List.length_replicate, eq_self, true_and, and_true, and_self, zab, List.length_map, List.length_append, List.length_cons, List.length_nil, List.length_set, List.length_range, List.length_take, List.length_drop, zaw, zah] <;> omega) | decide | fail) only [zal, zbh, ↓reduceIte, eq_self, zbi, zdq, zc3, zdr, zd4, List.map_cons, List.map_nil, List.length_cons, List.length_nil, List.cons_append, List.nil_append, Nat.zero_add, Nat.reduceEqDiff, iD, Nat.reduceAdd, List.nil_append, mgrH, mgrC]
            refine zhh (zqy ts1 μu1 μm1 f hf1 hS1.len v true) ?_ ?_
            · simp (disch := first | assumption | omega | (simp only [maxLen, List.length_replicate, eq_self, true_and, and_true, and_self, zab, List.length_map, List.length_append, List.length_cons, List.length_nil, List.length_set, List.length_range, List.length_take, List.length_drop, zaw, zah] <;> omega) | decide | fail) only [zbr, zc2, zb5, zb0, zcn, zcf, zc7, zex, Nat.reduceAdd, zak, D.fix, Option.map_some, Option.bind_some, List.getElem?_cons_zero, List.getElem?_cons_succ, iD, oD, zf7, zno, mgrD, zka, zhk, zf7, zmi]
            simp -dsimp -implicitDefEqProofs (disch := first | assumption | omega | (simp only [maxLen, List.length_replicate, eq_self, true_and, and_true, and_self, zab, List.length_map, List.length_append, List.length_cons, List.length_nil, List.length_set, List.length_range, List.length_take, List.length_drop, zaw, zah] <;> omega) | decide | fail) only [zal, zbh, ↓reduceIte, eq_self, zbi, zdq, zc3, zdr, zd4, List.map_cons, List.map_nil, List.length_cons, List.length_nil, Nat.zero_add, Nat.reduceEqDiff, Nat.reduceAdd]
            refine zhh (zqy ts1 μu1 μm1 g hg1 hS1.len v true) ?_ ?_
            · simp (disch := first | assumption | omega | (simp only [maxLen, List.length_replicate, eq_self, true_and, and_true, and_self, zab, List.length_map, List.length_append, List.length_cons, List.length_nil, List.length_set, List.length_range, List.length_take, List.length_drop, zaw, zah] <;> omega) | decide | fail) only [zbr, zc2, zb5, zb0, zcn, zcf, zc7, zex, Nat.reduceAdd, zak, D.fix, Option.map_some, Option.bind_some, List.getElem?_cons_zero, List.getElem?_cons_succ, iD, oD, zf7, zno, mgrD, zka, zhk, zf7, zmi]
            simp -dsimp -implicitDefEqProofs (disch := first | assumption | omega | (simp only [maxLen, List.length_replicate, eq_self, true_and, and_true, and_self, zab, List.length_map, List.length_append, List.length_cons, List.length_nil, List.length_set, List.length_range, List.length_take, List.length_drop, zaw, zah] <;> omega) | decide | fail) only [zal, zbh, ↓reduceIte, eq_self, zbi, zdq, zc3, zdr, zd4, List.map_cons, List.map_nil, List.length_cons, List.length_nil, Nat.zero_add, Nat.reduceEqDiff, Nat.reduceAdd]
            refine zhh (zqy ts1 μu1 μm1 h hh1 hS1.len v true) ?_ ?_
            · simp (disch := first | assumption | omega | (simp only [maxLen, List.length_replicate, eq_self, true_and, and_true, and_self, zab, List.length_map, List.length_append, List.length_cons, List.length_nil, List.length_set, List.length_range, List.length_take, List.length_drop, zaw, zah] <;> omega) | decide | fail) only [zbr, zc2, zb5, zb0, zcn, zcf, zc7, zex, Nat.reduceAdd, zak, D.fix, Option.map_some, Option.bind_some, List.getElem?_cons_zero, List.getElem?_cons_succ, iD, oD, zf7, zno, mgrD, zka, zhk, zf7, zmi]
            simp -dsimp -implicitDefEqProofs (disch := first | assumption | omega | (simp [maxLen, zab, zaw, zah] <;> omega) | decide) only [zbh, ↓reduceIte, q_b, q_f, q_s, q_l, q_n, Nat.reduceEqDiff, Nat.reduceAdd]
            refine zun (S := mgrH ts1 μu1 μm1) (T := [.cells [.d (iD (num ts f)), .d (iD (num ts g)), .d (iD (num ts h))]]) (ih (n - 1) hn1 ts1 μu1 μm1 _ _ _ hS1 (prt true hS1.row hf1) (prt true hS1.row hg1) (prt true hS1.row hh1) (lev kf vf) (lev kg vg) (lev kh vh) (by unfold bigB; omega)) rfl (by first | rfl | (simp [AV.allIs, AV.allI, zbs, zb3, zbz, okI, ltI, za6, zcp, mgrH, mgrC]; done) | (intro o ho; simp at ho; done)) (fun t => zdb (by first | rfl | (simp [AV.allIs, AV.allI, zbs, zb3, zbz, okI, ltI, za6, zcp, mgrH, mgrC]; done) | (intro o ho; simp at ho; done)) t) (by first | rfl | (simp [AV.allIs, AV.allI, zbs, zb3, zbz, okI, ltI, za6, zcp, mgrH, mgrC]; done) | (intro o ho; simp at ho; done)) (by first | rfl | (simp [AV.allIs, AV.allI, zbs, ltI, za6, zcp, mgrH, mgrC]; done) | (intro o ho; simp at ho; done)) (by first | rfl | (simp [AV.allIs, AV.allI, zbs, mgrH, mgrC]; done) | (intro o ho; simp at ho; done)) ?_
            rintro _ _ ⟨ts2, μu2, μm2, t2, rfl, rfl, hS2, hp2, hl2, hm2, hi2⟩
            refine ⟨rfl, ?_⟩
            simp -dsimp -implicitDefEqProofs (disch := first | assumption | omega | (simp [maxLen, zab, zaw, zah] <;> omega) | decide) only [zag, zaj, ↓reduceIte, q_b, q_f, q_s, iD, mgrH, mgrC]
            have et1 := zfa hp2 hm1
            have hlen2 := hS2.len
            unfold bigB at hlen2
            have o1 : t1.Ok V (v + 1) := hi1.ok (hS1.row.okf hm1) (zjd (by omega) kf vf _) (zjd (by omega) kg vg _) (zjd (by omega) kh vh _)
            have o2 : t2.Ok V (v + 1) := hi2.ok (hS2.row.okf hm2) (zjd (by omega) kf vf _) (zjd (by omega) kg vg _) (zjd (by omega) kh vh _)
            refine hK16 _ _ ?_
            refine zcx hp (τ' := frL [(0, .op 0 0), (9, .op 4 0), (12, .d (iD v)), (13, .d (iD (num ts2 t1))), (14, .d (iD (num ts2 t2)))]) (H' := mgrH ts2 μu2 μm2 ++ [.cells [.d (iD (num ts f)), .d (iD (num ts g)), .d (iD (num ts h))]]) ?_ ?_
            · refine Rt.trans (Rt.gc (keep := [0,1,2,3,4]) (by decide) (by decide) (by simp [])) ?_
              refine Rt.end (zaa (zaa (zaa (zaa (zaa (zaq _) rfl) (by first | rfl | (simp [frL, gcV, iD]; done) | simp [frL, gcV, iD, *])) rfl) rfl) rfl) ?_
              first | rfl | (simp only [gcH, zb1, gc_m, zaz, gcVs, gcV, Nat.reduceAdd, posN, List.map_cons, List.map_nil, List.getD_cons_zero, List.getD_cons_succ, ↓reduceIte, Nat.reduceEqDiff, Option.map_some, List.cons_append, List.nil_append, gc_m, mgrH, mgrC]; first | done | rfl)
            refine zg1 zao hp hc mixed rfl [(0, []), (1, []), (2, []), (3, []), (4, []), (5, []), (6, []), (7, []), (8, []), (9, [3, 4]), (10, [])] [[], [0], [0, 1], [0, 1, 2], [], [], [], [], [], [5, 6, 7, 8], [0, 1, 2, 3, 4, 5, 6, 7, 8, 9]] 0 (by kernel_rfl) fun K17 hK17 => ?_
            simp -dsimp -implicitDefEqProofs (disch := first | assumption | omega | (simp [maxLen, zab, zaw, zah] <;> omega) | decide) only [zae, q_o, za8, zam, zev, ↓reduceIte, q_b, ifp, q_f, q_s, q_l, List.append_nil, List.replicate_zero, q_n, Nat.reduceEqDiff, zak, iD, Nat.reduceAdd, zgm, zfc, List.getD_cons_zero, List.getD_cons_succ, zg2, zgn, zll, zir, zfd, mgrH, mgrC, zom, zts, ztt, zqu, ztu]
            refine zp6 (S := mgrH ts2 μu2 μm2) (T := [.cells [.d (iD (num ts f)), .d (iD (num ts g)), .d (iD (num ts h))]]) (node_c V ts2 μu2 μm2 hS2 v t1 t2 hvV (zdn hp2 hm1) hm2 o1 o2 (by unfold bigB; omega)) rfl (Nat.le_of_ble_eq_true rfl) (by first | rfl | (simp [AV.allIs, AV.allI, zbs, zb3, zbz, okI, ltI, za6, zcp, mgrH, mgrC]; done) | (intro o ho; simp at ho; done)) (fun t => zdb (by first | rfl | (simp [AV.allIs, AV.allI, zbs, zb3, zbz, okI, ltI, za6, zcp, mgrH, mgrC]; done) | (intro o ho; simp at ho; done)) t) (fun t => zdb (by first | rfl | (simp [AV.allIs, AV.allI, zbs, zb3, zbz, okI, ltI, za6, zcp, mgrH, mgrC]; done) | (intro o ho; simp at ho; done)) t) (by first | rfl | (simp [AV.allIs, AV.allI, zbs, zb3, zbz, okI, ltI, za6, zcp, mgrH, mgrC]; done) | (intro o ho; simp at ho; done)) (by first | rfl | (simp [AV.allIs, AV.allI, zbs, ltI, za6, zcp, mgrH, mgrC]; done) | (intro o ho; simp at ho; done)) (by first | rfl | (simp [AV.allIs, AV.allI, zbs, mgrH, mgrC]; done) | (intro o ho; simp at ho; done)) ?_
            rintro _ _ ⟨ts3, μu3, rfl, rfl, hS3, hp3, hl3, hm3⟩
            refine ⟨rfl, ?_⟩
            have hpp := hp1.trans (hp2.trans hp3)
            have ef := zfa hpp hf
            have eg := zfa hpp hg
            have eh := zfa hpp hh
            simp -dsimp -implicitDefEqProofs (disch := first | assumption | omega | (simp [maxLen, zab, zaw, zah] <;> omega) | decide) only [zae, q_o, za8, ↓reduceIte, q_b, ifp, q_f, q_l, q_s, Nat.reduceEqDiff, zak, iD, zfv, zf2, zid, sS_mu, zif, zmd, zig, zdp, zc8, mgrH, mgrC, zlm, muO_m mtM hk hS3.m.ok, zts, ztt, zqu, ztu]
            have hi3 : Ite f g h (mkT v t1 t2) := Ite.mk (by omega) kf kg kh vf vg vh hi1 hi2
            have hS4 := hS3.memo (zdn hpp hf) (zdn hpp hg) (zdn hpp hh) hm3 hi3
            rw [ef, eg, eh] at hS4
            have hok4 : OkM Try.prog tM (putM (k3V (num ts f) (num ts g) (num ts h)) (.int .i64 (num ts3 (mkT v t1 t2))) μm2) := hS4.m.ok
            have hgs : getM (k3V (num ts f) (num ts g) (num ts h)) (putM (k3V (num ts f) (num ts g) (num ts h)) (.int .i64 (num ts3 (mkT v t1 t2))) μm2) = some (vi (num ts3 (mkT v t1 t2))) := zpj k3_key
            refine hK17 _ _ ?_
            refine zcs zao hc mixed rfl (q := 0) (by kernel_rfl) (by kernel_rfl) fun K18 hK18 => ?_
            simp -dsimp -implicitDefEqProofs (disch := first | assumption | omega | (simp [maxLen, zab, zaw, zah] <;> omega) | decide) only [zco, zdh, zcq, zem, zhc, zgi, zc4, zae, q_o, za8, zam, zev, ↓reduceIte, q_b, ifp, q_f, q_l, List.append_nil, List.replicate_zero, q_n, Nat.reduceEqDiff, killAll, zak, Nat.reduceAdd, zg8, zig, zdp, zc8, zlm, ziz, lkK_f mtM hk hok4, hgs, Option.getD_some, zom, zts, ztt, zqu, ztu]
            refine hK18 _ _ ?_
            refine zcx hp (τ' := frL [(8, .d (iD (num ts3 (mkT v t1 t2))))]) (H' := mgrH ts3 μu3 (putM (k3V (num ts f) (num ts g) (num ts h)) (vi (num ts3 (mkT v t1 t2))) μm2)) ?_ ?_
            · refine Rt.trans (Rt.gc (keep := [0,1,2,3]) (by decide) (by decide) (by simp [])) ?_
              refine Rt.end (zaa (zaq _) rfl) ?_
              first | rfl | (simp only [gcH, zb1, gc_m, zaz, gcVs, gcV, Nat.reduceAdd, posN, List.map_cons, List.map_nil, List.getD_cons_zero, List.getD_cons_succ, ↓reduceIte, Nat.reduceEqDiff, Option.map_some, gc_m, mgrH, mgrC]; first | done | rfl)
            refine zbc ?_
            refine zc5 (t := 8) rfl ?_
            show ∃ _, _
            exact ⟨ts3, μu3, _, mkT v t1 t2, rfl, rfl, hS4, hpp, by omega, hm3, hi3⟩
theorem ite_c (V n : Nat) : IteC V n := by
  induction n using Nat.strongRecOn with
  | _ n ih => exact fun ts μu μm f g h a b c d e1 e2 e3 e4 => ite_s V n ih ts μu μm f g h a b c d e1 e2 e3 e4
end Go.Proofs.Ytgfnpfchdlcoeaa
