/- The search that numbers nodes. -/
import Derived.Test.YtgfnpfchdlcoeaaQ
import Derived.Test.YtgfnpfchdlcoeaaCe
set_option linter.unusedVariables false
set_option linter.unusedSimpArgs false
namespace Go.Proofs.Ytgfnpfchdlcoeaa
open Go Go.RowKit
/-- The trees that a search leaves, in order. -/
def visT : T → List T → List T
  | .leaf _, acc => acc
  | .node v l h, acc => if T.node v l h ∈ acc then acc else visT h (visT l acc) ++ [.node v l h]
theorem zm7 : ∀ (t : T) (acc : List T), acc <+: visT t acc
  | .leaf _, acc => List.prefix_refl _
  | .node v l h, acc => by
    unfold visT
    split
    · exact List.prefix_refl _
    · exact (zm7 l acc).trans ((zm7 h _).trans (List.prefix_append _ _))
theorem zpl : ∀ (t : T) (acc : List T), t ∈ full (visT t acc)
  | .leaf b, acc => mem_b _ b
  | .node v l h, acc => by
    unfold visT
    split
    · rename_i hm; exact List.mem_cons_of_mem _ (List.mem_cons_of_mem _ hm)
    · rw [zhm]; simp
theorem zq0 : ∀ (t : T) (acc : List T) (s : T), s ∈ visT t acc → s ∈ acc ∨ s.sz ≤ t.sz
  | .leaf b, acc, s, hs => .inl hs
  | .node v l h, acc, s, hs => by
    unfold visT at hs
    split at hs
    · exact .inl hs
    · rcases List.mem_append.1 hs with hs | hs
      · rcases zq0 h _ s hs with hs | hs
        · rcases zq0 l _ s hs with hs | hs
          · exact .inl hs
          · exact .inr (by simp only [T.sz]; omega)
        · exact .inr (by simp only [T.sz]; omega)
      · rw [List.mem_singleton.1 hs]; exact .inr (Nat.le_refl _)
theorem zsc {acc us : List T} (h : ∀ t ∈ acc, t ∈ full us) : ∀ t ∈ full acc, t ∈ full us := fun t ht => by
  simp only [full, List.mem_cons] at ht
  rcases ht with rfl | rfl | ht
  · exact zju _
  · exact zr1 _
  · exact h t ht
theorem zpm {V : Nat} {ts : List T} (hr : RowOk V ts) : ∀ (t : T) (acc : List T), t ∈ full ts → (∀ s ∈ acc, s ∈ full ts) → ∀ s ∈ visT t acc, s ∈ full ts
  | .leaf b, acc, _, h => h
  | .node v l r, acc, ht, h => fun s hs => by
    unfold visT at hs
    split at hs
    · exact h s hs
    · rcases List.mem_append.1 hs with hs | hs
      · exact zpm hr r _ (hr.chf ht).2 (zpm hr l acc (hr.chf ht).1 h) s hs
      · rw [List.mem_singleton.1 hs]; exact ht
theorem zm8 {V : Nat} : ∀ (t : T) (k : Nat) (acc : List T), t.Ok V k → RowOk V acc → RowOk V (visT t acc)
  | .leaf b, _, acc, _, h => h
  | .node v l r, k, acc, ht, h => by
    unfold visT
    split
    · exact h
    · rename_i hn
      have h1 := zm8 l (v + 1) acc ht.2.2.2.1 h
      have h2 := zm8 r (v + 1) (visT l acc) ht.2.2.2.2 h1
      refine h2.snoc (ht.mono (Nat.zero_le _)) (fun hm => ?_) (zdn (zm7 r _) (zpl l acc)) (zpl r _)
      simp only [full, List.mem_cons] at hm
      rcases hm with hm | hm | hm
      · cases hm
      · cases hm
      · rcases zq0 r _ _ hm with hm | hm
        · rcases zq0 l _ _ hm with hm | hm
          · exact hn hm
          · simp only [T.sz] at hm; omega
        · simp only [T.sz] at hm; omega
theorem zpn {α : Type} [DecidableEq α] : ∀ {l m : List α}, l.Nodup → (∀ x ∈ l, x ∈ m) → l.length ≤ m.length
  | [], m, _, _ => Nat.zero_le _
  | a :: l, m, hn, h => by
    have ha := h a (List.mem_cons_self ..)
    have h1 := List.nodup_cons.1 hn
    have := zpn (l := l) (m := m.erase a) h1.2 fun x hx => (List.mem_erase_of_ne (by rintro rfl; exact h1.1 hx)).2 (h x (List.mem_cons_of_mem _ hx))
    rw [List.length_erase_of_mem ha] at this
    have hp := List.length_pos_of_mem ha
    rw [List.length_cons]; omega
theorem zu8 {V : Nat} {ts acc : List T} (ha : RowOk V acc) (h : ∀ s ∈ acc, s ∈ full ts) : acc.length ≤ ts.length := by
  have := zpn ha.nd (zsc h)
  rw [zfe, zfe] at this; omega
/-- The nodes as they are handed out. -/
def erow (ts : List T) : List Nd := ts.map (ndOf ts)
theorem zai (ts : List T) : (erow ts).length = ts.length := by simp [erow]
theorem erow_snoc {V : Nat} {ts : List T} (h : RowOk V ts) {t : T} (hl : t.l ∈ full ts) (hh : t.h ∈ full ts) : erow (ts ++ [t]) = erow ts ++ [ndOf ts t] := by
  unfold erow
  rw [List.map_append]
  congr 1
  · exact List.map_congr_left fun s hs => nd_pre h (List.prefix_append _ _) (List.mem_cons_of_mem _ (List.mem_cons_of_mem _ hs))
  · simp only [List.map_cons, List.map_nil]
    unfold ndOf
    rw [zgo hl, zgo hh]
abbrev tI : TypeId := 132
theorem mtI : mtB Try.prog KT tI = some (.int .i64 0) := by kernel_rfl
theorem keyI {n : Nat} (h : n ≤ 4000000000) : KeyP Try.prog tI (vi n) := key_i (et := 3) (by kernel_rfl) (i64n h)
/-- The numbers of the nodes that were found. -/
structure NOk (ts acc : List T) (μ : Mp) : Prop where
  ok : OkM Try.prog tI μ
  get : ∀ t ∈ full acc, getM (vi (num ts t)) μ = some (vi (num acc t))
  inv : ∀ k u, getM k μ = some u → ∃ t ∈ full acc, k = vi (num ts t)
theorem NOk.add {ts acc : List T} {μ : Mp} (h : NOk ts acc μ) (hl : ts.length ≤ bigB) (hs : ∀ s ∈ acc, s ∈ full ts) {t : T} (ht : t ∈ full ts) (hn : t ∉ full acc) : NOk ts (acc ++ [t]) (putM (vi (num ts t)) (vi (2 + acc.length)) μ) := by
  have hk : KeyP Try.prog tI (vi (num ts t)) := keyI (zk5 hl ht)
  classical
  refine ⟨h.ok.put hk, fun s hs' => ?_, fun k u hg => ?_⟩
  · rw [zie hk.1 (by rfl)]
    rw [zhm, List.mem_append] at hs'
    rcases hs' with hs' | hs'
    · have hsf := zsc hs s hs'
      rw [zgo hs', if_neg fun e => hn (zey hsf ht (zqx e) ▸ hs')]
      exact h.get s hs'
    · rw [List.mem_singleton.1 hs', zrz hn, if_pos rfl]
  · by_cases hk' : vKey k = true
    · rw [zie hk.1 hk'] at hg
      split at hg
      · rename_i e; exact ⟨t, by rw [zhm]; simp, e⟩
      · obtain ⟨s, h1, h2⟩ := h.inv k u hg
        exact ⟨s, zi1 h1, h2⟩
    · obtain ⟨n, hm⟩ := zmb hg
      exact absurd ((h.ok.put hk).keys _ hm).1 hk'
theorem NOk.none {ts acc : List T} {μ : Mp} (h : NOk ts acc μ) (hs : ∀ s ∈ acc, s ∈ full ts) {t : T} (ht : t ∈ full ts) (hn : t ∉ full acc) : getM (vi (num ts t)) μ = none := by
  cases hg : getM (vi (num ts t)) μ with
  | none => rfl
  | some u =>
    obtain ⟨s, h1, h2⟩ := h.inv _ _ hg
    exact absurd (zey ht (zsc hs s h1) (zqx h2) ▸ h1) hn
def expH (md : D) (acc : List T) (μn : Mp) (rs : List Nat) : za0 := [.cells [.d md], .cells [.om 4], .cells [.clo (.func 81) [] [.op 1 0, .op 0 0, .op 2 0, .op 3 0]], .cells [.os 3 5 0 acc.length, .os 1 6 0 rs.length], mO μn, .cells (avs ((erow acc).flatMap ndC)), .cells (avs (rs.map natD))]
def VisK (md : D) (ts acc : List T) (rs : List Nat) (f : T) (x : AV) (S' : za0) : Prop := ∃ μn', S' = expH md (visT f acc) μn' rs ∧ x = .d (iD (num (visT f acc) f)) ∧ NOk ts (visT f acc) μn'
def VisC (V : Nat) (ts : List T) (μu μm : Mp) (f : T) : Prop := ∀ (acc : List T) (μn : Mp) (rs : List Nat), f ∈ full ts → RowOk V acc → (∀ s ∈ acc, s ∈ full ts) → NOk ts acc μn →
  ScS Try.prog [0, 1, 2, 3, 4, 6] 81 [.d (iD (num ts f)), .op 1 0, .op 0 0, .op 2 0, .op 3 0] (expH (mgrD ts μu μm) acc μn rs) (VisK (mgrD ts μu μm) ts acc rs f)
set_option maxRecDepth 100000 in
set_option linter.unusedVariables false in
set_option maxHeartbeats 4000000 in
theorem vis_s (V : Nat) (ts : List T) (μu μm : Mp) (hr : RowOk V ts) (hl : ts.length ≤ bigB) (f : T) (ih : ∀ s : T, s.sz < f.sz → VisC V ts μu μm s) (acc : List T) (μn : Mp) (rs : List Nat) (hf : f ∈ full ts) (ha : RowOk V acc) (hs : ∀ s ∈ acc, s ∈ full ts) (hN : NOk ts acc μn) : ScS Try.prog [0, 1, 2, 3, 4, 6] 81 [.d (iD (num ts f)), .op 1 0, .op 0 0, .op 2 0, .op 3 0] (expH (mgrD ts μu μm) acc μn rs) (VisK (mgrD ts μu μm) ts acc rs f) := by
  refine zmr (fn := Try.f81) (by kernel_rfl) Try.func81 rfl (Nat.le_of_ble_eq_true rfl) fun c hc hp => ?_
  refine awp_sv5 ?_
  have hl' := hl
  unfold bigB at hl
  have nf := zer hf
  have hlen := zu8 ha hs
  have hk : KeyP Try.prog tI (.int .i64 (num ts f)) := keyI (zk5 hl' hf)
  refine zac hp zao hc rfl fun K1 hK1 => ?_
  simp -dsimp -implicitDefEqProofs (disch := first | assumption | omega | (simp [maxLen, zab, zaw, zah, zai] <;> omega) | decide) only [zag, zaj, q_f, iD, expH, mgrD]
  refine hK1 _ _ ?_
  refine zas fun K2 hK2 => ?_
  refine zac hp zao hc rfl fun K3 hK3 => ?_
  by_cases hg : (f ∈ full acc)
  · have hgm : getM (.int .i64 (num ts f)) μn = some (vi (num acc f)) := hN.get f hg
    simp -dsimp -implicitDefEqProofs (disch := first | assumption | omega | (simp [maxLen, zab, zaw, zah, zai] <;> omega) | decide) only [zal, zag, zat, zei, zew, zaj, zae, za8, ↓reduceIte, q_b, ifp, q_f, q_l, q_n, Nat.reduceEqDiff, Nat.reduceAdd, zg8, zi0, ziz, zti mtI hk hN.ok, hgm, Option.getD_some, Option.isSome_some, zjp, zk4]
    refine hK3 _ _ ?_
    refine zac hp zao hc rfl fun K4 hK4 => ?_
    simp -dsimp -implicitDefEqProofs (disch := first | assumption | omega | (simp [maxLen, zab, zaw, zah, zai] <;> omega) | decide) only [zal, zaj, ↓reduceIte, q_b, q_f]
    refine hK4 _ _ ?_
    refine zau rfl (fun ht => ?_) (fun ht => ?_)
    · refine zac hp zao hc rfl fun K5 hK5 => ?_
      simp -dsimp -implicitDefEqProofs (disch := first | assumption | omega | (simp [maxLen, zab, zaw, zah, zai] <;> omega) | decide) only [zal, zag, zaj, ↓reduceIte, q_b, q_f, Nat.reduceEqDiff]
      refine hK5 _ _ ?_
      refine zcx hp (τ' := frL [(6, .d (iD (num acc f)))]) (H' := expH (mgrD ts μu μm) acc μn rs) ?_ ?_
      · refine Rt.trans (Rt.gc (keep := [0,1,2,3,4,5,6]) (by decide) (by decide) (by simp [])) ?_
        refine Rt.end (zaa (zaq _) rfl) ?_
        first | rfl | (simp only [gcH, zb1, gc_m, zaz, gcVs, gcV, Nat.reduceAdd, posN, List.map_cons, List.map_nil, List.getD_cons_zero, List.getD_cons_succ, ↓reduceIte, Nat.reduceEqDiff, Option.map_some, gc_m, expH, mgrD]; first | done | rfl)
      refine zbc ?_
      refine zc5 (t := 6) rfl ?_
      show ∃ _, _
      have e : visT f acc = acc := by
        cases f with
        | leaf b => rfl
        | node v l h => unfold visT; rw [if_pos (by simpa [full] using hg)]
      rw [e]
      exact ⟨μn, rfl, rfl, hN⟩
    · cases ht
  · have hgm : getM (.int .i64 (num ts f)) μn = none := hN.none hs hf hg
    simp -dsimp -implicitDefEqProofs (disch := first | assumption | omega | (simp [maxLen, zab, zaw, zah, zai] <;> omega) | decide) only [zal, zag, zat, zei, zew, zaj, zae, za8, ↓reduceIte, q_b, ifp, q_f, q_l, q_n, Nat.reduceEqDiff, Nat.reduceAdd, zg8, zi0, ziz, zti mtI hk hN.ok, hgm, Option.getD_none, Option.isSome_none, zjp, zk4]
    refine hK3 _ _ ?_
    refine zac hp zao hc rfl fun K6 hK6 => ?_
    simp -dsimp -implicitDefEqProofs (disch := first | assumption | omega | (simp [maxLen, zab, zaw, zah, zai] <;> omega) | decide) only [zal, zaj, ↓reduceIte, q_b, q_f]
    refine hK6 _ _ ?_
    refine zau rfl (fun ht => ?_) (fun ht => ?_)
    · cases ht
    · refine zbb (hK2 _ _ ?_)
      refine zac hp zao hc rfl fun K7 hK7 => ?_
      simp -dsimp -implicitDefEqProofs (disch := first | assumption | omega | (simp [maxLen, zab, zaw, zah, zai] <;> omega) | decide) only [zal, zat, zb6, zdo, ze9, zcm, zbu, zbd, zaj, zae, q_o, za8, zam, ixO, za2, layF, zb4, zev, ↓reduceIte, q_b, ifp, q_f, q_s, q_l, zca, q_a, D.one, Value.oneCell', Int.toNat_natCast, q_n, Nat.reduceEqDiff, zdk, zav, zap, iD, Nat.reduceAdd, zbd, zqw, zks hf, ndC, ndOf, zhz, zh0, zmh, zen, zeo, zep, zis, zje, zp7]
      obtain ⟨v, l, h, rfl⟩ : ∃ v l h, f = .node v l h := by
        cases f with
        | leaf b => exact absurd (mem_b acc b) hg
        | node v l h => exact ⟨v, l, h, rfl⟩
      have hcl : l ∈ full ts := (hr.chf hf).1
      have hch : h ∈ full ts := (hr.chf hf).2
      have hok := hr.okf hf
      have hn' : T.node v l h ∉ acc := fun hm => hg (List.mem_cons_of_mem _ (List.mem_cons_of_mem _ hm))
      have hev : visT (.node v l h) acc = visT h (visT l acc) ++ [.node v l h] := by rw [visT, if_neg hn']
      have ra1 := zm8 l 0 acc hok.l_ok ha
      have sa1 := zpm hr l acc hcl hs
      have ra2 := zm8 h 0 (visT l acc) hok.h_ok ra1
      have sa2 := zpm hr h (visT l acc) hch sa1
      have hlen2 := zu8 ra2 sa2
      have hmem1 := zpl l acc
      have hmem2 := zpl h (visT l acc)
      have hpre2 := zm7 h (visT l acc)
      have hn2 : T.node v l h ∉ full (visT h (visT l acc)) := fun hm => by
        simp only [full, List.mem_cons] at hm
        rcases hm with hm | hm | hm
        · cases hm
        · cases hm
        · rcases zq0 h _ _ hm with hm | hm
          · rcases zq0 l _ _ hm with hm | hm
            · exact hn' hm
            · simp only [T.sz] at hm; omega
          · simp only [T.sz] at hm; omega
      refine hK7 _ _ ?_
      refine zcx hp (τ' := frL [(0, .d (iD (num ts (.node v l h)))), (1, .op 1 0), (2, .op 0 0), (3, .op 2 0), (4, .op 3 0), (9, .op 7 0)]) (H' := expH (mgrD ts μu μm) acc μn rs ++ [.cells [.d (iD v), .d (iD (num ts l)), .d (iD (num ts h))]]) ?_ ?_
      · refine Rt.trans (Rt.gc (keep := [0,1,2,3,4,5,6,7]) (by decide) (by decide) (by simp [])) ?_
        refine Rt.end (zaa (zaa (zaa (zaa (zaa (zaa (zaq _) rfl) rfl) rfl) rfl) rfl) rfl) ?_
        first | rfl | (simp only [gcH, zb1, gc_m, zaz, gcVs, gcV, Nat.reduceAdd, posN, List.map_cons, List.map_nil, List.getD_cons_zero, List.getD_cons_succ, ↓reduceIte, Nat.reduceEqDiff, Option.map_some, List.cons_append, List.nil_append, gc_m, expH, mgrD]; first | done | rfl)
      refine zg1 zao hp hc mixed rfl [(0, []), (1, []), (2, []), (3, []), (4, []), (6, []), (7, []), (8, []), (11, []), (5, [1, 6, 8]), (9, [1]), (10, []), (12, [])] [[], [0], [], [], [3], [2, 3, 4], [], [], [7], [2, 3, 4, 5, 6, 7, 8], [0, 1, 2, 3, 4, 5, 6, 7, 8, 9], [], [0, 1, 2, 3, 4, 5, 6, 7, 8, 9, 10, 11]] 1 (by kernel_rfl) fun K8 hK8 => ?_
      simp -dsimp -implicitDefEqProofs (disch := first | assumption | omega | (simp [maxLen, zab, zaw, zah, zai] <;> omega) | decide) only [zae, q_o, za8, zam, layF, zdl, ↓reduceIte, q_b, ifp, q_f, q_s, q_l, List.replicate_zero, List.replicate_succ, q_n, Nat.reduceEqDiff, shB, appB, zdk, zav, zap, iD, Nat.reduceAdd, zdl, frzF, zgm, zfc, List.getD_cons_zero, List.getD_cons_succ, zgn, zll, zma, zrw, expH, mgrD, zdf, sz_3, ag_3, sz_141, ag_141, zd3, ze0, zp7]
      refine ztj (S := expH (mgrD ts μu μm) acc μn rs) (T := [.cells [.d (iD v), .d (iD (num ts l)), .d (iD (num ts h))], .cells [.d (iD 0), .d (iD 0), .d (iD 0)]]) (ih l (by simp only [T.sz]; omega) acc μn rs hcl ha hs hN) rfl (Nat.le_of_ble_eq_true rfl) (by first | rfl | (simp [AV.allIs, AV.allI, zbs, zb3, zbz, okI, ltI, za6, zcp, expH]; done) | (intro o ho; simp at ho; done)) (fun t => zdb (by first | rfl | (simp [AV.allIs, AV.allI, zbs, zb3, zbz, okI, ltI, za6, zcp, expH]; done) | (intro o ho; simp at ho; done)) t) (fun t => zdb (by first | rfl | (simp [AV.allIs, AV.allI, zbs, zb3, zbz, okI, ltI, za6, zcp, expH]; done) | (intro o ho; simp at ho; done)) t) (by first | rfl | (simp [AV.allIs, AV.allI, zbs, zb3, zbz, okI, ltI, za6, zcp, expH]; done) | (intro o ho; simp at ho; done)) (by first | rfl | (simp [AV.allIs, AV.allI, zbs, ltI, za6, zcp, expH]; done) | (intro o ho; simp at ho; done)) (by first | rfl | (simp [AV.allIs, AV.allI, zbs, expH]; done) | (intro o ho; simp at ho; done)) ?_
      rintro _ _ ⟨μn1, rfl, rfl, hN1⟩
      refine ⟨rfl, ?_⟩
      simp -dsimp -implicitDefEqProofs (disch := first | assumption | omega | (simp [maxLen, zab, zaw, zah, zai] <;> omega) | decide) only [zae, za8, ↓reduceIte, q_b, ifp, q_f, q_s, q_l, Nat.reduceEqDiff, iD, zfv, zf2, zma, expH, mgrD, sz_3, ag_3, sz_141, ag_141]
      refine ztj (S := expH (mgrD ts μu μm) (visT l acc) μn1 rs) (T := [.cells [.d (iD v), .d (iD (num ts l)), .d (iD (num ts h))], .cells [.d (iD 0), .d (iD 0), .d (iD 0)]]) (ih h (by simp only [T.sz]; omega) (visT l acc) μn1 rs hch ra1 sa1 hN1) rfl (Nat.le_of_ble_eq_true rfl) (by first | rfl | (simp [AV.allIs, AV.allI, zbs, zb3, zbz, okI, ltI, za6, zcp, expH]; done) | (intro o ho; simp at ho; done)) (fun t => zdb (by first | rfl | (simp [AV.allIs, AV.allI, zbs, zb3, zbz, okI, ltI, za6, zcp, expH]; done) | (intro o ho; simp at ho; done)) t) (fun t => zdb (by first | rfl | (simp [AV.allIs, AV.allI, zbs, zb3, zbz, okI, ltI, za6, zcp, expH]; done) | (intro o ho; simp at ho; done)) t) (by first | rfl | (simp [AV.allIs, AV.allI, zbs, zb3, zbz, okI, ltI, za6, zcp, expH]; done) | (intro o ho; simp at ho; done)) (by first | rfl | (simp [AV.allIs, AV.allI, zbs, ltI, za6, zcp, expH]; done) | (intro o ho; simp at ho; done)) (by first | rfl | (simp [AV.allIs, AV.allI, zbs, expH]; done) | (intro o ho; simp at ho; done)) ?_
      rintro _ _ ⟨μn2, rfl, rfl, hN2⟩
      refine ⟨rfl, ?_⟩
      simp -dsimp -implicitDefEqProofs (disch := first | assumption | omega | (simp [maxLen, zab, zaw, zah, zai] <;> omega) | decide) only [zae, q_o, za8, zdx, zb4, ↓reduceIte, q_b, ifp, ifn, q_f, q_s, q_l, q_a, zbn, AV.one, D.one, Value.oneCell', q_n, Nat.reduceEqDiff, iD, Nat.reduceAdd, zfv, zf2, zid, sS_build, zhl, expH, mgrD, zis, sz_3, ag_3, pa_83, zpi, zr7, zr8, zc_83]
      refine hK8 _ _ ?_
      refine zcx hp (τ' := frL [(0, .d (iD (num ts (.node v l h)))), (1, .op 1 0), (4, .op 3 0), (10, .op 7 0)]) (H' := expH (mgrD ts μu μm) (visT h (visT l acc)) μn2 rs ++ [.cells [.d (iD v), .d (iD (num (visT l acc) l)), .d (iD (num (visT h (visT l acc)) h))]]) ?_ ?_
      · refine Rt.trans (Rt.gc (keep := [0,1,2,3,4,5,6,8]) (by decide) (by decide) (by simp [])) ?_
        refine Rt.end (zaa (zaa (zaa (zaa (zaq _) rfl) rfl) rfl) rfl) ?_
        first | rfl | (simp only [gcH, zb1, gc_m, zaz, gcVs, gcV, Nat.reduceAdd, posN, List.map_cons, List.map_nil, List.getD_cons_zero, List.getD_cons_succ, ↓reduceIte, Nat.reduceEqDiff, Option.map_some, List.cons_append, List.nil_append, gc_m, expH, mgrD]; first | done | rfl)
      refine zac hp zao hc rfl fun K9 hK9 => ?_
      simp -dsimp -implicitDefEqProofs (disch := first | assumption | omega | (simp only [maxLen, List.length_replicate, eq_self, true_and, and_true, and_self, zab, List.length_map, List.length_append, List.length_cons, List.length_nil, List.length_set, List.length_range, List.length_take, List.length_drop, zaw, zah, zai] <;> omega) | decide | fail) only [zat, zb6, zdw, zd6, zbu, zbd, zaj, zae, Option.map_some, za8, zam, layF, srcF, zb4, ↓reduceIte, Bool.false_eq_true, eq_self, ifp, ifn, zbi, zdq, zee, zc3, List.map_cons, List.map_nil, List.length_cons, List.length_nil, List.getElem?_cons_zero, List.getElem?_cons_succ, List.cons_append, List.nil_append, List.append_nil, List.set_cons_zero, List.set_cons_succ, List.replicate_zero, List.replicate_succ, List.all_cons, List.all_nil, zbv, zd7, zbn, zga, zgf, zd8, zds, AV.one, D.one, Value.oneCell', Bool.and_self, true_and, Nat.zero_add, Nat.add_zero, Nat.reduceEqDiff, zab, zcv, zak, List.drop_zero, iD, Nat.reduceAdd, List.nil_append, zbd, Nat.zero_mul, Nat.reduceMul, List.flatten_cons, List.flatten_nil, expH, mgrD, zdc, zen, zeo, zis, zje, mk_28]
      refine hK9 _ _ ?_
      refine zac hp zao hc rfl fun K10 hK10 => ?_
      simp -dsimp -implicitDefEqProofs (disch := first | assumption | omega | (simp [maxLen, zab, zaw, zah, zai] <;> omega) | decide) only [zal, zat, zb6, za1, zb8, sT_mu, zaj, zae, q_o, za8, zam, zay, lenF, zbe, zcu, ↓reduceIte, q_b, ifp, q_f, q_s, q_l, q_n, Nat.reduceEqDiff, Nat.reduceAdd, zif, zmd, zi0, muO_m mtI hk hN2.ok, zjp, zk4, zdc, zen, zeo, zep]
      have hN3 := hN2.add hl' sa2 hf hn2
      refine hK10 _ _ ?_
      refine zac hp zao hc rfl fun K11 hK11 => ?_
      simp -dsimp -implicitDefEqProofs (disch := first | assumption | omega | (simp [maxLen, zab, zaw, zah, zai] <;> omega) | decide) only [zal, zag, zat, zew, zaj, zae, za8, ↓reduceIte, q_b, ifp, q_f, q_l, q_n, Nat.reduceEqDiff, Nat.reduceAdd, zg8, zi0, ziz, lkK_f mtI hk (hN2.ok.put hk), zpj (rfl : vKey (.int .i64 (num ts (.node v l h) : Int)) = true), Option.getD_some, zjp, zk4]
      refine hK11 _ _ ?_
      refine zcx hp (τ' := frL [(6, .d (.val (.int .i64 (1 + (((visT h (visT l acc)).length + 1 : Nat) : Int)))))]) (H' := expH (mgrD ts μu μm) (visT h (visT l acc) ++ [.node v l h]) (putM (vi (num ts (.node v l h))) (.int .i64 (1 + (((visT h (visT l acc)).length + 1 : Nat) : Int))) μn2) rs) ?_ ?_
      · refine Rt.trans (Rt.gc (keep := [0,1,2,3,4,9,6]) (by decide) (by decide) (by simp [])) ?_
        refine Rt.end (zaa (zaq _) rfl) ?_
        simp only [gcH, zb1, gc_m, zaz, gcVs, gcV, Nat.reduceAdd, posN, List.map_cons, List.map_nil, List.getD_cons_zero, List.getD_cons_succ, ↓reduceIte, Nat.reduceEqDiff, Option.map_some]; unfold expH; rw [erow_snoc (t := .node v l h) ra2 (zdn hpre2 hmem1) hmem2]; simp [ndC, ndOf, T.v, T.l, T.h, vi, iD, avs, zfa hpre2 hmem1, mgrD]
      refine zbc ?_
      refine zc5 (t := 6) rfl ?_
      show ∃ _, _
      have eu : (1 + (((visT h (visT l acc)).length + 1 : Nat) : Int)) = ((2 + (visT h (visT l acc)).length : Nat) : Int) := by omega
      rw [hev, eu]
      exact ⟨_, rfl, by rw [zrz hn2]; rfl, hN3⟩
end Go.Proofs.Ytgfnpfchdlcoeaa
