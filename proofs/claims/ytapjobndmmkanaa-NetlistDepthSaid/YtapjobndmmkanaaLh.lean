/- law21: built; R21.Large on constants; netlists of the examples. -/
import Derived.Test.YtapjobndmmkanaaQr
import Derived.Test.YtapjobndmmkanaaYs
import Derived.Test.YtapjobndmmkanaaLg
set_option linter.unusedVariables false
set_option linter.unusedSimpArgs false
set_option maxRecDepth 100000
set_option maxHeartbeats 4000000
namespace Go.Proofs.Ytapjobndmmkanaa
open Go Go.RowKit
theorem jlb : ((((((type_of% @zfs) ∧ (type_of% @zim)) ∧ ((type_of% @zoq) ∧ (type_of% @zpl))) ∧ (((type_of% @jvp) ∧ (type_of% @zfr)) ∧ ((type_of% @zkh) ∧ ((type_of% @zpi) ∧ (type_of% @jvq))))) ∧ ((((type_of% @jfv) ∧ (type_of% @jfx)) ∧ ((type_of% @zmw) ∧ ((type_of% @jbs) ∧ (type_of% @jbt)))) ∧ (((type_of% @zlv) ∧ (type_of% @zlw)) ∧ ((type_of% @jnd) ∧ ((type_of% @jir) ∧ (type_of% @zpn)))))) ∧ (((((type_of% @zgx) ∧ (type_of% @zpm)) ∧ ((type_of% @zhw) ∧ ((type_of% @zdr) ∧ (type_of% @zen)))) ∧ (((type_of% @zi9) ∧ (type_of% @zdj)) ∧ ((type_of% @zdz) ∧ ((type_of% @zhv) ∧ (type_of% @zhu))))) ∧ ((((type_of% @zpo) ∧ (type_of% @zdl)) ∧ ((type_of% @zjp) ∧ ((type_of% @zjq) ∧ (type_of% @zqf)))) ∧ (((type_of% @zja) ∧ (type_of% @zjb)) ∧ ((type_of% @znj) ∧ ((type_of% @zqe) ∧ (type_of% @zts))))))) := ⟨⟨⟨⟨⟨@zfs, @zim⟩, ⟨@zoq, @zpl⟩⟩, ⟨⟨@jvp, @zfr⟩, ⟨@zkh, ⟨@zpi, @jvq⟩⟩⟩⟩, ⟨⟨⟨@jfv, @jfx⟩, ⟨@zmw, ⟨@jbs, @jbt⟩⟩⟩, ⟨⟨@zlv, @zlw⟩, ⟨@jnd, ⟨@jir, @zpn⟩⟩⟩⟩⟩, ⟨⟨⟨⟨@zgx, @zpm⟩, ⟨@zhw, ⟨@zdr, @zen⟩⟩⟩, ⟨⟨@zi9, @zdj⟩, ⟨@zdz, ⟨@zhv, @zhu⟩⟩⟩⟩, ⟨⟨⟨@zpo, @zdl⟩, ⟨@zjp, ⟨@zjq, @zqf⟩⟩⟩, ⟨⟨@zja, @zjb⟩, ⟨@znj, ⟨@zqe, @zts⟩⟩⟩⟩⟩⟩
def zeq (n : Net) (e : Int) : List D := zb7 n ++ [iD e]
theorem zuj {p q : Prop} (hq : q) (h : p = q := by
 conv => lhs; simp -dsimp -implicitDefEqProofs (disch := first | assumption | omega | (simp only [r_z] <;> omega) | decide) only [r_r, ↓reduceIte, Nat.reduceEqDiff, Nat.reduceAdd, D.fix, Int.reduceToNat, Nat.reduceMul, Nat.reduceBNe, Nat.reduceBEq, zar, zbq, zcb, zb7, zay, za3, sD, nS, jlb]) : p := h.mpr hq
theorem jyw {p q : Prop} (hq : q) (h : p = q := by
 conv => lhs; simp -dsimp -implicitDefEqProofs (disch := first | assumption | omega | (simp only [r_z] <;> omega) | decide) only [r_r, ↓reduceIte, Nat.reduceEqDiff, Nat.reduceAdd, D.fix, Int.reduceToNat, Nat.reduceMul, Nat.reduceBNe, Nat.reduceBEq, zar, zbq, zcb, zb7, zay, za3, sD, nS, zoq, yb8]) : p := h.mpr hq
theorem yga {p q : Prop} (hq : q) (h : p = q := by
 conv => lhs; simp (disch := first | assumption | omega | (simp only [r_z] <;> omega) | decide) only [r_c, Nat.reduceAdd, D.fix, ↓reduceIte, Nat.reduceEqDiff, zar, zbq, zcb, zb7, zay, za3, sD, nS]) : p := h.mpr hq
theorem zlf (p : Pr) (hk0 : PrOk p) (hil : (zfi p).length ≤ 1000) (hco : zgz p ≤ 80000) (hml : p.mems.length ≤ 100) (hb : ¬ 600 < 2 + (zfi p).length + (ze4 p).gates.length) : zbg Try.prog 30 [zbq p] (.d (.agg (zeq (ze4 p) 0))) := by
 have hcall := jhk p hk0 hil hco hml
 unfold zuh at hcall
 rw [if_neg hb] at hcall
 refine za4 (fn := Try.f30) (by kernel_rfl) Try.func30 rfl (Nat.le_of_ble_eq_true rfl) fun c hc hp => ?_
 refine za9 (τ' := frL [(0, .d (zbq p))]) (by repeat (first | exact zas _ | refine zao ?_ (by first | rfl | (simp [r_f]; done) | simp [r_f, *]))) ?_
 refine szq hp (fun _ hZ => zuj hZ) ?_
 refine zag hp zak hc rfl fun K2 hK2 => ?_
 refine zuj ?_
 refine zbp (hcall) rfl ?_
 refine zuj ?_
 refine hK2 _ _ ?_
 refine szq hp (fun _ hZ => zuj hZ) ?_
 refine zam ?_
 try dsimp only [zco, za8]
 refine zba rfl ?_
 refine jyw ?_
 show closeA _ _ = _
 refine yga ?_
 simp [zeq, zb7, zay, za3, intsD, iD, D.fix, zny, zz2]
theorem jhl (p : Pr) (hk0 : PrOk p) (hil : (zfi p).length ≤ 1000) (hco : zgz p ≤ 80000) (hml : p.mems.length ≤ 100) (hb : 600 < 2 + (zfi p).length + (ze4 p).gates.length) : zbg Try.prog 30 [zbq p] (.d (.agg (zeq ⟨[], [], [], []⟩ 2))) := by
 have hcall := jhk p hk0 hil hco hml
 unfold zuh at hcall
 rw [if_pos hb] at hcall
 refine za4 (fn := Try.f30) (by kernel_rfl) Try.func30 rfl (Nat.le_of_ble_eq_true rfl) fun c hc hp => ?_
 refine za9 (τ' := frL [(0, .d (zbq p))]) (by repeat (first | exact zas _ | refine zao ?_ (by first | rfl | (simp [r_f]; done) | simp [r_f, *]))) ?_
 refine szq hp (fun _ hZ => zuj hZ) ?_
 refine zag hp zak hc rfl fun K2 hK2 => ?_
 refine zuj ?_
 refine zbp (hcall) rfl ?_
 refine zuj ?_
 refine hK2 _ _ ?_
 refine szq hp (fun _ hZ => zuj hZ) ?_
 refine zam ?_
 try dsimp only [zco, za8]
 refine zba rfl ?_
 refine jyw ?_
 show closeA _ _ = _
 refine yga ?_
 rfl
def lgL (n w k : Nat) : List PReg := (List.range k).map (lgR n w)
theorem jyx {n w k : Nat} : ((lgL n w k).flatMap prC).map D.fix = (lgL n w k).flatMap prC := by
 rw [List.map_flatMap]; unfold lgL; rw [List.flatMap_map, List.flatMap_map]; rfl
theorem zg4 {n w k : Nat} : (lgL n w k).length = k := by simp [lgL]
theorem ydv {n w k : Nat} : lgL n w (k + 1) = lgL n w k ++ [lgR n w k] := by simp [lgL, List.range_succ]
def lgz : AObj := .cells [.d (sD ⟨#[]⟩), .d (sD ⟨#[]⟩), .d (.val (.slice none 0 0)), .d (.val (.slice none 0 0)), .d (.val (.slice none 0 0)), .d (.val (.slice none 0 0))]
def lgo (k : Nat) : AObj := .cells [.d (sD ⟨#[108, 97, 114, 103, 101]⟩), .d (sD ⟨#[97]⟩), .os 13 2 0 k, .d (.val (.slice none 0 0)), .d (.val (.slice none 0 0)), .d (.val (.slice none 0 0))]
theorem zuk {p q : Prop} (hq : q) (h : p = q := by
 conv => lhs; simp -dsimp -implicitDefEqProofs (disch := first | assumption | omega | (simp only [r_z, za7, zg4] <;> omega) | decide) only [r_r, ↓reduceIte, Nat.reduceEqDiff, Nat.reduceAdd, D.fix, Int.reduceToNat, Nat.reduceMul, Nat.reduceBNe, Nat.reduceBEq, zar, zbq, sD, nS, exR, zb1, exC, lgz, lgo, List.cons_append, List.nil_append, jlb]) : p := h.mpr hq
theorem js9 (k : List Nat) {m : List Nat} {τ τ1 : Fr} {H H1 : zae} (h : Rt m (fun t => gcV k (τ t)) (gcH k H) τ1 H1) (a : ∀ i ∈ m, k[i]? = some i := by decide) (b : k.Nodup := by decide) (c : ∀ i ∈ k, i < H.length := by
 simp [fzH, gcH]) : Rt m τ H τ1 H1 := Rt.trans (Rt.gc a b c) h
theorem jta {m : List Nat} {τ τ' : Fr} {H H' : zae} (h2 : H = H') (h : zfq τ τ' := by
 repeat (first | exact zas _ | refine zao ?_ (by first | rfl | (simp [r_f, za7, zg4]; done) | simp [r_f, za7, zg4, *]))) : Rt m τ H τ' H' := Rt.end h h2
theorem ybl {p : Prop} (h : p := by
 first | rfl | (simp only [r_g, Nat.reduceAdd, ↓reduceIte, Nat.reduceEqDiff, zar, zbq, sD, nS, exR, zb1, exC, lgz, lgo, List.cons_append, List.nil_append]; first | done | rfl)) : p := h
theorem ygb {p q : Prop} (hq : q) (h : p = q := by
 conv => lhs; simp only [r_g, Nat.reduceAdd, ↓reduceIte, Nat.reduceEqDiff, zar, zbq, sD, nS, exR, zb1, exC, lgz, lgo, List.cons_append, List.nil_append]) : p := h.mpr hq
theorem zru (a b : Nat) (ha : a < 256) (hb : b < 256) : zbg Try.prog 29 [.val (.int .u8 a), .val (.int .u8 b)] (.d (zbq (lgP (1 + a % 16) (1 + b % 8)))) := by
 obtain ⟨n, hn⟩ : ∃ n, n = 1 + a % 16 := ⟨_, rfl⟩
 obtain ⟨w, hw⟩ : ∃ w, w = 1 + b % 8 := ⟨_, rfl⟩
 have hn1 : 1 ≤ n ∧ n ≤ 16 := by omega
 have hw1 : 1 ≤ w ∧ w ≤ 8 := by omega
 rw [← hn, ← hw]
 refine za4 (fn := Try.f29) (by kernel_rfl) Try.func29 rfl (Nat.le_of_ble_eq_true rfl) fun c hc hp => ?_
 refine za9 (τ' := frL [(0, .d (.val (.int .u8 a))), (1, .d (.val (.int .u8 b)))]) (by repeat (first | exact zas _ | refine zao ?_ (by first | rfl | (simp [r_f, za7, zg4]; done) | simp [r_f, za7, zg4, *]))) ?_
 refine szq hp (fun _ hZ => zuk hZ) ?_
 refine szq hp (fun _ hZ => zuk hZ) ?_
 refine szq hp (fun _ hZ => zuk hZ) ?_
 refine zaa fun K4 hK4 => ?_
 refine zat hp (τ' := frL [(4, .op 0 0), (5, .op 1 0), (6, .d (iD n)), (7, .d (iD w))]) (H' := [lgz, .cells [.d (sD ⟨#[108, 97, 114, 103, 101]⟩), .d (sD ⟨#[97]⟩), .d (.val (.slice none 0 0)), .d (.val (.slice none 0 0)), .d (.val (.slice none 0 0)), .d (.val (.slice none 0 0))]]) ?_ ?_
 ·refine js9 [0,1] ?_
  refine jta ?_
  exact ybl
 refine zag hp zak hc rfl fun K5 hK5 => ?_
 simp -dsimp -implicitDefEqProofs (disch := first | assumption | omega | (simp only [r_z, za7, zg4] <;> omega) | decide) only [r_r, ↓reduceIte, Nat.reduceEqDiff, Nat.reduceAdd, D.fix, Int.reduceToNat, Nat.reduceMul, Nat.reduceBNe, Nat.reduceBEq, zar, zbq, sD, nS, exR, zb1, exC, lgz, lgo, List.cons_append, List.nil_append]
 refine hK5 _ _ ?_
 refine zaf ?_
 refine zan hp (fun τ' H' mm => ∃ (k : Nat), (k ≤ n) ∧ mm = n - k ∧ H' = [lgz, lgo k, .cells (avs ((lgL n w k).flatMap prC))] ∧ τ' = frL [(4, .op 0 0), (5, .op 1 0), (6, .d (iD n)), (7, .d (iD w)), (8, .d (iD k))]) (n) ?_ ⟨0, Nat.zero_le _, rfl, rfl, rfl⟩ ?_
 ·refine Rt.trans (Rt.nilc 1 2 13 rfl rfl) ?_
  refine js9 [0,1,2] ?_
  refine jta ?_
  refine ygb ?_; simp [lgz, lgo, lgL, avs, sD]
 rintro τ' H' mm ⟨k, hk, rfl, rfl, rfl⟩
 refine zaa fun K6 hK6 => ?_
 refine szq hp (fun _ hZ => zuk hZ) ?_
 refine zal rfl (fun ht => ?_) (fun ht => ?_)
 ·have hlt : k < n := by simp at ht; omega
  obtain ⟨k', hk'⟩ : ∃ k', k' = (k + 1) % n := ⟨_, rfl⟩
  have hkn : k' < n := by rw [hk']; exact Nat.mod_lt _ (by omega)
  have hkm : ((k : Int) + 1) % (n : Int) = (k' : Int) := by rw [hk']; push_cast; rfl
  have hs9 : (⟨#[97, 98, 99, 100, 101, 102, 103, 104, 105, 106, 107, 108, 109, 110, 111, 112]⟩ : ByteArray).size = 16 := rfl
  have hkt : ((k : Int) + 1).toNat = k + 1 := by omega
  have hnx : ((⟨#[97, 98, 99, 100, 101, 102, 103, 104, 105, 106, 107, 108, 109, 110, 111, 112]⟩ : ByteArray).extract k (k + 1)).size ≤ 3 := by rw [ByteArray.size_extract]; omega
  refine zaj (hK6 _ _ ?_)
  refine zaa fun K8 hK8 => ?_
  refine zaf ?_
  refine za5 zak hc mixed rfl (q := 2) (by kernel_rfl) (by kernel_rfl) fun K9 hK9 => ?_
  simp -dsimp -implicitDefEqProofs (disch := first | assumption | omega | (simp only [r_z, za7, zg4] <;> omega) | decide) only [r_r, ↓reduceIte, Nat.reduceEqDiff, Nat.reduceAdd, D.fix, Int.reduceToNat, Nat.reduceMul, Nat.reduceBNe, Nat.reduceBEq, zar, zbq, sD, nS, exR, zb1, exC, lgz, lgo, List.cons_append, List.nil_append, hkm, jlb]
  refine hK9 _ _ ?_
  refine zat hp (τ' := frL [(4, .op 0 0), (5, .op 1 0), (6, .d (iD n)), (7, .d (iD w)), (8, .d (iD k)), (9, .op 3 0), (10, .op 4 0)]) (H' := [lgz, lgo k, .cells (avs ((lgL n w k).flatMap prC)), .cells (avs (exC (.reg k))), .cells (avs (exC (.reg k')))]) ?_ ?_
  ·refine Rt.trans (Rt.fixc 3 6 rfl rfl) ?_
   refine Rt.trans (Rt.fixc 4 6 rfl rfl) ?_
   refine js9 [0,1,2,3,4] ?_
   refine jta ?_
   exact ybl
  refine szq hp (fun _ hZ => zuk hZ) ?_
  refine zat hp (τ' := frL [(4, .op 0 0), (5, .op 1 0), (6, .d (iD n)), (7, .d (iD w)), (8, .d (iD k)), (9, .op 3 0), (10, .op 4 0), (11, .op 5 0)]) (H' := [lgz, lgo k, .cells (avs ((lgL n w k).flatMap prC)), .cells (avs (exC (.reg k))), .cells (avs (exC (.reg k'))), .cells (avs (exC (.add (.reg k) (.reg k'))))]) ?_ ?_
  ·refine Rt.trans (Rt.fz (id := 5) (l := (exC (.reg k) ++ exC (.reg k'))) rfl) ?_
   refine js9 [0,1,2,3,4,6] ?_
   refine jta ?_
   exact ybl
  refine szq hp (fun _ hZ => zuk hZ) ?_
  refine zat hp (τ' := frL [(4, .op 0 0), (5, .op 1 0), (6, .d (iD n)), (7, .d (iD w)), (8, .d (iD k)), (9, .op 3 0), (10, .op 4 0), (11, .op 5 0), (12, .op 6 0)]) (H' := [lgz, lgo k, .cells (avs ((lgL n w k).flatMap prC)), .cells (avs (exC (.reg k))), .cells (avs (exC (.reg k'))), .cells (avs (exC (.add (.reg k) (.reg k')))), .cells (avs (exC (.lt (.add (.reg k) (.reg k')) (.reg k))))]) ?_ ?_
  ·refine Rt.trans (Rt.fz (id := 6) (l := (exC (.add (.reg k) (.reg k')) ++ exC (.reg k))) rfl) ?_
   refine js9 [0,1,2,3,4,5,7] ?_
   refine jta ?_
   exact ybl
  refine zs5 zak hc mixed rfl (q := 3) (by kernel_rfl) (by kernel_rfl) fun K12 hK12 => ?_
  simp -dsimp -implicitDefEqProofs (disch := first | assumption | omega | (simp only [r_z, za7, zg4] <;> omega) | decide) only [r_r, ↓reduceIte, Nat.reduceEqDiff, Nat.reduceAdd, D.fix, Int.reduceToNat, Nat.reduceMul, Nat.reduceBNe, Nat.reduceBEq, zar, zbq, sD, nS, exR, zb1, exC, lgz, lgo, List.cons_append, List.nil_append, hs9, Try.underlying9, hkt, v_r hnx, jlb]
  refine hK12 _ _ (hK8 _ _ ?_)
  refine za1 hp zak hc rfl fun K13 hK13 => ?_
  refine zuk ?_
  refine hK13 _ _ ⟨_, _, _, ?_, ⟨k + 1, by omega, rfl, rfl, rfl⟩, ?_⟩
  ·first | omega | (simp only [List.length_cons]; omega) | (dsimp only; omega)
  ·refine js9 [0,1,9] ?_
   refine jta ?_
   refine ygb ?_; rw [ydv]; simp [lgz, lgo, avs, sD, lgR, prC, lgX, hk', lgN, lgS, iD, exC, exR, nS]
 ·have hkk : k = n := by simp at ht; omega
  subst hkk
  refine zau (hK4 _ _ ?_)
  refine szq hp (fun _ hZ => zuk hZ) ?_
  refine zam ?_
  try dsimp only [zco, za8]
  refine zba rfl ?_
  simp -dsimp -implicitDefEqProofs (disch := first | assumption | omega | (simp only [r_z, za7, zg4] <;> omega) | decide) only [r_r, ↓reduceIte, Nat.reduceEqDiff, Nat.reduceAdd, D.fix, Int.reduceToNat, Nat.reduceMul, Nat.reduceBNe, Nat.reduceBEq, zar, zbq, sD, nS, exR, zb1, exC, lgz, lgo, List.cons_append, List.nil_append, zfs, zim]
  show closeA _ _ = _
  simp (disch := first | assumption | omega | (simp only [r_z, za7, zg4] <;> omega) | decide) only [r_c, Nat.reduceAdd, D.fix, ↓reduceIte, Nat.reduceEqDiff, zar, zbq, sD, nS, exR, zb1, exC, lgz, lgo, List.cons_append, List.nil_append]
  rw [jyx]
  simp [lgP, lgL, pmC, ptC, pqC]
end Go.Proofs.Ytapjobndmmkanaa
