/- netlist's builder: the firing bit. -/
import Derived.Test.YtapjobndmmkanaaQr
import Derived.Test.YtapjobndmmkanaaYn
import Derived.Test.YtapjobndmmkanaaYp
set_option linter.unusedVariables false
set_option linter.unusedSimpArgs false
set_option maxRecDepth 100000
set_option maxHeartbeats 4000000
namespace Go.Proofs.Ytapjobndmmkanaa
open Go Go.RowKit
theorem jhc : ((((type_of% @zge) ∧ ((type_of% @zgf) ∧ (type_of% @zew))) ∧ (((type_of% @zex) ∧ (type_of% @zgh)) ∧ ((type_of% @zme) ∧ (type_of% @zmf)))) ∧ (((type_of% @zmq) ∧ ((type_of% @zfa) ∧ (type_of% @zgs))) ∧ (((type_of% @zgt) ∧ (type_of% @zmp)) ∧ ((type_of% @zc2) ∧ (type_of% @zee))))) := ⟨⟨⟨@zge, ⟨@zgf, @zew⟩⟩, ⟨⟨@zex, @zgh⟩, ⟨@zme, @zmf⟩⟩⟩, ⟨⟨@zmq, ⟨@zfa, @zgs⟩⟩, ⟨⟨@zgt, @zmp⟩, ⟨@zc2, @zee⟩⟩⟩⟩
def wiN (ins : List Wire) (kind : Int) (j k : Nat) : Int := ((2 + zo8 ⟨kind, (j : Int), (k : Int)⟩ ins : Nat) : Int)
theorem jai {e : BE} {kind : Int} {j k : Nat} (h : (⟨kind, (j : Int), (k : Int)⟩ : Wire) ∈ e.ins) (gs : Gs) : NdB (mE2 e) gs (wiN e.ins kind j k) := by
 have := (zn0 h).1
 unfold wiN
 exact ⟨by omega, by unfold mE2; omega⟩
theorem jcf {p q r : Prop} (e : r) (hq : q) (h : r → p = q := by
 intro hY
 conv => lhs; simp -dsimp -implicitDefEqProofs (disch := first | assumption | omega | (simp only [r_z, zab, zac] <;> omega) | decide) only [r_r, ↓reduceIte, Nat.reduceEqDiff, Nat.reduceAdd, D.fix, Int.reduceToNat, Nat.reduceMul, Nat.reduceBNe, Nat.reduceBEq, r_w, r_m, bH, bO, zar, zav, bP, List.cons_append, List.nil_append, zov, ztn, jp0 ya0 hkey hm.ok, Option.getD_some, jhc, hY]) : p := (h e).mpr hq
theorem ybb {P : Program} {sm : List Nat} {N : Nat} {τ0 τ : Fr} {H : zae} {f : FuncId} {args : List AV} {K0 KK : AV → zae → Prop} {ks : List Nat} (S T : zae) (h : ScS P ks f args S K0) (hK : ∀ x S', K0 x S' → S'.length = S.length ∧ KK x (S' ++ T)) (hH : H = S ++ T := by
 rfl) (hN : S.length ≤ N := by
 exact Nat.le_of_ble_eq_true rfl) (hm : sm.all (okI ks S.length) = true := by
 first | rfl | (simp [AV.allIs, AV.allI, zaq, zah, zai, okI, ltI, zad, zax, bH, bO, bP]; done) | (intro o ho; simp at ho; done)) (hτ : ∀ t, (τ t).allI (okI ks S.length) = true := by
 exact fun t => zbi (by first | rfl | (simp [AV.allIs, AV.allI, zaq, zah, zai, okI, ltI, zad, zax, bH, bO, bP]; done) | (intro o ho; simp at ho; done)) t) (h0 : ∀ t, (τ0 t).allI (okI ks S.length) = true := by
 exact fun t => zbi (by first | rfl | (simp [AV.allIs, AV.allI, zaq, zah, zai, okI, ltI, zad, zax, bH, bO, bP]; done) | (intro o ho; simp at ho; done)) t) (ha : AV.allIs (ltI S.length) args = true := by
 first | rfl | (simp [AV.allIs, AV.allI, zaq, zah, zai, okI, ltI, zad, zax, bH, bO, bP]; done) | (intro o ho; simp at ho; done)) (hS : ∀ o ∈ S, o.allI (ltI S.length) = true := by
 first | rfl | (simp [AV.allIs, AV.allI, zaq, zah, zai, okI, ltI, zad, zax, bH, bO, bP]; done) | (intro o ho; simp at ho; done)) (hT : ∀ o ∈ T, o.allI (okI ks S.length) = true := by
 first | rfl | (simp [AV.allIs, AV.allI, zaq, zah, zai, okI, ltI, zad, zax, bH, bO, bP]; done) | (intro o ho; simp at ho; done)) : kE P sm N τ0 τ H (.d (.val (.func (.func f) #[] #[]))) args (tg KK) := zlu h hH hN hm hτ h0 ha hS hT hK
theorem jyn (k : List Nat) {m : List Nat} {τ τ1 : Fr} {H H1 : zae} (h : Rt m (fun t => gcV k (τ t)) (gcH k H) τ1 H1) (a : ∀ i ∈ m, k[i]? = some i := by decide) (b : k.Nodup := by decide) (c : ∀ i ∈ k, i < H.length := by
 simp [fzH, gcH]) : Rt m τ H τ1 H1 := Rt.trans (Rt.gc a b c) h
theorem js8 {m : List Nat} {τ τ' : Fr} {H H' : zae} (h2 : H = H') (h : zfq τ τ' := by
 repeat (first | exact zas _ | refine zao ?_ (by first | rfl | (simp [r_f, zab, zac]; done) | simp [r_f, zab, zac, *]))) : Rt m τ H τ' H' := Rt.end h h2
theorem yf1 {p : Prop} (h : p := by
 first | rfl | (simp only [r_g, Nat.reduceAdd, ↓reduceIte, Nat.reduceEqDiff, r_m, bH, bO, zar, zav, bP, List.cons_append, List.nil_append]; first | done | rfl)) : p := h
theorem ydq (e : BE) (gs : Gs) (μ : Mp) (u : Int) (j i : Nat) (x : Int) (h : BOk e gs μ) (hm : InM e.ins e.mi) (hw : (⟨2, (j : Int), (i : Int)⟩ : Wire) ∈ e.ins) (hu : NdB (mE2 e) gs u) (hj : j ≤ 1000) (hi : i ≤ 1000) : ScS Try.prog [0, 1, 3, 4, 5, 6, 7, 8, 9, 10] 120 [.d (iD i), .d (iD x), .op 8 0, .op 9 0, .op 10 0] (bH e gs μ ++ [bP, .cells [.d (iD u)], .cells [.d (iD j)]]) (jb7 e [bP, .cells [.d (iD u)], .cells [.d (iD j)]] (zda (mE2 e) gs u (wiN e.ins 2 j i))) := by
 refine zbh (fn := Try.f120) (by kernel_rfl) Try.func120 rfl (Nat.le_of_ble_eq_true rfl) fun c hc hp => ?_
 refine zls ?_
 unfold bH bP
 have hkey : zsa Try.prog tWm (wV ⟨2, (j : Int), (i : Int)⟩) := zty (a := 2) (b := (j : Int)) (c := (i : Int)) (zpp (by decide) (by decide)) (zpp (by omega) (by omega)) (zpp (by omega) (by omega))
 have hgm := hm.gt ⟨2, (j : Int), (i : Int)⟩
 rw [if_pos hw] at hgm
 have hcl := ziy e gs μ u (wiN e.ins 2 j i) h hu (jai hw gs)
 have hwi : wiN e.ins 2 j i = ((2 + zo8 ⟨2, (j : Int), (i : Int)⟩ e.ins : Nat) : Int) := rfl
 rw [← hwi] at hgm
 generalize wiN e.ins 2 j i = W at *
 refine zag hp zak hc rfl fun K1 hK1 => ?_
 simp -dsimp -implicitDefEqProofs (disch := first | assumption | omega | (simp only [r_z, zab, zac] <;> omega) | decide) only [r_r, ↓reduceIte, Nat.reduceEqDiff, Nat.reduceAdd, D.fix, Int.reduceToNat, Nat.reduceMul, Nat.reduceBNe, Nat.reduceBEq, r_m, bH, bO, zar, zav, bP, List.cons_append, List.nil_append]
 refine hK1 _ _ ?_
 refine za6 zak hp hc mixed rfl [(0, []), (1, []), (2, []), (3, []), (4, []), (5, []), (6, []), (7, []), (8, []), (9, []), (10, []), (11, [])] [[], [], [], [2], [2, 3], [2, 3, 4], [], [], [6, 7], [2, 3, 4, 5, 6, 7, 8], [0, 1, 2, 3, 4, 5, 6, 7, 8, 9], [0, 1, 2, 3, 4, 5, 6, 7, 8, 9, 10]] 0 (by kernel_rfl) fun K2 hK2 => ?_
 refine jcf hgm ?_
 refine ybb (bH e gs μ) ([bP, .cells [.d (iD u)], .cells [.d (iD j)]]) (hcl) ?_
 rintro _ _ ⟨μ1, hn1, rfl, rfl⟩
 refine ⟨rfl, ?_⟩
 refine jcf hgm ?_
 refine hK2 _ _ ?_
 refine zat hp (τ' := frL [(7, .d (iD (zda (mE2 e) gs u W).2))]) (H' := bH e (zda (mE2 e) gs u W).1 μ1 ++ [bP, .cells [.d (iD u)], .cells [.d (iD j)]]) ?_ ?_
 ·refine jyn [0,1,2,3,4,5,6,7,8,9,10] ?_
  refine js8 ?_
  exact yf1
 refine zam ?_
 refine zap (t := 7) rfl ?_
 show ∃ _, _
 exact ⟨μ1, hn1, rfl, rfl⟩
def jaj (m : Nat) (ins : List Wire) (gs : Gs) (u : Int) (j k : Nat) : Gs × List Int := zbs (fun gs i => zda m gs u (wiN ins 2 j i)) gs k
theorem jhd {m : Nat} {ins : List Wire} {gs : Gs} {u : Int} {j k : Nat} : jaj m ins gs u j (k + 1) = ((zda m (jaj m ins gs u j k).1 u (wiN ins 2 j k)).1, (jaj m ins gs u j k).2 ++ [(zda m (jaj m ins gs u j k).1 u (wiN ins 2 j k)).2]) := rfl
theorem jrh {e : BE} {gs : Gs} {u : Int} {j n k : Nat} (h : GI (mE2 e) gs) (hu : NdB (mE2 e) gs u) (hw : ∀ i, i < n → (⟨2, (j : Int), (i : Int)⟩ : Wire) ∈ e.ins) (hk : k ≤ n) : Bs (mE2 e) (1 * k) k gs (jaj (mE2 e) e.ins gs u j k) := zcv h fun i hi gs' hp hg => zgi zf2 hg (hu.pre hp) (jai (hw i (by omega)) _)
theorem jyo {p q : Prop} (hq : q) (h : p = q := by
 conv => lhs; simp -dsimp -implicitDefEqProofs (disch := first | assumption | omega | (simp only [r_z, zab, zac] <;> omega) | decide) only [r_r, ↓reduceIte, Nat.reduceEqDiff, Nat.reduceAdd, D.fix, Int.reduceToNat, Nat.reduceMul, Nat.reduceBNe, Nat.reduceBEq, r_m, bH, bO, zar, zav, zcr, List.cons_append, List.nil_append, bP]) : p := h.mpr hq
theorem jcg {p q : Prop} (hq : q) (h : p = q := by
 conv => lhs; simp -dsimp -implicitDefEqProofs (disch := first | assumption | omega | (simp only [r_z, zab, zac] <;> omega) | decide) only [r_r, ↓reduceIte, Nat.reduceEqDiff, Nat.reduceAdd, D.fix, Int.reduceToNat, Nat.reduceMul, Nat.reduceBNe, Nat.reduceBEq, r_m, bH, bO, zar, zav, zcr, List.cons_append, List.nil_append, bP, jhc]) : p := h.mpr hq
theorem yf2 {p q : Prop} (hq : q) (h : p = q := by
 conv => lhs; simp only [r_g, Nat.reduceAdd, ↓reduceIte, Nat.reduceEqDiff, r_m, bH, bO, zar, zav, zcr, List.cons_append, List.nil_append, bP]) : p := h.mpr hq
theorem jk9 (e : BE) (gs : Gs) (μ : Mp) (u : Int) (j n : Nat) (h : BOk e gs μ) (hm : InM e.ins e.mi) (hwi : ∀ i, i < n → (⟨2, (j : Int), (i : Int)⟩ : Wire) ∈ e.ins) (hu : NdB (mE2 e) gs u) (hj : j ≤ 1000) (hn60 : n ≤ 60) (hl : gs.length + n ≤ 99990) : ScS Try.prog [0, 1, 3, 4, 5, 6, 7, 8, 9, 10] 119 [.d (.fs (List.replicate n (iD 0)) n), .clo (.func 120) [] [.op 8 0, .op 9 0, .op 10 0]] (bH e gs μ ++ [bP, .cells [.d (iD u)], .cells [.d (iD j)]]) (jko e [bP, .cells [.d (iD u)], .cells [.d (iD j)]] (jaj (mE2 e) e.ins gs u j n)) := by
 refine zbh (fn := Try.f119) (by kernel_rfl) Try.func119 rfl (Nat.le_of_ble_eq_true rfl) fun c hc hp => ?_
 refine zc1 ?_
 unfold bH bP
 refine szq hp (fun _ hZ => jyo hZ) ?_
 refine szq hp (fun _ hZ => jcg hZ) ?_
 refine zaa fun K3 hK3 => ?_
 refine szq hp (fun _ hZ => jcg hZ) ?_
 refine zaf ?_
 refine zan hp (fun τ' H' mm => ∃ (k : Nat) (μ1 : Mp), (k ≤ n ∧ NdM (mE2 e) (jaj (mE2 e) e.ins gs u j k).1 μ1) ∧ mm = n - k ∧ H' = bH e (jaj (mE2 e) e.ins gs u j k).1 μ1 ++ [bP, .cells [.d (iD u)], .cells [.d (iD j)], zcr (jaj (mE2 e) e.ins gs u j k).2 n] ∧ τ' = frL [(1, .clo (.func 120) [] [.op 8 0, .op 9 0, .op 10 0]), (5, .os 1 11 0 n), (11, .d (.fs (List.replicate n (iD 0)) n)), (12, .d (iD n)), (13, .d (iD k))]) (n) ?_ ⟨0, μ, ⟨Nat.zero_le _, h.n⟩, rfl, rfl, rfl⟩ ?_
 ·refine js8 ?_
  refine yf2 ?_; simp [jaj, zbs, zcr, bH, bO, zar, iD, avs, bP]
 rintro τ' H' mm ⟨k, μ1, ⟨hk, hn1⟩, rfl, rfl, rfl⟩
 have hb := jrh h.g hu hwi hk
 have hsu := @jhd (mE2 e) e.ins gs u j k
 have hke : k = n → jaj (mE2 e) e.ins gs u j n = jaj (mE2 e) e.ins gs u j k := fun e => by rw [← e]
 generalize jaj (mE2 e) e.ins gs u j k = s at *
 have hw := hb.wid
 have hbl := hb.len
 have h1 : BOk e s.1 μ1 := ⟨hn1, hb.gi, h.i, by have := h.l; omega⟩
 refine szq hp (fun _ hZ => jcg hZ) ?_
 refine zaa fun K6 hK6 => ?_
 refine zal rfl (fun ht => ?_) (fun ht => ?_)
 ·have hlt : k < n := by simp at ht; omega
  have hrep : (List.replicate n (D.val (.int .i64 0)))[k]? = some (.val (.int .i64 0)) := by simp [hlt]
  have hst := zg1 hw hlt (zda (mE2 e) s.1 u (wiN e.ins 2 j k)).2
  refine zaj (hK6 _ _ ?_)
  refine zaa fun K7 hK7 => ?_
  refine zaf ?_
  refine zag hp zak hc rfl fun K8 hK8 => ?_
  simp -dsimp -implicitDefEqProofs (disch := first | assumption | omega | (simp only [r_z, zab, zac] <;> omega) | decide) only [r_r, ↓reduceIte, Nat.reduceEqDiff, Nat.reduceAdd, D.fix, Int.reduceToNat, Nat.reduceMul, Nat.reduceBNe, Nat.reduceBEq, r_m, bH, bO, zar, zav, zcr, List.cons_append, List.nil_append, bP, hrep, jhc]
  refine hK8 _ _ ?_
  refine za1 hp zak hc rfl fun K9 hK9 => ?_
  refine jcg ?_
  refine zol (S := bH e s.1 μ1 ++ [bP, .cells [.d (iD u)], .cells [.d (iD j)]]) (T := [zcr s.2 n]) (ydq e s.1 μ1 u j k _ h1 hm (hwi k hlt) (hu.pre hb.pre) hj (by omega)) rfl (by first | rfl | (simp [AV.allIs, AV.allI, zaq, zah, zai, okI, ltI, zad, zax, bH, bO, zcr, bP]; done) | (intro o ho; simp at ho; done)) (fun t => zbi (by first | rfl | (simp [AV.allIs, AV.allI, zaq, zah, zai, okI, ltI, zad, zax, bH, bO, zcr, bP]; done) | (intro o ho; simp at ho; done)) t) (by first | rfl | (simp [AV.allIs, AV.allI, zaq, zah, zai, okI, ltI, zad, zax, bH, bO, zcr, bP]; done) | (intro o ho; simp at ho; done)) (by first | rfl | (simp [AV.allIs, AV.allI, zaq, zah, zai, okI, ltI, zad, zax, bH, bO, zcr, bP]; done) | (intro o ho; simp at ho; done)) (by first | rfl | (simp [AV.allIs, AV.allI, zaq, zah, zai, okI, ltI, zad, zax, bH, bO, zcr, bP]; done) | (intro o ho; simp at ho; done)) ?_
  rintro _ _ ⟨μ2, hn2, rfl, rfl⟩
  refine ⟨rfl, ?_⟩
  refine jcg ?_
  refine hK9 _ _ (hK7 _ _ ?_)
  refine za1 hp zak hc rfl fun K10 hK10 => ?_
  refine jcg ?_
  refine hK10 _ _ ⟨_, _, _, ?_, ⟨k + 1, μ2, ⟨by omega, by rw [hsu]; exact hn2⟩, rfl, rfl, rfl⟩, ?_⟩
  ·first | omega | (simp only [List.length_cons]; omega) | (dsimp only; omega)
  ·refine jyn [0,1,2,3,4,5,6,7,8,9,10,11] ?_
   refine js8 ?_
   refine yf2 ?_; rw [hsu]; dsimp only; rw [← hst]; simp [bH, bO, zar, avs, iD, bP]
 ·have hkk : k = n := by simp at ht; omega
  have hz : s.2 ++ List.replicate (n - s.2.length) (0 : Int) = s.2 := by rw [hw, hkk, Nat.sub_self]; simp
  rw [hz]
  refine zau (hK3 _ _ ?_)
  refine szq hp (fun _ hZ => jyo hZ) ?_
  refine zat hp (τ' := frL [(4, .d (.fs (s.2.map iD) n))]) (H' := bH e s.1 μ1 ++ [bP, .cells [.d (iD u)], .cells [.d (iD j)]]) ?_ ?_
  ·refine Rt.trans (Rt.fz (id := 11) (l := (s.2.map iD)) rfl) ?_
   refine Rt.trans (Rt.slot 4 (zf9 (zbf (by simp [hw, hkk])))) ?_
   refine jyn [0,1,2,3,4,5,6,7,8,9,10] ?_
   refine js8 ?_
   first | rfl | (simp only [r_g, Nat.reduceAdd, ↓reduceIte, Nat.reduceEqDiff, r_m, bH, bO, zar, zav, zcr, List.cons_append, List.nil_append, bP]; first | done | rfl)
  refine zam ?_
  refine zap (t := 4) rfl ?_
  show ∃ _, _
  rw [hke hkk]; exact ⟨μ1, hn1, by show AV.d (.fs (s.2.map iD) n) = .d (.fs (s.2.map iD) s.2.length); rw [hw, hkk], rfl⟩
def zsb (m : Nat) (ins : List Wire) (kind : Int) (l : List Int) (s : Re) : Nat → Re
 | 0 => s
 | k + 1 => let r := zsb m ins kind l s k; jbw m r.1 r.2 (nth l k) (wiN ins kind k 0)
theorem jhe {e : BE} {kind : Int} {l : List Int} {gs : Gs} {f : Int} (h : GI (mE2 e) gs) (hf : NdB (mE2 e) gs f) (hl : NdL (mE2 e) gs l l.length) (hw : ∀ k, k < l.length → (⟨kind, (k : Int), ((0 : Nat) : Int)⟩ : Wire) ∈ e.ins) : ∀ k, k ≤ l.length → Rs (mE2 e) (3 * k) gs (zsb (mE2 e) e.ins kind l (gs, f) k)
 | 0, _ => Rs.same h hf
 | k + 1, hk => by
  have ih := jhe h hf hl hw k (by omega)
  exact (ih.trans (zv1 zf2 ih.gi ih.nd ((hl k (by omega)).pre ih.pre) (jai (hw k (by omega)) _))).mono (by omega)
def NeK (e : BE) (r : Re) (x : AV) (S' : zae) : Prop := ∃ μ, NdM (mE2 e) r.1 μ ∧ x = .tup [] ∧ S' = bH e r.1 μ ++ [bP, .cells [.d (iD r.2)]]
theorem jri {p q : Prop} (hq : q) (h : p = q := by
 conv => lhs; simp -dsimp -implicitDefEqProofs (disch := first | assumption | omega | (simp only [r_z, zab, zac] <;> omega) | decide) only [r_r, ↓reduceIte, Nat.reduceEqDiff, Nat.reduceAdd, D.fix, Int.reduceToNat, Nat.reduceMul, Nat.reduceBNe, Nat.reduceBEq, r_m, bH, bO, zar, zav, bP, List.cons_append, List.nil_append, jhc]) : p := h.mpr hq
theorem yf3 {p q : Prop} (hq : q) (h : p = q := by
 conv => lhs; simp only [r_g, Nat.reduceAdd, ↓reduceIte, Nat.reduceEqDiff, r_m, bH, bO, zar, zav, bP, List.cons_append, List.nil_append]) : p := h.mpr hq
theorem jhf (e : BE) (gs : Gs) (μ : Mp) (kind f : Int) (l : List Int) (h : BOk e gs μ) (hm : InM e.ins e.mi) (hk0 : 0 ≤ kind) (hk1 : kind ≤ 100) (hf : NdB (mE2 e) gs f) (hll : NdL (mE2 e) gs l l.length) (hlw : ∀ k, k < l.length → (⟨kind, (k : Int), ((0 : Nat) : Int)⟩ : Wire) ∈ e.ins) (hln : l.length ≤ 1000) (hl : gs.length + 3 * l.length ≤ 99990) : ScS Try.prog [0, 1, 3, 4, 5, 6, 7, 8, 9] 121 [.d (iD kind), .d (intsD l), .op 8 0, .op 9 0] (bH e gs μ ++ [bP, .cells [.d (iD f)]]) (NeK e (zsb (mE2 e) e.ins kind l (gs, f) l.length)) := by
 refine zbh (fn := Try.f121) (by kernel_rfl) Try.func121 rfl (Nat.le_of_ble_eq_true rfl) fun c hc hp => ?_
 refine zkf ?_
 refine zn1 hp ?_
 unfold bH bP
 refine szq hp (fun _ hZ => jri hZ) ?_
 refine zaf ?_
 refine zan hp (fun τ' H' mm => ∃ (k : Nat) (μ1 : Mp), (k ≤ l.length ∧ NdM (mE2 e) (zsb (mE2 e) e.ins kind l (gs, f) k).1 μ1) ∧ mm = l.length - k ∧ H' = bH e (zsb (mE2 e) e.ins kind l (gs, f) k).1 μ1 ++ [bP, .cells [.d (iD (zsb (mE2 e) e.ins kind l (gs, f) k).2)]] ∧ τ' = frL [(0, .d (iD kind)), (2, .op 8 0), (3, .op 9 0), (8, .d (intsD l)), (9, .d (iD l.length)), (10, .d (iD k))]) (l.length) ?_ ⟨0, μ, ⟨Nat.zero_le _, h.n⟩, rfl, rfl, rfl⟩ ?_
 ·refine js8 ?_
  refine yf3 ?_; rfl
 rintro τ' H' mm ⟨k, μ1, ⟨hk, hn1⟩, rfl, rfl, rfl⟩
 have hr := jhe h.g hf hll hlw k hk
 have hsu : zsb (mE2 e) e.ins kind l (gs, f) (k + 1) = jbw (mE2 e) (zsb (mE2 e) e.ins kind l (gs, f) k).1 (zsb (mE2 e) e.ins kind l (gs, f) k).2 (nth l k) (wiN e.ins kind k 0) := rfl
 have hke : k = l.length → zsb (mE2 e) e.ins kind l (gs, f) l.length = zsb (mE2 e) e.ins kind l (gs, f) k := fun e => by rw [← e]
 generalize zsb (mE2 e) e.ins kind l (gs, f) k = s at *
 have h1 := h.next hr hn1 (by omega)
 have hrl := hr.len
 refine szq hp (fun _ hZ => jri hZ) ?_
 refine zaa fun K3 hK3 => ?_
 refine zal rfl (fun ht => ?_) (fun ht => ?_)
 ·have hlt : k < l.length := by simp at ht; omega
  have hkey : zsa Try.prog tWm (wV ⟨kind, (k : Int), 0⟩) := zty (a := kind) (b := (k : Int)) (c := 0) (zpp (by omega) (by omega)) (zpp (by omega) (by omega)) (zpp (by decide) (by decide))
  have hgm := hm.gt ⟨kind, (k : Int), 0⟩
  rw [if_pos (show (⟨kind, (k : Int), 0⟩ : Wire) ∈ e.ins from hlw k hlt)] at hgm
  have hwn := jai (hlw k hlt) s.1
  have hwi : wiN e.ins kind k 0 = ((2 + zo8 ⟨kind, (k : Int), 0⟩ e.ins : Nat) : Int) := rfl
  rw [← hwi] at hgm
  generalize wiN e.ins kind k 0 = W at *
  obtain ⟨A, eA⟩ : ∃ A, A = zdk (mE2 e) s.1 (nth l k) := ⟨_, rfl⟩
  obtain ⟨O, eO⟩ : ∃ O, O = orB (mE2 e) A.1 A.2 W := ⟨_, rfl⟩
  have hsv : jbw (mE2 e) s.1 s.2 (nth l k) W = zda (mE2 e) O.1 s.2 O.2 := by rw [eO, eA]; rfl
  have c1 := zml e s.1 μ1 (nth l k) h1 ((hll k hlt).pre hr.pre)
  have r1 := zfu zf2 h1.g ((hll k hlt).pre hr.pre)
  rw [← eA] at c1 r1
  have l1 := r1.len
  refine zaj (hK3 _ _ ?_)
  refine zaa fun K4 hK4 => ?_
  refine zaf ?_
  refine zag hp zak hc rfl fun K5 hK5 => ?_
  simp -dsimp -implicitDefEqProofs (disch := first | assumption | omega | (simp only [r_z, zab, zac] <;> omega) | decide) only [r_r, ↓reduceIte, Nat.reduceEqDiff, Nat.reduceAdd, D.fix, Int.reduceToNat, Nat.reduceMul, Nat.reduceBNe, Nat.reduceBEq, r_m, bH, bO, zar, zav, bP, List.cons_append, List.nil_append, zbj, jhc]
  refine hK5 _ _ ?_
  refine zkz zak hp hc mixed rfl [(0, []), (1, []), (2, []), (3, []), (4, []), (6, []), (7, []), (8, []), (9, []), (10, []), (11, []), (12, []), (13, []), (5, [0, 1, 2, 6, 9, 13]), (14, [0, 1]), (15, []), (16, [])] [[], [], [], [], [], [3, 4], [], [6], [6, 7], [6, 7, 8], [], [], [10, 11], [6, 7, 8, 9, 10, 11, 12], [2, 3, 4, 5, 6, 7, 8, 9, 10, 11, 12, 13], [0, 1, 2, 3, 4, 5, 6, 7, 8, 9, 10, 11, 12, 13, 14], [0, 1, 2, 3, 4, 5, 6, 7, 8, 9, 10, 11, 12, 13, 14, 15]] 0 (by kernel_rfl) fun K6 hK6 => ?_
  refine jcf hgm ?_
  refine ybb (bH e s.1 μ1) ([bP, .cells [.d (iD s.2)]]) (c1) ?_
  rintro _ _ ⟨μ2, hn2, rfl, rfl⟩
  refine ⟨rfl, ?_⟩
  have h2 := h1.next r1 hn2 (by omega)
  have c2 := jgx e A.1 μ2 A.2 W h2 r1.nd (hwn.pre r1.pre)
  have r2 := zvz zf2 h2.g r1.nd (hwn.pre r1.pre)
  rw [← eO] at c2 r2
  have l2 := r2.len
  refine jcf hgm ?_
  refine ybb (bH e A.1 μ2) ([bP, .cells [.d (iD s.2)]]) (c2) ?_
  rintro _ _ ⟨μ3, hn3, rfl, rfl⟩
  refine ⟨rfl, ?_⟩
  have h3 := h2.next r2 hn3 (by omega)
  refine jcf hgm ?_
  refine ybb (bH e O.1 μ3) ([bP, .cells [.d (iD s.2)]]) (ziy e O.1 μ3 s.2 O.2 h3 (hr.nd.pre (r1.pre.trans r2.pre)) r2.nd) ?_
  rintro _ _ ⟨μ4, hn4, rfl, rfl⟩
  refine ⟨rfl, ?_⟩
  refine jcf hgm ?_
  refine hK6 _ _ (hK4 _ _ ?_)
  refine za1 hp zak hc rfl fun K7 hK7 => ?_
  refine jri ?_
  refine hK7 _ _ ⟨_, _, _, ?_, ⟨k + 1, μ4, ⟨by omega, by rw [hsu, hsv]; exact hn4⟩, rfl, rfl, rfl⟩, ?_⟩
  ·first | omega | (simp only [List.length_cons]; omega) | (dsimp only; omega)
  ·refine jyn [0,1,2,3,4,5,6,7,8,9] ?_
   refine js8 ?_
   refine yf3 ?_; rw [hsu, hsv]; rfl
 ·have hkk : k = l.length := by simp at ht; omega
  refine zau ?_
  try dsimp only [zco, za8]
  refine ⟨frL [], bH e s.1 μ1 ++ [bP, .cells [.d (iD s.2)]], ?_, ?_⟩
  ·refine jyn [0,1,2,3,4,5,6,7,8,9] ?_
   refine Rt.end (zas _) ?_
   exact yf1
  refine zle rfl ?_
  show ∃ _, _
  rw [hke hkk]; exact ⟨μ1, hn1, rfl, rfl⟩
end Go.Proofs.Ytapjobndmmkanaa
