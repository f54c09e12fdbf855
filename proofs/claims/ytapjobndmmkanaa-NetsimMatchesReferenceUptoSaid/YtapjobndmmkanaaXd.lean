/- The reference's effects and steps. -/
import Derived.Test.YtapjobndmmkanaaQr
import Derived.Test.YtapjobndmmkanaaXc
set_option linter.unusedVariables false
set_option linter.unusedSimpArgs false
set_option maxRecDepth 100000
set_option maxHeartbeats 4000000
namespace Go.Proofs.Ytapjobndmmkanaa
open Go Go.RowKit
theorem jpj : ((((((type_of% @zhw) ∧ ((type_of% @zjb) ∧ (type_of% @zum))) ∧ ((type_of% @zun) ∧ ((type_of% @zoy) ∧ (type_of% @zsl)))) ∧ (((type_of% @jbc) ∧ ((type_of% @jt3) ∧ (type_of% @jt4))) ∧ (((type_of% @zfa) ∧ (type_of% @zdc)) ∧ ((type_of% @zdd) ∧ (type_of% @zdh))))) ∧ ((((type_of% @zfo) ∧ ((type_of% @zev) ∧ (type_of% @zew))) ∧ (((type_of% @zli) ∧ (type_of% @zsh)) ∧ ((type_of% @zkr) ∧ (type_of% @zks)))) ∧ (((type_of% @zgy) ∧ ((type_of% @zjd) ∧ (type_of% @zdu))) ∧ (((type_of% @zdv) ∧ (type_of% @zmr)) ∧ ((type_of% @zjc) ∧ (type_of% @zhv)))))) ∧ (((((type_of% @zgo) ∧ ((type_of% @zht) ∧ (type_of% @zhu))) ∧ ((type_of% @zkq) ∧ ((type_of% @zul) ∧ (type_of% @zsj)))) ∧ (((type_of% @zlj) ∧ ((type_of% @ji0) ∧ (type_of% @zso))) ∧ (((type_of% @zsq) ∧ (type_of% @jbd)) ∧ ((type_of% @jbe) ∧ (type_of% @jiz))))) ∧ ((((type_of% @jiy) ∧ ((type_of% @zlk) ∧ (type_of% @zmn))) ∧ (((type_of% @zmo) ∧ (type_of% @zpo)) ∧ ((type_of% @jiq) ∧ (type_of% @jir)))) ∧ (((type_of% @jis) ∧ ((type_of% @zh8) ∧ (type_of% @zh9))) ∧ (((type_of% @jix) ∧ (type_of% @zsi)) ∧ ((type_of% @zsk) ∧ (type_of% @jiw))))))) := ⟨⟨⟨⟨⟨@zhw, ⟨@zjb, @zum⟩⟩, ⟨@zun, ⟨@zoy, @zsl⟩⟩⟩, ⟨⟨@jbc, ⟨@jt3, @jt4⟩⟩, ⟨⟨@zfa, @zdc⟩, ⟨@zdd, @zdh⟩⟩⟩⟩, ⟨⟨⟨@zfo, ⟨@zev, @zew⟩⟩, ⟨⟨@zli, @zsh⟩, ⟨@zkr, @zks⟩⟩⟩, ⟨⟨@zgy, ⟨@zjd, @zdu⟩⟩, ⟨⟨@zdv, @zmr⟩, ⟨@zjc, @zhv⟩⟩⟩⟩⟩, ⟨⟨⟨⟨@zgo, ⟨@zht, @zhu⟩⟩, ⟨@zkq, ⟨@zul, @zsj⟩⟩⟩, ⟨⟨@zlj, ⟨@ji0, @zso⟩⟩, ⟨⟨@zsq, @jbd⟩, ⟨@jbe, @jiz⟩⟩⟩⟩, ⟨⟨⟨@jiy, ⟨@zlk, @zmn⟩⟩, ⟨⟨@zmo, @zpo⟩, ⟨@jiq, @jir⟩⟩⟩, ⟨⟨@jis, ⟨@zh8, @zh9⟩⟩, ⟨⟨@jix, @zsi⟩, ⟨@zsk, @jiw⟩⟩⟩⟩⟩⟩
theorem jvr {n : Net} {v : List Bool} {i : Nat} {l : List Int} (hw : ∀ w ∈ n.out, WireOut w) : ∃ a : Nat, zc9 n.out v 9 i n.out.length = a ∧ a < 256 :=
 jfo (out := n.out) (v := v) (kind := 9) (i := i) (fun k hk => ⟨(hw _ (zb0 hk)).b0, (hw _ (zb0 hk)).b7⟩) (Nat.le_refl _)
def efV (v : List Bool) (e0 e1 : Int) : List D := [boolsD v, iD e0, iD e1]
theorem zd9 {p q : Prop} (hq : q) (h : p = q := by
 conv => lhs; simp -dsimp -implicitDefEqProofs (disch := first | assumption | omega | (simp only [r_z, zab, zae, zap, zbc, zbd, zbe, zbf] <;> omega) | decide) only [r_r, ↓reduceIte, Nat.reduceEqDiff, Nat.reduceAdd, D.fix, Int.reduceToNat, Nat.reduceMul, Nat.reduceBNe, Nat.reduceBEq, zby, zb1, zao, zaj, zcg, efV, za7, zcv, iD, oD, zgh, jpj]) : p := h.mpr hq
theorem jjw {p q : Prop} (hq : q) (h : p = q := by
 conv => lhs; simp -dsimp -implicitDefEqProofs (disch := first | assumption | omega | (simp only [r_z, zab, zae, zap, zbc, zbd, zbe, zbf] <;> omega) | decide) only [r_r, ↓reduceIte, Nat.reduceEqDiff, Nat.reduceAdd, D.fix, Int.reduceToNat, Nat.reduceMul, Nat.reduceBNe, Nat.reduceBEq, zby, zb1, zao, zaj, zcg, efV, za7, zcv, iD, oD, zgh]) : p := h.mpr hq
theorem jbs (k : List Nat) {m : List Nat} {τ τ1 : Fr} {H H1 : zad} (h : Rt m (fun t => gcV k (τ t)) (gcH k H) τ1 H1) (a : ∀ i ∈ m, k[i]? = some i := by decide) (b : k.Nodup := by decide) (c : ∀ i ∈ k, i < H.length := by
 simp [fzH, gcH]) : Rt m τ H τ1 H1 := Rt.trans (Rt.gc a b c) h
theorem jbt {m : List Nat} {τ τ' : Fr} {H H' : zad} (h2 : H = H') (h : zgu τ τ' := by
 repeat (first | exact zar _ | refine zam ?_ (by first | rfl | (simp [r_f, zab, zae, zap, zbc, zbd, zbe, zbf]; done) | simp [r_f, zab, zae, zap, zbc, zbd, zbe, zbf, *]))) : Rt m τ H τ' H' := Rt.end h h2
theorem jjx {p : Prop} (h : p := by
 first | rfl | (simp only [r_g, Nat.reduceAdd, ↓reduceIte, Nat.reduceEqDiff, zby, zb1, zao, zaj, zcg, efV, za7, zcv, iD, oD, zgh]; first | done | rfl)) : p := h
theorem jyg {p q : Prop} (hq : q) (h : p = q := by
 conv => lhs; simp only [r_g, Nat.reduceAdd, ↓reduceIte, Nat.reduceEqDiff, zby, zb1, zao, zaj, zcg, efV, za7, zcv, iD, oD, zgh]) : p := h.mpr hq
theorem zu4 (n : Net) (s : PSt) (v : List Bool) (e0 e1 : Int) (ho : n.out.length ≤ 1000000) (hv : n.out.length ≤ v.length) (hw : ∀ w ∈ n.out, WireOut w) (h1 : s.regs.length ≤ 1000000) (h2 : s.mems.length ≤ 1000000) (h3 : ∀ l ∈ s.mems, l.length ≤ 1000000) (h4 : e0 ≤ 1000000) (h5 : e1 ≤ 1000000) (h6 : -1000000 ≤ e0) (h7 : -1000000 ≤ e1) : zaz Try.prog 21 [zby n, .agg (zcg s), .agg (efV v e0 e1)] (.d (.agg (zgv (efF n.out s v e0.toNat e1.toNat)))) := by
 have hset := fun (kind i : Int) => jvn n v kind i ho hv
 have hwrd := fun (kind i : Int) => jpc n v kind i ho hv hw
 refine zaw (fn := Try.f21) (by kernel_rfl) Try.func21 rfl (Nat.le_of_ble_eq_true rfl) fun c hc hp => ?_
 refine za0 (τ' := frL [(0, .d (zby n)), (1, .d (.agg (zcg s))), (2, .d (.agg (efV v e0 e1)))]) (by repeat (first | exact zar _ | refine zam ?_ (by first | rfl | (simp [r_f, zab, zae, zap, zbc, zbd, zbe, zbf]; done) | simp [r_f, zab, zae, zap, zbc, zbd, zbe, zbf, *]))) ?_
 refine szq hp (fun _ hZ => zd9 hZ) ?_
 refine szq hp (fun _ hZ => zd9 hZ) ?_
 refine zaa fun K3 hK3 => ?_
 refine szq hp (fun _ hZ => jjw hZ) ?_
 refine zac ?_
 refine zan hp (fun τ' H' mm => ∃ (i : Nat), (i ≤ s.regs.length) ∧ mm = s.regs.length - i ∧ H' = [.cells (avs (zb1 n)), .cells (avs (zcg s)), .cells (avs (efV v e0 e1)), zgh, .cells [.d (oD false), .os 1 5 0 i, .d (.val (.slice none 0 0)), .d (.val (.slice none 0 0)), .d (.val (.slice none 0 0))], .cells (avs ((zg3 n.out v i).map iD))] ∧ τ' = frL [(3, .op 0 0), (4, .op 1 0), (5, .op 2 0), (6, .op 3 0), (7, .op 4 0), (8, .d (iD i))]) (s.regs.length) ?_ ⟨0, Nat.zero_le _, rfl, rfl, rfl⟩ ?_
 ·refine Rt.trans (Rt.nilc 4 1 1 rfl rfl) ?_
  refine jbs [0,1,2,3,4,5] ?_
  refine jbt ?_
  exact jjx
 rintro τ' H' mm ⟨i, hi, rfl, rfl, rfl⟩
 refine zaa fun K5 hK5 => ?_
 refine szq hp (fun _ hZ => zd9 hZ) ?_
 refine zah rfl (fun ht => ?_) (fun ht => ?_)
 ·have hlt : i < s.regs.length := by simp at ht; omega
  refine zaf (hK5 _ _ ?_)
  refine zaa fun K7 hK7 => ?_
  refine zac ?_
  refine zfj zai hc za8 rfl (q := 2) (by kernel_rfl) (by kernel_rfl) fun K8 hK8 => ?_
  refine zd9 ?_
  refine za1 (hwrd 1 i) rfl ?_
  refine zd9 ?_
  refine hK8 _ _ (hK7 _ _ ?_)
  refine za5 hp zai hc rfl fun K9 hK9 => ?_
  refine zd9 ?_
  refine hK9 _ _ ⟨_, _, _, ?_, ⟨i + 1, by omega, rfl, rfl, rfl⟩, ?_⟩
  ·first | omega | (simp only [List.length_cons]; omega) | (dsimp only; omega)
  ·refine jbs [0,1,2,3,4,7] ?_
   refine jbt ?_
   refine jyg ?_; rw [zrd]; simp [iD, zb1, zcg, efV, avs, zao, zaj, oD]
 ·have hii : i = s.regs.length := by simp at ht; omega
  subst hii
  refine zau (hK3 _ _ ?_)
  refine zaa fun K10 hK10 => ?_
  refine szq hp (fun _ hZ => jjw hZ) ?_
  refine zac ?_
  refine zan hp (fun τ' H' mm => ∃ (i : Nat), (i ≤ s.mems.length) ∧ mm = s.mems.length - i ∧ H' = [.cells (avs (zb1 n)), .cells (avs (zcg s)), .cells (avs (efV v e0 e1)), zgh, .cells [.d (oD false), .os 1 5 0 s.regs.length, .os 1 6 0 i, .d (.val (.slice none 0 0)), .d (.val (.slice none 0 0))], .cells (avs ((zg3 n.out v s.regs.length).map iD)), .cells (avs ((zhe n.out v s.mems i).map intsD))] ∧ τ' = frL [(3, .op 0 0), (4, .op 1 0), (5, .op 2 0), (6, .op 3 0), (7, .op 4 0), (9, .d (iD i))]) (s.mems.length) ?_ ⟨0, Nat.zero_le _, rfl, rfl, rfl⟩ ?_
  ·refine Rt.trans (Rt.nilc 4 2 1 rfl rfl) ?_
   refine jbs [0,1,2,3,4,5,6] ?_
   refine jbt ?_
   exact jjx
  rintro τ' H' mm ⟨i, hi2, rfl, rfl, rfl⟩
  refine zaa fun K12 hK12 => ?_
  refine szq hp (fun _ hZ => zd9 hZ) ?_
  refine zah rfl (fun ht => ?_) (fun ht => ?_)
  ·have hlt : i < s.mems.length := by simp at ht; omega
   have hml : (nth s.mems i).length ≤ 1000000 := h3 _ (zb0 hlt)
   obtain ⟨at9, ha9, hb9⟩ := jvr (n := n) (v := v) (i := i) (l := nth s.mems i) hw
   have hw9 := hwrd 9 i
   rw [ha9] at hw9
   refine zaf (hK12 _ _ ?_)
   refine zaa fun K14 hK14 => ?_
   refine zac ?_
   refine zag hp zai hc rfl fun K15 hK15 => ?_
   simp -dsimp -implicitDefEqProofs (disch := first | assumption | omega | (simp only [r_z, zab, zae, zap, zbc, zbd, zbe, zbf] <;> omega) | decide) only [r_r, ↓reduceIte, Nat.reduceEqDiff, Nat.reduceAdd, D.fix, Int.reduceToNat, Nat.reduceMul, Nat.reduceBNe, Nat.reduceBEq, zby, zb1, zao, zaj, zcg, efV, za7, zcv, iD, oD, zgh, zay, jpj]
   refine hK15 _ _ ?_
   refine zag hp zai hc rfl fun K16 hK16 => ?_
   refine zd9 ?_
   refine za1 (hw9) rfl ?_
   refine zd9 ?_
   refine hK16 _ _ ?_
   refine zaa fun K17 hK17 => ?_
   have hJ17 : ∀ τ' H', (∃ τ1 H1, ∃ (ml : List Int), (ml = zta n.out v i (nth s.mems i)) ∧ H1 = [.cells (avs (zb1 n)), .cells (avs (zcg s)), .cells (avs (efV v e0 e1)), zgh, .cells [.d (oD false), .os 1 5 0 s.regs.length, .os 1 6 0 i, .d (.val (.slice none 0 0)), .d (.val (.slice none 0 0))], .cells (avs ((zg3 n.out v s.regs.length).map iD)), .cells (avs ((zhe n.out v s.mems i).map intsD))] ∧ τ1 = frL [(3, .op 0 0), (4, .op 1 0), (5, .op 2 0), (6, .op 3 0), (7, .op 4 0), (9, .d (iD i)), (10, .d (intsD ml))] ∧ Rt [] τ' H' τ1 H1) → K17 τ' H' := by
    rintro τ' H' ⟨_, _, ml, hml2, rfl, rfl, hrt⟩
    refine hK17 _ _ (zbg hp hrt ?_)
    clear hrt
    refine szs hp (fun _ hZ => zd9 hZ) (hK14 _ _ ?_)
    refine za5 hp zai hc rfl fun K19 hK19 => ?_
    refine zd9 ?_
    refine hK19 _ _ ⟨_, _, _, ?_, ⟨i + 1, by omega, rfl, rfl, rfl⟩, ?_⟩
    ·first | omega | (simp only [List.length_cons]; omega) | (dsimp only; omega)
    ·refine jbs [0,1,2,3,4,5,8] ?_
     refine jbt ?_
     refine jyg ?_; rw [zre, ← hml2]; simp [iD, intsD, zb1, zcg, efV, avs, zao, zaj, oD]
   refine zag hp zai hc rfl fun K20 hK20 => ?_
   rcases tf (zj5 n.out v 8 i n.out.length) with e8 | e8
   ·have hs8 := hset 8 i
    rw [e8] at hs8
    refine zd9 ?_
    refine za1 (hs8) rfl ?_
    refine zd9 ?_
    refine hK20 _ _ ?_
    refine zah rfl (fun ht => ?_) (fun ht => ?_)
    ·have hlt9 : at9 < (nth s.mems i).length := by simpa using ht
     have hmf : zta n.out v i (nth s.mems i) = (nth s.mems i).set at9 (zc9 n.out v 10 i n.out.length) := by unfold zta; rw [ha9, e8, if_pos (by simp; omega)]; simp
     refine za5 hp zai hc rfl fun K21 hK21 => ?_
     refine zd9 ?_
     refine za1 (hwrd 10 i) rfl ?_
     refine zd9 ?_
     refine hK21 _ _ (hJ17 _ _ ⟨_, _, _, hmf.symm, rfl, rfl, ?_⟩)
     refine Rt.trans (Rt.fz (id := 8) rfl) ?_
     refine Rt.trans (Rt.slot 10 (zee (za2 (by simp [r_z, zab, zae, zap, zbc, zbd, zbe, zbf])))) ?_
     refine jbs [0,1,2,3,4,5,6] ?_
     refine jbt ?_
     exact jjx
    ·have hmf : zta n.out v i (nth s.mems i) = nth s.mems i := by unfold zta; rw [ha9, e8, if_neg (by simpa using ht)]
     refine zaf (hJ17 _ _ ⟨_, _, _, hmf.symm, rfl, rfl, ?_⟩)
     refine Rt.trans (Rt.fz (id := 8) rfl) ?_
     refine Rt.trans (Rt.slot 10 (zee (za2 (by simp [r_z, zab, zae, zap, zbc, zbd, zbe, zbf])))) ?_
     refine jbs [0,1,2,3,4,5,6] ?_
     refine jbt ?_
     exact jjx
   ·have hs8 := hset 8 i
    rw [e8] at hs8
    refine zd9 ?_
    refine za1 (hs8) rfl ?_
    refine zd9 ?_
    refine hK20 _ _ ?_
    refine szf ?_
    have hmf : zta n.out v i (nth s.mems i) = nth s.mems i := by unfold zta; rw [e8, if_neg (by simp)]
    refine zaf (hJ17 _ _ ⟨_, _, _, hmf.symm, rfl, rfl, ?_⟩)
    refine Rt.trans (Rt.fz (id := 8) rfl) ?_
    refine Rt.trans (Rt.slot 10 (zee (za2 (by simp [r_z, zab, zae, zap, zbc, zbd, zbe, zbf])))) ?_
    refine jbs [0,1,2,3,4,5,6] ?_
    refine jbt ?_
    exact jjx
  ·have hii : i = s.mems.length := by simp at ht; omega
   subst hii
   refine zau (hK10 _ _ ?_)
   refine zaa fun K22 hK22 => ?_
   refine szq hp (fun _ hZ => jjw hZ) ?_
   refine zac ?_
   refine zan hp (fun τ' H' mm => ∃ (i : Nat), (i ≤ e0.toNat) ∧ mm = e0.toNat - i ∧ H' = [.cells (avs (zb1 n)), .cells (avs (zcg s)), .cells (avs (efV v e0 e1)), zgh, .cells [.d (oD false), .os 1 5 0 s.regs.length, .os 1 6 0 s.mems.length, .os 1 7 0 i, .d (.val (.slice none 0 0))], .cells (avs ((zg3 n.out v s.regs.length).map iD)), .cells (avs ((zhe n.out v s.mems s.mems.length).map intsD)), .cells (avs ((zmz n.out v i).map oD))] ∧ τ' = frL [(3, .op 0 0), (4, .op 1 0), (5, .op 2 0), (6, .op 3 0), (7, .op 4 0), (12, .d (iD i))]) (e0.toNat) ?_ ⟨0, Nat.zero_le _, rfl, rfl, rfl⟩ ?_
   ·refine Rt.trans (Rt.nilc 4 3 1 rfl rfl) ?_
    refine jbs [0,1,2,3,4,5,6,7] ?_
    refine jbt ?_
    exact jjx
   rintro τ' H' mm ⟨i, hi3, rfl, rfl, rfl⟩
   refine zaa fun K24 hK24 => ?_
   refine szq hp (fun _ hZ => zd9 hZ) ?_
   refine zah rfl (fun ht => ?_) (fun ht => ?_)
   ·have hlt : i < e0.toNat := by simp at ht; omega
    refine zaf (hK24 _ _ ?_)
    refine zaa fun K26 hK26 => ?_
    refine zac ?_
    refine zfj zai hc za8 rfl (q := 2) (by kernel_rfl) (by kernel_rfl) fun K27 hK27 => ?_
    refine zd9 ?_
    refine za1 (hset 5 i) rfl ?_
    refine zd9 ?_
    refine hK27 _ _ (hK26 _ _ ?_)
    refine za5 hp zai hc rfl fun K28 hK28 => ?_
    refine zd9 ?_
    refine hK28 _ _ ⟨_, _, _, ?_, ⟨i + 1, by omega, rfl, rfl, rfl⟩, ?_⟩
    ·first | omega | (simp only [List.length_cons]; omega) | (dsimp only; omega)
    ·refine jbs [0,1,2,3,4,5,6,9] ?_
     refine jbt ?_
     refine jyg ?_; rw [zrf]; simp [iD, intsD, zb1, zcg, efV, avs, zao, zaj, oD]
   ·have hii : i = e0.toNat := by simp at ht; omega
    subst hii
    refine zau (hK22 _ _ ?_)
    refine zaa fun K29 hK29 => ?_
    refine szq hp (fun _ hZ => jjw hZ) ?_
    refine zac ?_
    refine zan hp (fun τ' H' mm => ∃ (i : Nat), (i ≤ e1.toNat) ∧ mm = e1.toNat - i ∧ H' = [.cells (avs (zb1 n)), .cells (avs (zcg s)), .cells (avs (efV v e0 e1)), zgh, .cells [.d (oD false), .os 1 5 0 s.regs.length, .os 1 6 0 s.mems.length, .os 1 7 0 e0.toNat, .os 2 8 0 i], .cells (avs ((zg3 n.out v s.regs.length).map iD)), .cells (avs ((zhe n.out v s.mems s.mems.length).map intsD)), .cells (avs ((zmz n.out v e0.toNat).map oD)), .cells (avs ((zp1 n.out v i).flatMap zcv))] ∧ τ' = frL [(3, .op 0 0), (4, .op 1 0), (5, .op 2 0), (6, .op 3 0), (7, .op 4 0), (13, .d (iD i))]) (e1.toNat) ?_ ⟨0, Nat.zero_le _, rfl, rfl, rfl⟩ ?_
    ·refine Rt.trans (Rt.nilc 4 4 2 rfl rfl) ?_
     refine jbs [0,1,2,3,4,5,6,7,8] ?_
     refine jbt ?_
     exact jjx
    rintro τ' H' mm ⟨i, hi4, rfl, rfl, rfl⟩
    refine zaa fun K31 hK31 => ?_
    refine szq hp (fun _ hZ => zd9 hZ) ?_
    refine zah rfl (fun ht => ?_) (fun ht => ?_)
    ·have hlt : i < e1.toNat := by simp at ht; omega
     refine zaf (hK31 _ _ ?_)
     refine zaa fun K33 hK33 => ?_
     refine zac ?_
     refine szq hp (fun _ hZ => zd9 hZ) ?_
     refine zaa fun K35 hK35 => ?_
     have hJ35 : ∀ τ' H', (∃ τ1 H1, ∃ (h : Head), (h = jfp n.out v i) ∧ H1 = [.cells (avs (zb1 n)), .cells (avs (zcg s)), .cells (avs (efV v e0 e1)), zgh, .cells [.d (oD false), .os 1 5 0 s.regs.length, .os 1 6 0 s.mems.length, .os 1 7 0 e0.toNat, .os 2 8 0 i], .cells (avs ((zg3 n.out v s.regs.length).map iD)), .cells (avs ((zhe n.out v s.mems s.mems.length).map intsD)), .cells (avs ((zmz n.out v e0.toNat).map oD)), .cells (avs ((zp1 n.out v i).flatMap zcv)), .cells (avs (zcv h))] ∧ τ1 = frL [(3, .op 0 0), (4, .op 1 0), (5, .op 2 0), (6, .op 3 0), (7, .op 4 0), (13, .d (iD i)), (14, .op 9 0)] ∧ Rt [] τ' H' τ1 H1) → K35 τ' H' := by
      rintro τ' H' ⟨_, _, h, hh, rfl, rfl, hrt⟩
      refine hK35 _ _ (zbg hp hrt ?_)
      clear hrt
      refine szs hp (fun _ hZ => zd9 hZ) (hK33 _ _ ?_)
      refine za5 hp zai hc rfl fun K37 hK37 => ?_
      refine zd9 ?_
      refine hK37 _ _ ⟨_, _, _, ?_, ⟨i + 1, by omega, rfl, rfl, rfl⟩, ?_⟩
      ·first | omega | (simp only [List.length_cons]; omega) | (dsimp only; omega)
      ·refine jbs [0,1,2,3,4,5,6,7,11] ?_
       refine jbt ?_
       refine jyg ?_; rw [zlt, ← hh]; simp [zcv, iD, intsD, zb1, zcg, efV, avs, zao, zaj, oD]
     refine zag hp zai hc rfl fun K38 hK38 => ?_
     refine zd9 ?_
     refine za1 (hset 6 i) rfl ?_
     refine zd9 ?_
     refine hK38 _ _ ?_
     refine zah rfl (fun ht => ?_) (fun ht => ?_)
     ·have hpf : jfp n.out v i = ⟨true, zc9 n.out v 7 i n.out.length⟩ := by unfold jfp; rw [if_pos ht]
      refine za5 hp zai hc rfl fun K39 hK39 => ?_
      refine zd9 ?_
      refine za1 (hwrd 7 i) rfl ?_
      refine zd9 ?_
      refine hK39 _ _ (hJ35 _ _ ⟨_, _, _, hpf.symm, rfl, rfl, ?_⟩)
      refine jbs [0,1,2,3,4,5,6,7,8,9] ?_
      refine jbt ?_
      exact jjx
     ·have hpf : jfp n.out v i = ⟨false, 0⟩ := by unfold jfp; rw [if_neg (by rw [ht]; simp)]
      refine zaf (hJ35 _ _ ⟨_, _, _, hpf.symm, rfl, rfl, ?_⟩)
      refine jbs [0,1,2,3,4,5,6,7,8,9] ?_
      refine jbt ?_
      exact jjx
    ·have hii : i = e1.toNat := by simp at ht; omega
     subst hii
     refine zau (hK29 _ _ ?_)
     refine szq hp (fun _ hZ => zd9 hZ) ?_
     refine zal ?_
     try dsimp only [zbm, zaq]
     refine zak rfl ?_
     simp -dsimp -implicitDefEqProofs (disch := first | assumption | omega | (simp only [r_z, zab, zae, zap, zbc, zbd, zbe, zbf] <;> omega) | decide) only [r_r, ↓reduceIte, Nat.reduceEqDiff, Nat.reduceAdd, D.fix, Int.reduceToNat, Nat.reduceMul, Nat.reduceBNe, Nat.reduceBEq, zby, zb1, zao, zaj, zcg, efV, za7, zcv, iD, oD, zgh, zoy, zsl]
     show closeA _ _ = _
     simp (disch := first | assumption | omega | (simp only [r_z, zab, zae, zap, zbc, zbd, zbe, zbf] <;> omega) | decide) only [r_c, Nat.reduceAdd, D.fix, ↓reduceIte, Nat.reduceEqDiff, zby, zb1, zao, zaj, zcg, efV, za7, zcv, iD, oD, zgh, zz3, zr1, zgv, efF]
     simp [zgv, efF, intsD, intssD, boolsD, za7, zbc, zbd, zbe, zbf, oD]
theorem zwl {p q : Prop} (hq : q) (h : p = q := by
 conv => lhs; simp -dsimp -implicitDefEqProofs (disch := first | assumption | omega | (simp only [r_z, zab, zae, zap, zbb, zbk, zbo] <;> omega) | decide) only [r_r, ↓reduceIte, Nat.reduceEqDiff, Nat.reduceAdd, D.fix, Int.reduceToNat, Nat.reduceMul, Nat.reduceBNe, Nat.reduceBEq, zby, zb1, zao, zaj, zcg, za7, zgv, inC, jpj]) : p := h.mpr hq
theorem jpk (n : Net) (s : PSt) (heads : List Head) (rooms : List Bool) (hn : NetW n) (hs : StSm s heads rooms) : zaz Try.prog 23 [zby n, .agg (zcg s), .agg (inC heads rooms)] (.d (.agg (zgv (zwi n s heads rooms)))) := by
 have := hn.il; have := hn.gl; have := hn.ol; have := hn.od
 have := hs.r; have := hs.m; have := hs.h; have := hs.q
 have hg : GatesOk (2 + (zme s heads rooms n.ins).length) n.gates := by rw [zbb]; exact hn.g
 have hd : DriveOk (2 + (zme s heads rooms n.ins).length + n.gates.length) n.drive := by rw [zbb]; exact hn.d
 have hol := zlw n (zhd n.gates (zme s heads rooms n.ins) s.mems) (by omega) (by rw [zbo]; exact hd)
 rw [show jq9 n (zhd n.gates (zme s heads rooms n.ins) s.mems) = zpf n (zme s heads rooms n.ins) s.mems from rfl] at hol
 have hil := zbb s heads rooms n.ins
 have hef := zu4 n s (zpf n (zme s heads rooms n.ins) s.mems) heads.length rooms.length (by omega) (by rw [zbk]; omega) hn.wo (by omega) (by omega) (fun l hl => by have := hs.w l hl; omega) (by omega) (by omega) (by omega) (by omega)
 unfold efV at hef
 refine zaw (fn := Try.f23) (by kernel_rfl) Try.func23 rfl (Nat.le_of_ble_eq_true rfl) fun c hc hp => ?_
 refine za0 (τ' := frL [(0, .d (zby n)), (1, .d (.agg (zcg s))), (2, .d (.agg (inC heads rooms)))]) (by repeat (first | exact zar _ | refine zam ?_ (by first | rfl | (simp [r_f, zab, zae, zap, zbb, zbk, zbo]; done) | simp [r_f, zab, zae, zap, zbb, zbk, zbo, *]))) ?_
 refine szq hp (fun _ hZ => zwl hZ) ?_
 refine zas zai hc za8 rfl (q := 0) (by kernel_rfl) (by kernel_rfl) fun K2 hK2 => ?_
 refine zwl ?_
 refine za1 (zu3 n s heads rooms (by omega) hn.wi (by omega) (by omega) (by omega)) rfl ?_
 refine zwl ?_
 refine za1 (zsu n (zme s heads rooms n.ins) s.mems hg (by omega) (by omega)) rfl ?_
 refine zwl ?_
 refine za1 (hol) rfl ?_
 refine zwl ?_
 refine hK2 _ _ ?_
 refine zag hp zai hc rfl fun K3 hK3 => ?_
 refine zwl ?_
 refine za1 (hef) rfl ?_
 refine zwl ?_
 refine hK3 _ _ ?_
 refine zal ?_
 try dsimp only [zbm, zaq]
 refine zak rfl ?_
 simp -dsimp -implicitDefEqProofs (disch := first | assumption | omega | (simp only [r_z, zab, zae, zap, zbb, zbk, zbo] <;> omega) | decide) only [r_r, ↓reduceIte, Nat.reduceEqDiff, Nat.reduceAdd, D.fix, Int.reduceToNat, Nat.reduceMul, Nat.reduceBNe, Nat.reduceBEq, zby, zb1, zao, zaj, zcg, za7, zgv, inC, zoy, zsl]
 show closeA _ _ = _
 simp (disch := first | assumption | omega | (simp only [r_z, zab, zae, zap, zbb, zbk, zbo] <;> omega) | decide) only [r_c, Nat.reduceAdd, D.fix, ↓reduceIte, Nat.reduceEqDiff, zby, zb1, zao, zaj, zcg, za7, zgv, inC]
 rfl
end Go.Proofs.Ytapjobndmmkanaa
