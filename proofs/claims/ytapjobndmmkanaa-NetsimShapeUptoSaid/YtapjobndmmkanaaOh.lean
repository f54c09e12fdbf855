/- netsim: steps; the law of shapes. -/
import Derived.Test.YtapjobndmmkanaaQr
import Derived.Test.YtapjobndmmkanaaOg
set_option linter.unusedVariables false
set_option linter.unusedSimpArgs false
set_option maxRecDepth 100000
set_option maxHeartbeats 4000000
namespace Go.Proofs.Ytapjobndmmkanaa
open Go Go.RowKit
theorem zcy : (((((((type_of% @ze9) ∧ (type_of% @zfa)) ∧ ((type_of% @zhv) ∧ (type_of% @zhw))) ∧ (((type_of% @zhx) ∧ (type_of% @zhy)) ∧ ((type_of% @zhr) ∧ (type_of% @zhs)))) ∧ ((((type_of% @zht) ∧ (type_of% @zhu)) ∧ ((type_of% @zjw) ∧ (type_of% @zjx))) ∧ (((type_of% @ze5) ∧ (type_of% @ze6)) ∧ ((type_of% @ze7) ∧ ((type_of% @ze8) ∧ (type_of% @zo8)))))) ∧ (((((type_of% @zo9) ∧ (type_of% @zpa)) ∧ ((type_of% @zuw) ∧ (type_of% @zux))) ∧ (((type_of% @zlt) ∧ (type_of% @zlu)) ∧ ((type_of% @zjy) ∧ ((type_of% @zjz) ∧ (type_of% @zqe))))) ∧ ((((type_of% @zqd) ∧ (type_of% @zlv)) ∧ ((type_of% @zlw) ∧ (type_of% @zlx))) ∧ (((type_of% @zly) ∧ (type_of% @zfo)) ∧ ((type_of% @zfp) ∧ ((type_of% @jdj) ∧ (type_of% @ztp))))))) ∧ ((((((type_of% @ztq) ∧ (type_of% @ztr)) ∧ ((type_of% @zts) ∧ (type_of% @ztt))) ∧ (((type_of% @ztu) ∧ (type_of% @ztv)) ∧ ((type_of% @ztw) ∧ ((type_of% @ztx) ∧ (type_of% @zty))))) ∧ ((((type_of% @zpb) ∧ (type_of% @zpc)) ∧ ((type_of% @zv4) ∧ (type_of% @zv5))) ∧ (((type_of% @zv6) ∧ (type_of% @jdi)) ∧ ((type_of% @jdh) ∧ ((type_of% @zvu) ∧ (type_of% @zvv)))))) ∧ (((((type_of% @zjk) ∧ (type_of% @zjl)) ∧ ((type_of% @zjm) ∧ (type_of% @zjn))) ∧ (((type_of% @zvw) ∧ (type_of% @zvx)) ∧ ((type_of% @zjo) ∧ ((type_of% @zjp) ∧ (type_of% @zd3))))) ∧ ((((type_of% @zd4) ∧ (type_of% @zjq)) ∧ ((type_of% @zjr) ∧ (type_of% @ztj))) ∧ (((type_of% @ztk) ∧ (type_of% @zvo)) ∧ ((type_of% @zvp) ∧ ((type_of% @zvq) ∧ (type_of% @zvr)))))))) := ⟨⟨⟨⟨⟨⟨@ze9, @zfa⟩, ⟨@zhv, @zhw⟩⟩, ⟨⟨@zhx, @zhy⟩, ⟨@zhr, @zhs⟩⟩⟩, ⟨⟨⟨@zht, @zhu⟩, ⟨@zjw, @zjx⟩⟩, ⟨⟨@ze5, @ze6⟩, ⟨@ze7, ⟨@ze8, @zo8⟩⟩⟩⟩⟩, ⟨⟨⟨⟨@zo9, @zpa⟩, ⟨@zuw, @zux⟩⟩, ⟨⟨@zlt, @zlu⟩, ⟨@zjy, ⟨@zjz, @zqe⟩⟩⟩⟩, ⟨⟨⟨@zqd, @zlv⟩, ⟨@zlw, @zlx⟩⟩, ⟨⟨@zly, @zfo⟩, ⟨@zfp, ⟨@jdj, @ztp⟩⟩⟩⟩⟩⟩, ⟨⟨⟨⟨⟨@ztq, @ztr⟩, ⟨@zts, @ztt⟩⟩, ⟨⟨@ztu, @ztv⟩, ⟨@ztw, ⟨@ztx, @zty⟩⟩⟩⟩, ⟨⟨⟨@zpb, @zpc⟩, ⟨@zv4, @zv5⟩⟩, ⟨⟨@zv6, @jdi⟩, ⟨@jdh, ⟨@zvu, @zvv⟩⟩⟩⟩⟩, ⟨⟨⟨⟨@zjk, @zjl⟩, ⟨@zjm, @zjn⟩⟩, ⟨⟨@zvw, @zvx⟩, ⟨@zjo, ⟨@zjp, @zd3⟩⟩⟩⟩, ⟨⟨⟨@zd4, @zjq⟩, ⟨@zjr, @ztj⟩⟩, ⟨⟨@ztk, @zvo⟩, ⟨@zvp, ⟨@zvq, @zvr⟩⟩⟩⟩⟩⟩⟩
def zqm (n : Net) (inp : List Bool) (mems : List (List Int)) : List Bool := n.drive.map fun d => nth (zmx n.gates inp mems) d.toNat
theorem zbe (g : List Gate) (inp : List Bool) (mems : List (List Int)) : (zmx g inp mems).length = 2 + inp.length + g.length := by simp [zmx, zas]; omega
theorem za9 (n : Net) (inp : List Bool) (mems : List (List Int)) : (zqm n inp mems).length = n.drive.length := by simp [zqm]
theorem zul (n : Net) (inp : List Bool) (mems : List (List Int)) (hg : GatesOk (2 + inp.length) n.gates) (h1 : inp.length ≤ 1000000) (h2 : n.gates.length ≤ 1000000) (hd : DriveOk (2 + inp.length + n.gates.length) n.drive) (h3 : n.drive.length ≤ 1000000) : zbh Try.prog 56 [za1 n, boolsD inp, intssD mems] (.d (boolsD (zqm n inp mems))) := by
 refine zbv (fn := Try.f56) (by kernel_rfl) Try.func56 rfl (Nat.le_of_ble_eq_true rfl) fun c hc hp => ?_
 refine zb8 (τ' := frL [(0, .d (za1 n)), (1, .d (boolsD inp)), (2, .d (intssD mems))]) (by repeat (first | exact zat _ | refine zap ?_ (by first | rfl | (simp [r_f, zaa, zab, zbe, za9]; done) | simp [r_f, zaa, zab, zbe, za9, *]))) ?_
 refine zah hp zar hc rfl fun K1 hK1 => ?_
 simp -dsimp -implicitDefEqProofs (disch := first | assumption | omega | (simp only [r_z, zaa, zab, zbe, za9] <;> omega) | decide) only [r_r, ↓reduceIte, Nat.reduceEqDiff, Nat.reduceAdd, D.fix, Int.reduceToNat, Nat.reduceMul, Nat.reduceBNe, Nat.reduceBEq, za1, za3, zad, zae, zcy]
 refine hK1 _ _ ?_
 refine zah hp zar hc rfl fun K2 hK2 => ?_
 simp -dsimp -implicitDefEqProofs (disch := first | assumption | omega | (simp only [r_z, zaa, zab, zbe, za9] <;> omega) | decide) only [r_r, ↓reduceIte, Nat.reduceEqDiff, Nat.reduceAdd, D.fix, Int.reduceToNat, Nat.reduceMul, Nat.reduceBNe, Nat.reduceBEq, za1, za3, zad, zae, zcy]
 refine zdf (jd4 n _ _ hg h1 h2) rfl ?_
 simp -dsimp -implicitDefEqProofs (disch := first | assumption | omega | (simp only [r_z, zaa, zab, zbe, za9] <;> omega) | decide) only [r_r, ↓reduceIte, Nat.reduceEqDiff, Nat.reduceAdd, D.fix, Int.reduceToNat, Nat.reduceMul, Nat.reduceBNe, Nat.reduceBEq, za1, za3, zad, zae, zcy]
 refine hK2 _ _ ?_
 refine zah hp zar hc rfl fun K3 hK3 => ?_
 simp -dsimp -implicitDefEqProofs (disch := first | assumption | omega | (simp only [r_z, zaa, zab, zbe, za9] <;> omega) | decide) only [r_r, ↓reduceIte, Nat.reduceEqDiff, Nat.reduceAdd, D.fix, Int.reduceToNat, Nat.reduceMul, Nat.reduceBNe, Nat.reduceBEq, za1, za3, zad, zae, zcy]
 refine hK3 _ _ ?_
 refine zav fun K4 hK4 => ?_
 refine zah hp zar hc rfl fun K5 hK5 => ?_
 simp -dsimp -implicitDefEqProofs (disch := first | assumption | omega | (simp only [r_z, zaa, zab, zbe, za9] <;> omega) | decide) only [r_r, ↓reduceIte, Nat.reduceEqDiff, Nat.reduceAdd, D.fix, Int.reduceToNat, Nat.reduceMul, Nat.reduceBNe, Nat.reduceBEq, za1, za3, zad, zae, zcy]
 refine hK5 _ _ ?_
 refine za5 ?_
 refine zbc hp (fun τ' H' mm => ∃ k, (k ≤ n.drive.length) ∧ mm = n.drive.length - k ∧ H' = [.cells (avs (((zqm n inp mems).take k ++ List.replicate (n.drive.length - k) false).map oD))] ∧ τ' = frL [(7, .d (boolsD (zmx n.gates inp mems))), (8, .os 1 0 0 n.drive.length), (20, .d (intsD n.drive)), (21, .d (iD n.drive.length)), (22, .d (iD k))]) (n.drive.length) ?_ ⟨0, Nat.zero_le _, rfl, rfl, rfl⟩ ?_
 ·refine Rt.trans (Rt.gc (keep := [1]) (by decide) (by decide) (by simp [fzH, gcH])) ?_
  refine Rt.end (by repeat (first | exact zat _ | refine zap ?_ (by first | rfl | (simp [r_f, zaa, zab, zbe, za9]; done) | simp [r_f, zaa, zab, zbe, za9, *]))) ?_
  simp only [r_g, Nat.reduceAdd, ↓reduceIte, Nat.reduceEqDiff, za1, za3, zad, zae]; simp [oD]
 rintro τ' H' mm ⟨k, hk, rfl, rfl, rfl⟩
 refine zah hp zar hc rfl fun K6 hK6 => ?_
 simp -dsimp -implicitDefEqProofs (disch := first | assumption | omega | (simp only [r_z, zaa, zab, zbe, za9] <;> omega) | decide) only [r_r, ↓reduceIte, Nat.reduceEqDiff, Nat.reduceAdd, D.fix, Int.reduceToNat, Nat.reduceMul, Nat.reduceBNe, Nat.reduceBEq, za1, za3, zad, zae, zcy]
 refine hK6 _ _ ?_
 refine zav fun K7 hK7 => ?_
 refine zay rfl (fun ht => ?_) (fun ht => ?_)
 ·have hlt : k < n.drive.length := by simp at ht; omega
  obtain ⟨d0, d1⟩ := hd k hlt
  have hlo : k < (zqm n inp mems).length := by rw [za9]; exact hlt
  have hev := zbe n.gates inp mems
  have hn : nth (zmx n.gates inp mems) (nth n.drive k).toNat = nth (zqm n inp mems) k := by unfold zqm; rw [zmv hlt]
  refine za4 (hK7 _ _ ?_)
  refine zav fun K8 hK8 => ?_
  refine za5 ?_
  refine zah hp zar hc rfl fun K9 hK9 => ?_
  simp -dsimp -implicitDefEqProofs (disch := first | assumption | omega | (simp only [r_z, zaa, zab, zbe, za9] <;> omega) | decide) only [r_r, ↓reduceIte, Nat.reduceEqDiff, Nat.reduceAdd, D.fix, Int.reduceToNat, Nat.reduceMul, Nat.reduceBNe, Nat.reduceBEq, za1, za3, zad, zae, zcy]
  refine hK9 _ _ ?_
  refine zba hp zar hc rfl fun K10 hK10 => ?_
  simp -dsimp -implicitDefEqProofs (disch := first | assumption | omega | (simp only [r_z, zaa, zab, zbe, za9] <;> omega) | decide) only [r_r, ↓reduceIte, Nat.reduceEqDiff, Nat.reduceAdd, D.fix, Int.reduceToNat, Nat.reduceMul, Nat.reduceBNe, Nat.reduceBEq, za1, za3, zad, zae, zcy]
  refine hK10 _ _ (hK8 _ _ ?_)
  refine zba hp zar hc rfl fun K11 hK11 => ?_
  simp -dsimp -implicitDefEqProofs (disch := first | assumption | omega | (simp only [r_z, zaa, zab, zbe, za9] <;> omega) | decide) only [r_r, ↓reduceIte, Nat.reduceEqDiff, Nat.reduceAdd, D.fix, Int.reduceToNat, Nat.reduceMul, Nat.reduceBNe, Nat.reduceBEq, za1, za3, zad, zae, zcy]
  refine hK11 _ _ ⟨_, _, _, ?_, ⟨k + 1, by omega, rfl, rfl, rfl⟩, ?_⟩
  ·first | omega | (simp only [List.length_cons]; omega) | (dsimp only; omega)
  ·refine Rt.trans (Rt.gc (keep := [0]) (by decide) (by decide) (by simp [fzH, gcH])) ?_
   refine Rt.end (by repeat (first | exact zat _ | refine zap ?_ (by first | rfl | (simp [r_f, zaa, zab, zbe, za9]; done) | simp [r_f, zaa, zab, zbe, za9, *]))) ?_
   simp only [r_g, Nat.reduceAdd, ↓reduceIte, Nat.reduceEqDiff, za1, za3, zad, zae]; have := zsw hlo false; rw [za9] at this; rw [hn, ← this]
 ·have hge : k = n.drive.length := by simp at ht; omega
  refine zbi (hK4 _ _ ?_)
  refine zah hp zar hc rfl fun K12 hK12 => ?_
  simp -dsimp -implicitDefEqProofs (disch := first | assumption | omega | (simp only [r_z, zaa, zab, zbe, za9] <;> omega) | decide) only [r_r, ↓reduceIte, Nat.reduceEqDiff, Nat.reduceAdd, D.fix, Int.reduceToNat, Nat.reduceMul, Nat.reduceBNe, Nat.reduceBEq, za1, za3, zad, zae]
  refine hK12 _ _ ?_
  refine zbr ?_
  show closeA _ _ = _
  simp (disch := first | assumption | omega | (simp only [r_z, zaa, zab, zbe, za9] <;> omega) | decide) only [r_c, Nat.reduceAdd, D.fix, ↓reduceIte, Nat.reduceEqDiff, za1, za3, zad, zae]
  rw [hge, Nat.sub_self, List.take_of_length_le (by rw [za9]; exact Nat.le_refl _)]; simp [za9]
def zum (n : Net) (s : PSt) (heads : List Head) (rooms : List Bool) : Fir := efF n.out s (zqm n (zpl s heads rooms n.ins) s.mems) heads.length rooms.length
structure NetW (n : Net) : Prop where
 il : n.ins.length ≤ 1000
 gl : n.gates.length ≤ 1000
 ol : n.out.length ≤ 1000
 od : n.out.length = n.drive.length
 g : GatesOk (2 + n.ins.length) n.gates
 d : DriveOk (2 + n.ins.length + n.gates.length) n.drive
 wi : ∀ w ∈ n.ins, WireIn w
 wo : ∀ w ∈ n.out, WireOut w
theorem NetOk.w {n : Net} (h : NetOk n) : NetW n := ⟨by have := h.i2; omega, by have := h.g1; omega, by have := h.d0; have := h.d1; omega, h.d0, h.g2, h.d2, h.wi, h.wo⟩
structure StSm (s : PSt) (heads : List Head) (rooms : List Bool) : Prop where
 r : s.regs.length ≤ 1000
 m : s.mems.length ≤ 1000
 w : ∀ l ∈ s.mems, l.length ≤ 1000
 h : heads.length ≤ 1000
 q : rooms.length ≤ 1000
theorem jea (n : Net) (s : PSt) (heads : List Head) (rooms : List Bool) (hn : NetW n) (hs : StSm s heads rooms) : zbh Try.prog 53 [za1 n, .agg (za6 s), zai heads, boolsD rooms] (.d (.agg (zbt (zum n s heads rooms)))) := by
 have := hn.il; have := hn.gl; have := hn.ol; have := hn.od
 have := hs.r; have := hs.m; have := hs.h; have := hs.q
 have hg : GatesOk (2 + (zpl s heads rooms n.ins).length) n.gates := by rw [zaw]; exact hn.g
 have hd : DriveOk (2 + (zpl s heads rooms n.ins).length + n.gates.length) n.drive := by rw [zaw]; exact hn.d
 have m3 : (1000 : Nat) ≤ maxLen := by unfold maxLen; decide
 refine zbv (fn := Try.f53) (by kernel_rfl) Try.func53 rfl (Nat.le_of_ble_eq_true rfl) fun c hc hp => ?_
 refine zb8 (τ' := frL [(0, .d (za1 n)), (1, .d (.agg (za6 s))), (2, .d (zai heads)), (3, .d (boolsD rooms))]) (by repeat (first | exact zat _ | refine zap ?_ (by first | rfl | (simp [r_f, zab, zaa, zac, zaw, za9]; done) | simp [r_f, zab, zaa, zac, zaw, za9, *]))) ?_
 refine zah hp zar hc rfl fun K1 hK1 => ?_
 simp -dsimp -implicitDefEqProofs (disch := first | assumption | omega | (simp only [r_z, zab, zaa, zac, zaw, za9] <;> omega) | decide) only [r_r, ↓reduceIte, Nat.reduceEqDiff, Nat.reduceAdd, D.fix, Int.reduceToNat, Nat.reduceMul, Nat.reduceBNe, Nat.reduceBEq, za1, za3, zad, zae, za6, zai, zbt, zcy]
 refine hK1 _ _ ?_
 refine zb3 zar hc zcb rfl (q := 0) (by kernel_rfl) (by kernel_rfl) fun K2 hK2 => ?_
 simp -dsimp -implicitDefEqProofs (disch := first | assumption | omega | (simp only [r_z, zab, zaa, zac, zaw, za9] <;> omega) | decide) only [r_r, ↓reduceIte, Nat.reduceEqDiff, Nat.reduceAdd, D.fix, Int.reduceToNat, Nat.reduceMul, Nat.reduceBNe, Nat.reduceBEq, za1, za3, zad, zae, za6, zai, zbt, zcy]
 refine zdf (zwf n s heads rooms (by omega) hn.wi (by omega) (by omega) (by omega)) rfl ?_
 simp -dsimp -implicitDefEqProofs (disch := first | assumption | omega | (simp only [r_z, zab, zaa, zac, zaw, za9] <;> omega) | decide) only [r_r, ↓reduceIte, Nat.reduceEqDiff, Nat.reduceAdd, D.fix, Int.reduceToNat, Nat.reduceMul, Nat.reduceBNe, Nat.reduceBEq, za1, za3, zad, zae, za6, zai, zbt, zcy]
 refine zdf (zul n (zpl s heads rooms n.ins) s.mems hg (by rw [zaw]; omega) (by omega) hd (by omega)) rfl ?_
 simp -dsimp -implicitDefEqProofs (disch := first | assumption | omega | (simp only [r_z, zab, zaa, zac, zaw, za9] <;> omega) | decide) only [r_r, ↓reduceIte, Nat.reduceEqDiff, Nat.reduceAdd, D.fix, Int.reduceToNat, Nat.reduceMul, Nat.reduceBNe, Nat.reduceBEq, za1, za3, zad, zae, za6, zai, zbt, zcy]
 refine hK2 _ _ ?_
 refine zah hp zar hc rfl fun K3 hK3 => ?_
 simp -dsimp -implicitDefEqProofs (disch := first | assumption | omega | (simp only [r_z, zab, zaa, zac, zaw, za9] <;> omega) | decide) only [r_r, ↓reduceIte, Nat.reduceEqDiff, Nat.reduceAdd, D.fix, Int.reduceToNat, Nat.reduceMul, Nat.reduceBNe, Nat.reduceBEq, za1, za3, zad, zae, za6, zai, zbt, zcy]
 refine zdf (zwn n s (zqm n (zpl s heads rooms n.ins) s.mems) heads.length rooms.length (by omega) (by rw [za9]; omega) hn.wo (by omega) (by omega) (fun l hl => by have := hs.w l hl; omega) (by omega) (by omega) (by omega) (by omega)) rfl ?_
 simp -dsimp -implicitDefEqProofs (disch := first | assumption | omega | (simp only [r_z, zab, zaa, zac, zaw, za9] <;> omega) | decide) only [r_r, ↓reduceIte, Nat.reduceEqDiff, Nat.reduceAdd, D.fix, Int.reduceToNat, Nat.reduceMul, Nat.reduceBNe, Nat.reduceBEq, za1, za3, zad, zae, za6, zai, zbt, zcy]
 refine hK3 _ _ ?_
 refine zbr ?_
 try dsimp only [ziy, zcw]
 refine zdh rfl ?_
 simp -dsimp -implicitDefEqProofs (disch := first | assumption | omega | (simp only [r_z, zab, zaa, zac, zaw, za9] <;> omega) | decide) only [r_r, ↓reduceIte, Nat.reduceEqDiff, Nat.reduceAdd, D.fix, Int.reduceToNat, Nat.reduceMul, Nat.reduceBNe, Nat.reduceBEq, za1, za3, zad, zae, za6, zai, zbt, zjy, zjz]
 show closeA _ _ = _
 simp (disch := first | assumption | omega | (simp only [r_z, zab, zaa, zac, zaw, za9] <;> omega) | decide) only [r_c, Nat.reduceAdd, D.fix, ↓reduceIte, Nat.reduceEqDiff, za1, za3, zad, zae, za6, zai, zbt]
 rfl
theorem jao (n : Net) (s : PSt) (heads : List Head) (rooms : List Bool) (hn : NetW n) (hs : StSm s heads rooms) : zbh Try.prog 22 [za1 n, .agg (za6 s), .agg [zai heads, boolsD rooms]] (.d (.agg (zbt (zum n s heads rooms)))) := by
 refine zbv (fn := Try.f22) (by kernel_rfl) Try.func22 rfl (Nat.le_of_ble_eq_true rfl) fun c hc hp => ?_
 refine zb8 (τ' := frL [(0, .d (za1 n)), (1, .d (.agg (za6 s))), (2, .d (.agg [zai heads, boolsD rooms]))]) (by repeat (first | exact zat _ | refine zap ?_ (by first | rfl | (simp [r_f]; done) | simp [r_f, *]))) ?_
 refine zah hp zar hc rfl fun K1 hK1 => ?_
 simp -dsimp -implicitDefEqProofs (disch := first | assumption | omega | (simp only [r_z] <;> omega) | decide) only [r_r, ↓reduceIte, Nat.reduceEqDiff, Nat.reduceAdd, D.fix, Int.reduceToNat, Nat.reduceMul, Nat.reduceBNe, Nat.reduceBEq, za1, za3, zad, zae, za6, zai, zbt, zcy]
 refine hK1 _ _ ?_
 refine zah hp zar hc rfl fun K2 hK2 => ?_
 simp -dsimp -implicitDefEqProofs (disch := first | assumption | omega | (simp only [r_z] <;> omega) | decide) only [r_r, ↓reduceIte, Nat.reduceEqDiff, Nat.reduceAdd, D.fix, Int.reduceToNat, Nat.reduceMul, Nat.reduceBNe, Nat.reduceBEq, za1, za3, zad, zae, za6, zai, zbt, zcy]
 refine zdf (jea n s heads rooms hn hs) rfl ?_
 simp -dsimp -implicitDefEqProofs (disch := first | assumption | omega | (simp only [r_z] <;> omega) | decide) only [r_r, ↓reduceIte, Nat.reduceEqDiff, Nat.reduceAdd, D.fix, Int.reduceToNat, Nat.reduceMul, Nat.reduceBNe, Nat.reduceBEq, za1, za3, zad, zae, za6, zai, zbt, zcy]
 refine hK2 _ _ ?_
 refine zbr ?_
 try dsimp only [ziy, zcw]
 refine zdh rfl ?_
 simp -dsimp -implicitDefEqProofs (disch := first | assumption | omega | (simp only [r_z] <;> omega) | decide) only [r_r, ↓reduceIte, Nat.reduceEqDiff, Nat.reduceAdd, D.fix, Int.reduceToNat, Nat.reduceMul, Nat.reduceBNe, Nat.reduceBEq, za1, za3, zad, zae, za6, zai, zbt, zjy, zjz]
 show closeA _ _ = _
 simp (disch := first | assumption | omega | (simp only [r_z] <;> omega) | decide) only [r_c, Nat.reduceAdd, D.fix, ↓reduceIte, Nat.reduceEqDiff, za1, za3, zad, zae, za6, zai, zbt]
structure Odd where
 s : PSt
 heads : List Head
 rooms : List Bool
 v : List Int
 k : Int
 e0 : Int
 e1 : Int
def eD (n : Int) : D := .val (.int .i8 n)
def zbw (z : Odd) : List D := [intsD z.s.regs, intssD z.s.mems, zai z.heads, boolsD z.rooms, bytesD z.v, iD z.k, eD z.e0, eD z.e1]
def zgp (z : Odd) : Nat → Nat
 | 0 => z.s.regs.length + z.s.mems.length + z.heads.length + z.rooms.length + z.v.length
 | k + 1 => zgp z k + (nth z.s.mems k).length
theorem zfy (z : Odd) : ∀ {d k : Nat}, zgp z k ≤ zgp z (k + d)
 | 0, k => Nat.le_refl _
 | d + 1, k => Nat.le_trans (zfy z (d := d)) (by rw [show k + (d + 1) = (k + d) + 1 by omega, zgp]; omega)
theorem zmz {z : Odd} {k n : Nat} (h : k < n) : (nth z.s.mems k).length + zgp z 0 ≤ zgp z n := by
 have h1 := zfy z (d := n - (k + 1)) (k := k + 1)
 rw [show k + 1 + (n - (k + 1)) = n by omega, zgp] at h1
 have h2 := zfy z (d := k) (k := 0)
 rw [Nat.zero_add] at h2
 omega
theorem zwo (z : Odd) (hb : zgp z z.s.mems.length ≤ 1000000000) : zbh Try.prog 10 [.agg (zbw z)] (.d (oD (decide (zgp z z.s.mems.length ≤ 200)))) := by
 have h0 := zfy z (d := z.s.mems.length) (k := 0)
 rw [Nat.zero_add, zgp] at h0
 have hc0 : ((z.s.regs.length : Int) + z.s.mems.length + z.heads.length + z.rooms.length + z.v.length) = ((zgp z 0 : Nat) : Int) := by rw [zgp]; simp
 refine zbv (fn := Try.f10) (by kernel_rfl) Try.func10 rfl (Nat.le_of_ble_eq_true rfl) fun c hc hp => ?_
 refine zb8 (τ' := frL [(0, .d (.agg (zbw z)))]) (by repeat (first | exact zat _ | refine zap ?_ (by first | rfl | (simp [r_f]; done) | simp [r_f, *]))) ?_
 refine zah hp zar hc rfl fun K1 hK1 => ?_
 simp -dsimp -implicitDefEqProofs (disch := first | assumption | omega | (simp only [r_z] <;> omega) | decide) only [r_r, ↓reduceIte, Nat.reduceEqDiff, Nat.reduceAdd, D.fix, Int.reduceToNat, Nat.reduceMul, Nat.reduceBNe, Nat.reduceBEq, zbw, zai, eD, zcy]
 refine hK1 _ _ ?_
 refine zah hp zar hc rfl fun K2 hK2 => ?_
 simp -dsimp -implicitDefEqProofs (disch := first | assumption | omega | (simp only [r_z] <;> omega) | decide) only [r_r, ↓reduceIte, Nat.reduceEqDiff, Nat.reduceAdd, D.fix, Int.reduceToNat, Nat.reduceMul, Nat.reduceBNe, Nat.reduceBEq, zbw, zai, eD, zcy]
 refine hK2 _ _ ?_
 refine zav fun K3 hK3 => ?_
 refine zah hp zar hc rfl fun K4 hK4 => ?_
 simp -dsimp -implicitDefEqProofs (disch := first | assumption | omega | (simp only [r_z] <;> omega) | decide) only [r_r, ↓reduceIte, Nat.reduceEqDiff, Nat.reduceAdd, D.fix, Int.reduceToNat, Nat.reduceMul, Nat.reduceBNe, Nat.reduceBEq, zbw, zai, eD]
 refine hK4 _ _ ?_
 refine za5 ?_
 refine zbc hp (fun τ' H' mm => ∃ (k : Nat), (k ≤ z.s.mems.length) ∧ mm = z.s.mems.length - k ∧ H' = [.cells (avs (zbw z))] ∧ τ' = frL [(1, .op 0 0), (3, .d (iD (zgp z k))), (4, .d (iD k))]) (z.s.mems.length) ?_ ⟨0, Nat.zero_le _, rfl, rfl, rfl⟩ ?_
 ·refine Rt.end (by repeat (first | exact zat _ | refine zap ?_ (by first | rfl | (simp [r_f]; done) | simp [r_f, *]))) ?_
  simp only [r_g, Nat.reduceAdd, ↓reduceIte, Nat.reduceEqDiff, zbw, zai, eD]; rfl
 rintro τ' H' mm ⟨k, hk, rfl, rfl, rfl⟩
 refine zav fun K5 hK5 => ?_
 refine zah hp zar hc rfl fun K6 hK6 => ?_
 simp -dsimp -implicitDefEqProofs (disch := first | assumption | omega | (simp only [r_z] <;> omega) | decide) only [r_r, ↓reduceIte, Nat.reduceEqDiff, Nat.reduceAdd, D.fix, Int.reduceToNat, Nat.reduceMul, Nat.reduceBNe, Nat.reduceBEq, zbw, zai, eD, zcy]
 refine hK6 _ _ ?_
 refine zay rfl (fun ht => ?_) (fun ht => ?_)
 ·have hlt : k < z.s.mems.length := by simp at ht; omega
  have h1 := zfy z (d := z.s.mems.length - k) (k := k)
  rw [show k + (z.s.mems.length - k) = z.s.mems.length by omega] at h1
  have h2 := zmz (z := z) hlt
  have hcN : ((zgp z k : Nat) : Int) + ((nth z.s.mems k).length : Nat) = ((zgp z (k + 1) : Nat) : Int) := by rw [zgp]; simp
  refine za4 (hK5 _ _ ?_)
  refine zav fun K7 hK7 => ?_
  refine za5 ?_
  refine zba hp zar hc rfl fun K8 hK8 => ?_
  simp -dsimp -implicitDefEqProofs (disch := first | assumption | omega | (simp only [r_z] <;> omega) | decide) only [r_r, ↓reduceIte, Nat.reduceEqDiff, Nat.reduceAdd, D.fix, Int.reduceToNat, Nat.reduceMul, Nat.reduceBNe, Nat.reduceBEq, zbw, zai, eD, zcr, zcy]
  refine hK8 _ _ (hK7 _ _ ?_)
  refine zba hp zar hc rfl fun K9 hK9 => ?_
  simp -dsimp -implicitDefEqProofs (disch := first | assumption | omega | (simp only [r_z] <;> omega) | decide) only [r_r, ↓reduceIte, Nat.reduceEqDiff, Nat.reduceAdd, D.fix, Int.reduceToNat, Nat.reduceMul, Nat.reduceBNe, Nat.reduceBEq, zbw, zai, eD, zcy]
  refine hK9 _ _ ⟨_, _, _, ?_, ⟨k + 1, by omega, rfl, rfl, rfl⟩, ?_⟩
  ·first | omega | (simp only [List.length_cons]; omega) | (dsimp only; omega)
  ·refine Rt.end (by repeat (first | exact zat _ | refine zap ?_ (by first | rfl | (simp [r_f]; done) | simp [r_f, *]))) ?_
   first | rfl | (simp only [r_g, Nat.reduceAdd, ↓reduceIte, Nat.reduceEqDiff, zbw, zai, eD]; first | done | rfl)
 ·have hkk : k = z.s.mems.length := by simp at ht; omega
  subst hkk
  refine zbi (hK3 _ _ ?_)
  refine zah hp zar hc rfl fun K10 hK10 => ?_
  simp -dsimp -implicitDefEqProofs (disch := first | assumption | omega | (simp only [r_z] <;> omega) | decide) only [r_r, ↓reduceIte, Nat.reduceEqDiff, Nat.reduceAdd, D.fix, Int.reduceToNat, Nat.reduceMul, Nat.reduceBNe, Nat.reduceBEq, zbw, zai, eD, zcy]
  refine hK10 _ _ ?_
  refine zbr ?_
  show closeA _ _ = _
  simp (disch := first | assumption | omega | (simp only [r_z] <;> omega) | decide) only [r_c, Nat.reduceAdd, D.fix, ↓reduceIte, Nat.reduceEqDiff, zbw, zai, eD]
  simp; omega
end Go.Proofs.Ytapjobndmmkanaa
