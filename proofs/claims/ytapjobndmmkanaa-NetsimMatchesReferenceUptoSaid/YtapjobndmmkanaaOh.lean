/- netsim: steps; the law of shapes. -/
import Derived.Test.YtapjobndmmkanaaQr
import Derived.Test.YtapjobndmmkanaaOg
set_option linter.unusedVariables false
set_option linter.unusedSimpArgs false
set_option maxRecDepth 100000
set_option maxHeartbeats 4000000
namespace Go.Proofs.Ytapjobndmmkanaa
open Go Go.RowKit
theorem jfr : ((((((type_of% @zhw) ∧ (type_of% @zjb)) ∧ ((type_of% @zkr) ∧ (type_of% @zks))) ∧ (((type_of% @zgy) ∧ (type_of% @zhv)) ∧ ((type_of% @zht) ∧ ((type_of% @zhu) ∧ (type_of% @zkq))))) ∧ ((((type_of% @zlh) ∧ (type_of% @zdc)) ∧ ((type_of% @zdd) ∧ ((type_of% @zdh) ∧ (type_of% @zev)))) ∧ (((type_of% @zew) ∧ (type_of% @zq0)) ∧ ((type_of% @zq1) ∧ ((type_of% @zum) ∧ (type_of% @zun)))))) ∧ (((((type_of% @zoy) ∧ (type_of% @jbc)) ∧ ((type_of% @zmn) ∧ (type_of% @zmo))) ∧ (((type_of% @zpo) ∧ (type_of% @zgo)) ∧ ((type_of% @zjd) ∧ ((type_of% @zdu) ∧ (type_of% @zdv))))) ∧ ((((type_of% @zjc) ∧ (type_of% @zh8)) ∧ ((type_of% @zh9) ∧ ((type_of% @zsd) ∧ (type_of% @zfa)))) ∧ (((type_of% @zse) ∧ (type_of% @zsf)) ∧ ((type_of% @zpl) ∧ ((type_of% @zpm) ∧ (type_of% @zpn))))))) := ⟨⟨⟨⟨⟨@zhw, @zjb⟩, ⟨@zkr, @zks⟩⟩, ⟨⟨@zgy, @zhv⟩, ⟨@zht, ⟨@zhu, @zkq⟩⟩⟩⟩, ⟨⟨⟨@zlh, @zdc⟩, ⟨@zdd, ⟨@zdh, @zev⟩⟩⟩, ⟨⟨@zew, @zq0⟩, ⟨@zq1, ⟨@zum, @zun⟩⟩⟩⟩⟩, ⟨⟨⟨⟨@zoy, @jbc⟩, ⟨@zmn, @zmo⟩⟩, ⟨⟨@zpo, @zgo⟩, ⟨@zjd, ⟨@zdu, @zdv⟩⟩⟩⟩, ⟨⟨⟨@zjc, @zh8⟩, ⟨@zh9, ⟨@zsd, @zfa⟩⟩⟩, ⟨⟨@zse, @zsf⟩, ⟨@zpl, ⟨@zpm, @zpn⟩⟩⟩⟩⟩⟩
def zpf (n : Net) (inp : List Bool) (mems : List (List Int)) : List Bool := n.drive.map fun d => nth (zhd n.gates inp mems) d.toNat
theorem zbo (g : List Gate) (inp : List Bool) (mems : List (List Int)) : (zhd g inp mems).length = 2 + inp.length + g.length := by simp [zhd, zbx]; omega
theorem zbk (n : Net) (inp : List Bool) (mems : List (List Int)) : (zpf n inp mems).length = n.drive.length := by simp [zpf]
theorem zss {p q : Prop} (hq : q) (h : p = q := by
 conv => lhs; simp -dsimp -implicitDefEqProofs (disch := first | assumption | omega | (simp only [r_z, zae, zab, zbo, zbk] <;> omega) | decide) only [r_r, ↓reduceIte, Nat.reduceEqDiff, Nat.reduceAdd, D.fix, Int.reduceToNat, Nat.reduceMul, Nat.reduceBNe, Nat.reduceBEq, zby, zb1, zao, zaj, jfr]) : p := h.mpr hq
theorem ya6 {m : List Nat} {τ τ' : Fr} {H H' : zad} (h2 : H = H') (h : zgu τ τ' := by
 repeat (first | exact zar _ | refine zam ?_ (by first | rfl | (simp [r_f, zae, zab, zbo, zbk]; done) | simp [r_f, zae, zab, zbo, zbk, *]))) : Rt m τ H τ' H' := Rt.end h h2
theorem zo2 (n : Net) (inp : List Bool) (mems : List (List Int)) (hg : GatesOk (2 + inp.length) n.gates) (h1 : inp.length ≤ 1000000) (h2 : n.gates.length ≤ 1000000) (hd : DriveOk (2 + inp.length + n.gates.length) n.drive) (h3 : n.drive.length ≤ 1000000) : zaz Try.prog 56 [zby n, boolsD inp, intssD mems] (.d (boolsD (zpf n inp mems))) := by
 refine zaw (fn := Try.f56) (by kernel_rfl) Try.func56 rfl (Nat.le_of_ble_eq_true rfl) fun c hc hp => ?_
 refine za0 (τ' := frL [(0, .d (zby n)), (1, .d (boolsD inp)), (2, .d (intssD mems))]) (by repeat (first | exact zar _ | refine zam ?_ (by first | rfl | (simp [r_f, zae, zab, zbo, zbk]; done) | simp [r_f, zae, zab, zbo, zbk, *]))) ?_
 refine szq hp (fun _ hZ => zss hZ) ?_
 refine zag hp zai hc rfl fun K2 hK2 => ?_
 refine zss ?_
 refine za1 (jm6 n _ _ hg h1 h2) rfl ?_
 refine zss ?_
 refine hK2 _ _ ?_
 refine szq hp (fun _ hZ => zss hZ) ?_
 refine zaa fun K4 hK4 => ?_
 refine szq hp (fun _ hZ => zss hZ) ?_
 refine zac ?_
 refine zan hp (fun τ' H' mm => ∃ k, (k ≤ n.drive.length) ∧ mm = n.drive.length - k ∧ H' = [.cells (avs (((zpf n inp mems).take k ++ List.replicate (n.drive.length - k) false).map oD))] ∧ τ' = frL [(7, .d (boolsD (zhd n.gates inp mems))), (8, .os 1 0 0 n.drive.length), (20, .d (intsD n.drive)), (21, .d (iD n.drive.length)), (22, .d (iD k))]) (n.drive.length) ?_ ⟨0, Nat.zero_le _, rfl, rfl, rfl⟩ ?_
 ·refine Rt.trans (Rt.gc (keep := [1]) (by decide) (by decide) (by simp [fzH, gcH])) ?_
  refine ya6 ?_
  simp only [r_g, Nat.reduceAdd, ↓reduceIte, Nat.reduceEqDiff, zby, zb1, zao, zaj]; simp [oD]
 rintro τ' H' mm ⟨k, hk, rfl, rfl, rfl⟩
 refine szq hp (fun _ hZ => zss hZ) ?_
 refine zaa fun K7 hK7 => ?_
 refine zah rfl (fun ht => ?_) (fun ht => ?_)
 ·have hlt : k < n.drive.length := by simp at ht; omega
  obtain ⟨d0, d1⟩ := hd k hlt
  have hlo : k < (zpf n inp mems).length := by rw [zbk]; exact hlt
  have hev := zbo n.gates inp mems
  have hn : nth (zhd n.gates inp mems) (nth n.drive k).toNat = nth (zpf n inp mems) k := by unfold zpf; rw [zgm hlt]
  refine zaf (hK7 _ _ ?_)
  refine zaa fun K8 hK8 => ?_
  refine zac ?_
  refine szq hp (fun _ hZ => zss hZ) ?_
  refine szs hp (fun _ hZ => zss hZ) (hK8 _ _ ?_)
  refine za5 hp zai hc rfl fun K11 hK11 => ?_
  refine zss ?_
  refine hK11 _ _ ⟨_, _, _, ?_, ⟨k + 1, by omega, rfl, rfl, rfl⟩, ?_⟩
  ·first | omega | (simp only [List.length_cons]; omega) | (dsimp only; omega)
  ·refine Rt.trans (Rt.gc (keep := [0]) (by decide) (by decide) (by simp [fzH, gcH])) ?_
   refine ya6 ?_
   simp only [r_g, Nat.reduceAdd, ↓reduceIte, Nat.reduceEqDiff, zby, zb1, zao, zaj]; have := jek hlo false; rw [zbk] at this; rw [hn, ← this]
 ·have hge : k = n.drive.length := by simp at ht; omega
  refine zau (hK4 _ _ ?_)
  refine zag hp zai hc rfl fun K12 hK12 => ?_
  simp -dsimp -implicitDefEqProofs (disch := first | assumption | omega | (simp only [r_z, zae, zab, zbo, zbk] <;> omega) | decide) only [r_r, ↓reduceIte, Nat.reduceEqDiff, Nat.reduceAdd, D.fix, Int.reduceToNat, Nat.reduceMul, Nat.reduceBNe, Nat.reduceBEq, zby, zb1, zao, zaj]
  refine hK12 _ _ ?_
  refine zal ?_
  show closeA _ _ = _
  simp (disch := first | assumption | omega | (simp only [r_z, zae, zab, zbo, zbk] <;> omega) | decide) only [r_c, Nat.reduceAdd, D.fix, ↓reduceIte, Nat.reduceEqDiff, zby, zb1, zao, zaj]
  rw [hge, Nat.sub_self, List.take_of_length_le (by rw [zbk]; exact Nat.le_refl _)]; simp [zbk]
def zwi (n : Net) (s : PSt) (heads : List Head) (rooms : List Bool) : Fir := efF n.out s (zpf n (zme s heads rooms n.ins) s.mems) heads.length rooms.length
structure NetW (n : Net) : Prop where
 il : n.ins.length ≤ 1000
 gl : n.gates.length ≤ 1000
 ol : n.out.length ≤ 1000
 od : n.out.length = n.drive.length
 g : GatesOk (2 + n.ins.length) n.gates
 d : DriveOk (2 + n.ins.length + n.gates.length) n.drive
 wi : ∀ w ∈ n.ins, WireIn w
 wo : ∀ w ∈ n.out, WireOut w
theorem NetOk.w {n : Net} (h : NetOk n) : NetW n := ⟨by have := h.i2; omega, by have := h.g1; omega, by have := h.d0; have := h.d1; omega, h.d0, h.g2, h.d2, h.wi, h.wo⟩
structure StSm (s : PSt) (heads : List Head) (rooms : List Bool) : Prop where
 r : s.regs.length ≤ 1000
 m : s.mems.length ≤ 1000
 w : ∀ l ∈ s.mems, l.length ≤ 1000
 h : heads.length ≤ 1000
 q : rooms.length ≤ 1000
theorem jbl {p q : Prop} (hq : q) (h : p = q := by
 conv => lhs; simp -dsimp -implicitDefEqProofs (disch := first | assumption | omega | (simp only [r_z, zab, zae, zap, zbb, zbk] <;> omega) | decide) only [r_r, ↓reduceIte, Nat.reduceEqDiff, Nat.reduceAdd, D.fix, Int.reduceToNat, Nat.reduceMul, Nat.reduceBNe, Nat.reduceBEq, zby, zb1, zao, zaj, zcg, za7, zgv, jfr]) : p := h.mpr hq
theorem jvc (n : Net) (s : PSt) (heads : List Head) (rooms : List Bool) (hn : NetW n) (hs : StSm s heads rooms) : zaz Try.prog 53 [zby n, .agg (zcg s), za7 heads, boolsD rooms] (.d (.agg (zgv (zwi n s heads rooms)))) := by
 have := hn.il; have := hn.gl; have := hn.ol; have := hn.od
 have := hs.r; have := hs.m; have := hs.h; have := hs.q
 have hg : GatesOk (2 + (zme s heads rooms n.ins).length) n.gates := by rw [zbb]; exact hn.g
 have hd : DriveOk (2 + (zme s heads rooms n.ins).length + n.gates.length) n.drive := by rw [zbb]; exact hn.d
 have m3 : (1000 : Nat) ≤ maxLen := by unfold maxLen; decide
 refine zaw (fn := Try.f53) (by kernel_rfl) Try.func53 rfl (Nat.le_of_ble_eq_true rfl) fun c hc hp => ?_
 refine za0 (τ' := frL [(0, .d (zby n)), (1, .d (.agg (zcg s))), (2, .d (za7 heads)), (3, .d (boolsD rooms))]) (by repeat (first | exact zar _ | refine zam ?_ (by first | rfl | (simp [r_f, zab, zae, zap, zbb, zbk]; done) | simp [r_f, zab, zae, zap, zbb, zbk, *]))) ?_
 refine szq hp (fun _ hZ => jbl hZ) ?_
 refine zas zai hc za8 rfl (q := 0) (by kernel_rfl) (by kernel_rfl) fun K2 hK2 => ?_
 refine jbl ?_
 refine za1 (zz4 n s heads rooms (by omega) hn.wi (by omega) (by omega) (by omega)) rfl ?_
 refine jbl ?_
 refine za1 (zo2 n (zme s heads rooms n.ins) s.mems hg (by rw [zbb]; omega) (by omega) hd (by omega)) rfl ?_
 refine jbl ?_
 refine hK2 _ _ ?_
 refine zag hp zai hc rfl fun K3 hK3 => ?_
 refine jbl ?_
 refine za1 (zz8 n s (zpf n (zme s heads rooms n.ins) s.mems) heads.length rooms.length (by omega) (by rw [zbk]; omega) hn.wo (by omega) (by omega) (fun l hl => by have := hs.w l hl; omega) (by omega) (by omega) (by omega) (by omega)) rfl ?_
 refine jbl ?_
 refine hK3 _ _ ?_
 refine zal ?_
 try dsimp only [zbm, zaq]
 refine zak rfl ?_
 simp -dsimp -implicitDefEqProofs (disch := first | assumption | omega | (simp only [r_z, zab, zae, zap, zbb, zbk] <;> omega) | decide) only [r_r, ↓reduceIte, Nat.reduceEqDiff, Nat.reduceAdd, D.fix, Int.reduceToNat, Nat.reduceMul, Nat.reduceBNe, Nat.reduceBEq, zby, zb1, zao, zaj, zcg, za7, zgv, zoy, zsl]
 show closeA _ _ = _
 simp (disch := first | assumption | omega | (simp only [r_z, zab, zae, zap, zbb, zbk] <;> omega) | decide) only [r_c, Nat.reduceAdd, D.fix, ↓reduceIte, Nat.reduceEqDiff, zby, zb1, zao, zaj, zcg, za7, zgv]
 rfl
theorem jo6 {p q : Prop} (hq : q) (h : p = q := by
 conv => lhs; simp -dsimp -implicitDefEqProofs (disch := first | assumption | omega | (simp only [r_z] <;> omega) | decide) only [r_r, ↓reduceIte, Nat.reduceEqDiff, Nat.reduceAdd, D.fix, Int.reduceToNat, Nat.reduceMul, Nat.reduceBNe, Nat.reduceBEq, zby, zb1, zao, zaj, zcg, za7, zgv, jfr]) : p := h.mpr hq
theorem jo7 (n : Net) (s : PSt) (heads : List Head) (rooms : List Bool) (hn : NetW n) (hs : StSm s heads rooms) : zaz Try.prog 22 [zby n, .agg (zcg s), .agg [za7 heads, boolsD rooms]] (.d (.agg (zgv (zwi n s heads rooms)))) := by
 refine zaw (fn := Try.f22) (by kernel_rfl) Try.func22 rfl (Nat.le_of_ble_eq_true rfl) fun c hc hp => ?_
 refine za0 (τ' := frL [(0, .d (zby n)), (1, .d (.agg (zcg s))), (2, .d (.agg [za7 heads, boolsD rooms]))]) (by repeat (first | exact zar _ | refine zam ?_ (by first | rfl | (simp [r_f]; done) | simp [r_f, *]))) ?_
 refine szq hp (fun _ hZ => jo6 hZ) ?_
 refine zag hp zai hc rfl fun K2 hK2 => ?_
 refine jo6 ?_
 refine za1 (jvc n s heads rooms hn hs) rfl ?_
 refine jo6 ?_
 refine hK2 _ _ ?_
 refine zal ?_
 try dsimp only [zbm, zaq]
 refine zak rfl ?_
 simp -dsimp -implicitDefEqProofs (disch := first | assumption | omega | (simp only [r_z] <;> omega) | decide) only [r_r, ↓reduceIte, Nat.reduceEqDiff, Nat.reduceAdd, D.fix, Int.reduceToNat, Nat.reduceMul, Nat.reduceBNe, Nat.reduceBEq, zby, zb1, zao, zaj, zcg, za7, zgv, zoy, zsl]
 show closeA _ _ = _
 simp (disch := first | assumption | omega | (simp only [r_z] <;> omega) | decide) only [r_c, Nat.reduceAdd, D.fix, ↓reduceIte, Nat.reduceEqDiff, zby, zb1, zao, zaj, zcg, za7, zgv]
structure Odd where
 s : PSt
 heads : List Head
 rooms : List Bool
 v : List Int
 k : Int
 e0 : Int
 e1 : Int
def eD (n : Int) : D := .val (.int .i8 n)
def zp2 (z : Odd) : List D := [intsD z.s.regs, intssD z.s.mems, za7 z.heads, boolsD z.rooms, bytesD z.v, iD z.k, eD z.e0, eD z.e1]
def zn8 (z : Odd) : Nat → Nat
 | 0 => z.s.regs.length + z.s.mems.length + z.heads.length + z.rooms.length + z.v.length
 | k + 1 => zn8 z k + (nth z.s.mems k).length
theorem zlv (z : Odd) : ∀ {d k : Nat}, zn8 z k ≤ zn8 z (k + d)
 | 0, k => Nat.le_refl _
 | d + 1, k => Nat.le_trans (zlv z (d := d)) (by rw [show k + (d + 1) = (k + d) + 1 by omega, zn8]; omega)
theorem jfs {z : Odd} {k n : Nat} (h : k < n) : (nth z.s.mems k).length + zn8 z 0 ≤ zn8 z n := by
 have h1 := zlv z (d := n - (k + 1)) (k := k + 1)
 rw [show k + 1 + (n - (k + 1)) = n by omega, zn8] at h1
 have h2 := zlv z (d := k) (k := 0)
 rw [Nat.zero_add] at h2
 omega
theorem jft {p q : Prop} (hq : q) (h : p = q := by
 conv => lhs; simp -dsimp -implicitDefEqProofs (disch := first | assumption | omega | (simp only [r_z] <;> omega) | decide) only [r_r, ↓reduceIte, Nat.reduceEqDiff, Nat.reduceAdd, D.fix, Int.reduceToNat, Nat.reduceMul, Nat.reduceBNe, Nat.reduceBEq, zp2, za7, eD, jfr]) : p := h.mpr hq
theorem ya7 {m : List Nat} {τ τ' : Fr} {H H' : zad} (h2 : H = H') (h : zgu τ τ' := by
 repeat (first | exact zar _ | refine zam ?_ (by first | rfl | (simp [r_f]; done) | simp [r_f, *]))) : Rt m τ H τ' H' := Rt.end h h2
theorem jjo (z : Odd) (hb : zn8 z z.s.mems.length ≤ 1000000000) : zaz Try.prog 10 [.agg (zp2 z)] (.d (oD (decide (zn8 z z.s.mems.length ≤ 200)))) := by
 have h0 := zlv z (d := z.s.mems.length) (k := 0)
 rw [Nat.zero_add, zn8] at h0
 have hc0 : ((z.s.regs.length : Int) + z.s.mems.length + z.heads.length + z.rooms.length + z.v.length) = ((zn8 z 0 : Nat) : Int) := by rw [zn8]; simp
 refine zaw (fn := Try.f10) (by kernel_rfl) Try.func10 rfl (Nat.le_of_ble_eq_true rfl) fun c hc hp => ?_
 refine za0 (τ' := frL [(0, .d (.agg (zp2 z)))]) (by repeat (first | exact zar _ | refine zam ?_ (by first | rfl | (simp [r_f]; done) | simp [r_f, *]))) ?_
 refine szq hp (fun _ hZ => jft hZ) ?_
 refine szq hp (fun _ hZ => jft hZ) ?_
 refine zaa fun K3 hK3 => ?_
 refine zag hp zai hc rfl fun K4 hK4 => ?_
 simp -dsimp -implicitDefEqProofs (disch := first | assumption | omega | (simp only [r_z] <;> omega) | decide) only [r_r, ↓reduceIte, Nat.reduceEqDiff, Nat.reduceAdd, D.fix, Int.reduceToNat, Nat.reduceMul, Nat.reduceBNe, Nat.reduceBEq, zp2, za7, eD]
 refine hK4 _ _ ?_
 refine zac ?_
 refine zan hp (fun τ' H' mm => ∃ (k : Nat), (k ≤ z.s.mems.length) ∧ mm = z.s.mems.length - k ∧ H' = [.cells (avs (zp2 z))] ∧ τ' = frL [(1, .op 0 0), (3, .d (iD (zn8 z k))), (4, .d (iD k))]) (z.s.mems.length) ?_ ⟨0, Nat.zero_le _, rfl, rfl, rfl⟩ ?_
 ·refine ya7 ?_
  simp only [r_g, Nat.reduceAdd, ↓reduceIte, Nat.reduceEqDiff, zp2, za7, eD]; rfl
 rintro τ' H' mm ⟨k, hk, rfl, rfl, rfl⟩
 refine zaa fun K5 hK5 => ?_
 refine szq hp (fun _ hZ => jft hZ) ?_
 refine zah rfl (fun ht => ?_) (fun ht => ?_)
 ·have hlt : k < z.s.mems.length := by simp at ht; omega
  have h1 := zlv z (d := z.s.mems.length - k) (k := k)
  rw [show k + (z.s.mems.length - k) = z.s.mems.length by omega] at h1
  have h2 := jfs (z := z) hlt
  have hcN : ((zn8 z k : Nat) : Int) + ((nth z.s.mems k).length : Nat) = ((zn8 z (k + 1) : Nat) : Int) := by rw [zn8]; simp
  refine zaf (hK5 _ _ ?_)
  refine zaa fun K7 hK7 => ?_
  refine zac ?_
  refine za5 hp zai hc rfl fun K8 hK8 => ?_
  simp -dsimp -implicitDefEqProofs (disch := first | assumption | omega | (simp only [r_z] <;> omega) | decide) only [r_r, ↓reduceIte, Nat.reduceEqDiff, Nat.reduceAdd, D.fix, Int.reduceToNat, Nat.reduceMul, Nat.reduceBNe, Nat.reduceBEq, zp2, za7, eD, zay, jfr]
  refine hK8 _ _ (hK7 _ _ ?_)
  refine za5 hp zai hc rfl fun K9 hK9 => ?_
  refine jft ?_
  refine hK9 _ _ ⟨_, _, _, ?_, ⟨k + 1, by omega, rfl, rfl, rfl⟩, ?_⟩
  ·first | omega | (simp only [List.length_cons]; omega) | (dsimp only; omega)
  ·refine ya7 ?_
   first | rfl | (simp only [r_g, Nat.reduceAdd, ↓reduceIte, Nat.reduceEqDiff, zp2, za7, eD]; first | done | rfl)
 ·have hkk : k = z.s.mems.length := by simp at ht; omega
  subst hkk
  refine zau (hK3 _ _ ?_)
  refine szq hp (fun _ hZ => jft hZ) ?_
  refine zal ?_
  show closeA _ _ = _
  simp (disch := first | assumption | omega | (simp only [r_z] <;> omega) | decide) only [r_c, Nat.reduceAdd, D.fix, ↓reduceIte, Nat.reduceEqDiff, zp2, za7, eD]
  simp; omega
end Go.Proofs.Ytapjobndmmkanaa
