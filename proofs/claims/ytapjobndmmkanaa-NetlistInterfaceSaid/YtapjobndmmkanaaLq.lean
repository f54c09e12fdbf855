/- The law NetlistInterface. -/
import Derived.Test.YtapjobndmmkanaaQr
import Derived.Test.YtapjobndmmkanaaLn
set_option linter.unusedVariables false
set_option linter.unusedSimpArgs false
set_option maxRecDepth 100000
set_option maxHeartbeats 4000000
namespace Go.Proofs.Ytapjobndmmkanaa
open Go Go.RowKit
theorem zo5 : ((((((type_of% @zjy) ∧ ((type_of% @zew) ∧ (type_of% @zex))) ∧ (((type_of% @zmq) ∧ (type_of% @zfa)) ∧ ((type_of% @zgs) ∧ (type_of% @zgt)))) ∧ (((type_of% @zmp) ∧ ((type_of% @zf0) ∧ (type_of% @zf1))) ∧ (((type_of% @zg7) ∧ (type_of% @jbn)) ∧ ((type_of% @zfs) ∧ (type_of% @zim))))) ∧ ((((type_of% @zdl) ∧ ((type_of% @zjp) ∧ (type_of% @zjq))) ∧ (((type_of% @zmr) ∧ (type_of% @zeo)) ∧ ((type_of% @zzv) ∧ (type_of% @znu)))) ∧ (((type_of% @znv) ∧ ((type_of% @znw) ∧ (type_of% @zzt))) ∧ (((type_of% @zd6) ∧ (type_of% @zk3)) ∧ ((type_of% @zmt) ∧ (type_of% @zmu)))))) ∧ (((((type_of% @zgb) ∧ ((type_of% @zd7) ∧ (type_of% @zk4))) ∧ (((type_of% @zk5) ∧ (type_of% @zmv)) ∧ ((type_of% @znq) ∧ (type_of% @zfb)))) ∧ (((type_of% @zk1) ∧ ((type_of% @zk2) ∧ (type_of% @zms))) ∧ (((type_of% @zga) ∧ (type_of% @zph)) ∧ ((type_of% @zto) ∧ (type_of% @jjr))))) ∧ ((((type_of% @jnb) ∧ ((type_of% @jnc) ∧ (type_of% @zmw))) ∧ (((type_of% @zoq) ∧ (type_of% @zpl)) ∧ ((type_of% @zgv) ∧ (type_of% @zpj)))) ∧ ((((type_of% @zpk) ∧ (type_of% @zgu)) ∧ ((type_of% @zcq) ∧ (type_of% @zgr))) ∧ (((type_of% @ze9) ∧ (type_of% @zd1)) ∧ ((type_of% @zey) ∧ (type_of% @zc2))))))) := ⟨⟨⟨⟨⟨@zjy, ⟨@zew, @zex⟩⟩, ⟨⟨@zmq, @zfa⟩, ⟨@zgs, @zgt⟩⟩⟩, ⟨⟨@zmp, ⟨@zf0, @zf1⟩⟩, ⟨⟨@zg7, @jbn⟩, ⟨@zfs, @zim⟩⟩⟩⟩, ⟨⟨⟨@zdl, ⟨@zjp, @zjq⟩⟩, ⟨⟨@zmr, @zeo⟩, ⟨@zzv, @znu⟩⟩⟩, ⟨⟨@znv, ⟨@znw, @zzt⟩⟩, ⟨⟨@zd6, @zk3⟩, ⟨@zmt, @zmu⟩⟩⟩⟩⟩, ⟨⟨⟨⟨@zgb, ⟨@zd7, @zk4⟩⟩, ⟨⟨@zk5, @zmv⟩, ⟨@znq, @zfb⟩⟩⟩, ⟨⟨@zk1, ⟨@zk2, @zms⟩⟩, ⟨⟨@zga, @zph⟩, ⟨@zto, @jjr⟩⟩⟩⟩, ⟨⟨⟨@jnb, ⟨@jnc, @zmw⟩⟩, ⟨⟨@zoq, @zpl⟩, ⟨@zgv, @zpj⟩⟩⟩, ⟨⟨⟨@zpk, @zgu⟩, ⟨@zcq, @zgr⟩⟩, ⟨⟨@ze9, @zd1⟩, ⟨@zey, @zc2⟩⟩⟩⟩⟩⟩
def ybp (ws : List Wire) (kind i : Int) (w : Nat) (x : AV) (S' : zae) : Prop := ∃ z : Unit, x = .os 3 1 0 (ws.length + w) ∧ S' = [.dead, .cells (avs ((ws ++ zb2 kind i w).flatMap za2))]
theorem zh9 {p q : Prop} (hq : q) (h : p = q := by
 conv => lhs; simp -dsimp -implicitDefEqProofs (disch := first | assumption | omega | (simp only [r_z, zab, zaz] <;> omega) | decide) only [r_r, ↓reduceIte, Nat.reduceEqDiff, Nat.reduceAdd, D.fix, Int.reduceToNat, Nat.reduceMul, Nat.reduceBNe, Nat.reduceBEq, za2, zo5]) : p := h.mpr hq
theorem jco {p q : Prop} (hq : q) (h : p = q := by
 conv => lhs; simp -dsimp -implicitDefEqProofs (disch := first | assumption | omega | (simp only [r_z, zab, zaz] <;> omega) | decide) only [r_r, ↓reduceIte, Nat.reduceEqDiff, Nat.reduceAdd, D.fix, Int.reduceToNat, Nat.reduceMul, Nat.reduceBNe, Nat.reduceBEq, za2]) : p := h.mpr hq
theorem jcu {m : List Nat} {τ τ' : Fr} {H H' : zae} (h2 : H = H') (h : zfq τ τ' := by
 repeat (first | exact zas _ | refine zao ?_ (by first | rfl | (simp [r_f, zab, zaz]; done) | simp [r_f, zab, zaz, *]))) : Rt m τ H τ' H' := Rt.end h h2
theorem zpa (k : List Nat) {m : List Nat} {τ τ1 : Fr} {H H1 : zae} (h : Rt m (fun t => gcV k (τ t)) (gcH k H) τ1 H1) (a : ∀ i ∈ m, k[i]? = some i := by decide) (b : k.Nodup := by decide) (c : ∀ i ∈ k, i < H.length := by
 simp [fzH, gcH]) : Rt m τ H τ1 H1 := Rt.trans (Rt.gc a b c) h
theorem jth {p : Prop} (h : p := by
 first | rfl | (simp only [r_g, Nat.reduceAdd, ↓reduceIte, Nat.reduceEqDiff, za2]; first | done | rfl)) : p := h
theorem jti {p q : Prop} (hq : q) (h : p = q := by
 conv => lhs; simp only [r_g, Nat.reduceAdd, ↓reduceIte, Nat.reduceEqDiff, za2]) : p := h.mpr hq
theorem zhr (ws : List Wire) (kind i : Int) (w : Nat) (h0 : 1 ≤ w) (h1 : w ≤ 1000) (hl : ws.length ≤ 100000) : ScS Try.prog [0] 62 [.os 3 0 0 ws.length, .agg [.d (iD kind), .d (iD i), .d (iD w)]] ([.cells (avs (ws.flatMap za2)), .free]) (ybp ws kind i w) := by
 refine zbh (fn := Try.f62) (by kernel_rfl) Try.func62 rfl (Nat.le_of_ble_eq_true rfl) fun c hc hp => ?_
 refine zc1 ?_
 refine szq hp (fun _ hZ => zh9 hZ) ?_
 refine zaa fun K2 hK2 => ?_
 refine szq hp (fun _ hZ => jco hZ) ?_
 refine zaf ?_
 refine zan hp (fun τ' H' mm => ∃ (k : Nat) (o0 o1 : AObj) (x0 : AV), (k ≤ w ∧ ((k = 0 ∧ o0 = .cells (avs (ws.flatMap za2)) ∧ o1 = .free ∧ x0 = .os 3 0 0 ws.length) ∨ (1 ≤ k ∧ o0 = .dead ∧ o1 = .cells (avs ((ws ++ zb2 kind i k).flatMap za2)) ∧ x0 = .os 3 1 0 (ws.length + k)))) ∧ mm = w - k ∧ H' = [o0, o1, .cells [.d (iD kind), .d (iD i), .d (iD w)]] ∧ τ' = frL [(0, x0), (3, .op 2 0), (5, .d (iD k))]) (w) ?_ ⟨0, .cells (avs (ws.flatMap za2)), .free, .os 3 0 0 ws.length, ⟨Nat.zero_le _, .inl ⟨rfl, rfl, rfl, rfl⟩⟩, rfl, rfl, rfl⟩ ?_
 ·refine jcu ?_
  exact jth
 rintro τ' H' mm ⟨k, o0, o1, x0, ⟨hk, hc0⟩, rfl, rfl, rfl⟩
 refine zaa fun K4 hK4 => ?_
 refine szq hp (fun _ hZ => zh9 hZ) ?_
 refine zal rfl (fun ht => ?_) (fun ht => ?_)
 ·have hlt : k < w := by simp at ht; omega
  have hws : ws ++ zb2 kind i (k + 1) = (ws ++ zb2 kind i k) ++ [⟨kind, i, (k : Int)⟩] := by rw [zgj, List.append_assoc]
  refine zaj (hK4 _ _ ?_)
  refine zaa fun K6 hK6 => ?_
  refine zaf ?_
  refine za1 hp zak hc rfl fun K7 hK7 => ?_
  rcases hc0 with ⟨rfl, rfl, rfl, rfl⟩ | ⟨hk1, rfl, rfl, rfl⟩
  ·refine zh9 ?_
   refine hK7 _ _ (hK6 _ _ ?_)
   refine za1 hp zak hc rfl fun K8 hK8 => ?_
   refine zh9 ?_
   refine hK8 _ _ ⟨_, _, _, ?_, ⟨0 + 1, .dead, _, _, ⟨by omega, .inr ⟨Nat.le_refl _, rfl, rfl, rfl⟩⟩, rfl, rfl, rfl⟩, ?_⟩
   ·first | omega | (simp only [List.length_cons]; omega) | (dsimp only; omega)
   ·refine zpa [0, 4, 2] ?_
    refine jcu ?_
    refine jti ?_; rw [hws]; simp [zb2, avs, iD, za2]
  ·refine zh9 ?_
   refine hK7 _ _ (hK6 _ _ ?_)
   refine za1 hp zak hc rfl fun K9 hK9 => ?_
   refine zh9 ?_
   refine hK9 _ _ ⟨_, _, _, ?_, ⟨k + 1, .dead, _, _, ⟨by omega, .inr ⟨by omega, rfl, rfl, rfl⟩⟩, rfl, rfl, rfl⟩, ?_⟩
   ·first | omega | (simp only [List.length_cons]; omega) | (dsimp only; omega)
   ·refine zpa [0, 4, 2] ?_
    refine jcu ?_
    refine jti ?_; rw [hws]; simp [avs, iD, za2]
 ·have hkk : k = w := by simp at ht; omega
  subst hkk
  obtain ⟨rfl, rfl, rfl⟩ : o0 = .dead ∧ o1 = .cells (avs ((ws ++ zb2 kind i k).flatMap za2)) ∧ x0 = .os 3 1 0 (ws.length + k) := by
   rcases hc0 with ⟨e, _⟩ | ⟨_, h⟩
   ·omega
   ·exact h
  refine zau (hK2 _ _ ?_)
  refine szq hp (fun _ hZ => jco hZ) ?_
  refine zat hp (τ' := frL [(4, .os 3 1 0 (ws.length + k))]) (H' := [.dead, .cells (avs ((ws ++ zb2 kind i k).flatMap za2))]) ?_ ?_
  ·refine zpa [0, 1] ?_
   refine jcu ?_
   exact jth
  refine zam ?_
  refine zap (t := 4) rfl ?_
  show ∃ _, _
  exact ⟨(), rfl, rfl⟩
def ygn (ws : List Wire) (kind i : Int) (w : Nat) (x : AV) (S' : zae) : Prop := ∃ z : Unit, x = .os 3 2 0 (ws.length + w) ∧ S' = [.dead, .dead, .cells (avs ((ws ++ zb2 kind i w).flatMap za2))]
theorem zr1 (ws : List Wire) (kind i : Int) (w : Nat) (h0 : 1 ≤ w) (h1 : w ≤ 1000) (hl : ws.length ≤ 100000) : ScS Try.prog [0, 1] 62 [.os 3 1 0 ws.length, .agg [.d (iD kind), .d (iD i), .d (iD w)]] ([.dead, .cells (avs (ws.flatMap za2)), .free]) (ygn ws kind i w) := by
 refine zbh (fn := Try.f62) (by kernel_rfl) Try.func62 rfl (Nat.le_of_ble_eq_true rfl) fun c hc hp => ?_
 refine zc1 ?_
 refine szq hp (fun _ hZ => zh9 hZ) ?_
 refine zaa fun K2 hK2 => ?_
 refine szq hp (fun _ hZ => jco hZ) ?_
 refine zaf ?_
 refine zan hp (fun τ' H' mm => ∃ (k : Nat) (o0 o1 : AObj) (x0 : AV), (k ≤ w ∧ ((k = 0 ∧ o0 = .cells (avs (ws.flatMap za2)) ∧ o1 = .free ∧ x0 = .os 3 1 0 ws.length) ∨ (1 ≤ k ∧ o0 = .dead ∧ o1 = .cells (avs ((ws ++ zb2 kind i k).flatMap za2)) ∧ x0 = .os 3 2 0 (ws.length + k)))) ∧ mm = w - k ∧ H' = [.dead, o0, o1, .cells [.d (iD kind), .d (iD i), .d (iD w)]] ∧ τ' = frL [(0, x0), (3, .op 3 0), (5, .d (iD k))]) (w) ?_ ⟨0, .cells (avs (ws.flatMap za2)), .free, .os 3 1 0 ws.length, ⟨Nat.zero_le _, .inl ⟨rfl, rfl, rfl, rfl⟩⟩, rfl, rfl, rfl⟩ ?_
 ·refine jcu ?_
  exact jth
 rintro τ' H' mm ⟨k, o0, o1, x0, ⟨hk, hc0⟩, rfl, rfl, rfl⟩
 refine zaa fun K4 hK4 => ?_
 refine szq hp (fun _ hZ => zh9 hZ) ?_
 refine zal rfl (fun ht => ?_) (fun ht => ?_)
 ·have hlt : k < w := by simp at ht; omega
  have hws : ws ++ zb2 kind i (k + 1) = (ws ++ zb2 kind i k) ++ [⟨kind, i, (k : Int)⟩] := by rw [zgj, List.append_assoc]
  refine zaj (hK4 _ _ ?_)
  refine zaa fun K6 hK6 => ?_
  refine zaf ?_
  refine za1 hp zak hc rfl fun K7 hK7 => ?_
  rcases hc0 with ⟨rfl, rfl, rfl, rfl⟩ | ⟨hk1, rfl, rfl, rfl⟩
  ·refine zh9 ?_
   refine hK7 _ _ (hK6 _ _ ?_)
   refine za1 hp zak hc rfl fun K8 hK8 => ?_
   refine zh9 ?_
   refine hK8 _ _ ⟨_, _, _, ?_, ⟨0 + 1, .dead, _, _, ⟨by omega, .inr ⟨Nat.le_refl _, rfl, rfl, rfl⟩⟩, rfl, rfl, rfl⟩, ?_⟩
   ·first | omega | (simp only [List.length_cons]; omega) | (dsimp only; omega)
   ·refine zpa [0, 1, 5, 3] ?_
    refine jcu ?_
    refine jti ?_; rw [hws]; simp [zb2, avs, iD, za2]
  ·refine zh9 ?_
   refine hK7 _ _ (hK6 _ _ ?_)
   refine za1 hp zak hc rfl fun K9 hK9 => ?_
   refine zh9 ?_
   refine hK9 _ _ ⟨_, _, _, ?_, ⟨k + 1, .dead, _, _, ⟨by omega, .inr ⟨by omega, rfl, rfl, rfl⟩⟩, rfl, rfl, rfl⟩, ?_⟩
   ·first | omega | (simp only [List.length_cons]; omega) | (dsimp only; omega)
   ·refine zpa [0, 1, 5, 3] ?_
    refine jcu ?_
    refine jti ?_; rw [hws]; simp [avs, iD, za2]
 ·have hkk : k = w := by simp at ht; omega
  subst hkk
  obtain ⟨rfl, rfl, rfl⟩ : o0 = .dead ∧ o1 = .cells (avs ((ws ++ zb2 kind i k).flatMap za2)) ∧ x0 = .os 3 2 0 (ws.length + k) := by
   rcases hc0 with ⟨e, _⟩ | ⟨_, h⟩
   ·omega
   ·exact h
  refine zau (hK2 _ _ ?_)
  refine szq hp (fun _ hZ => jco hZ) ?_
  refine zat hp (τ' := frL [(4, .os 3 2 0 (ws.length + k))]) (H' := [.dead, .dead, .cells (avs ((ws ++ zb2 kind i k).flatMap za2))]) ?_ ?_
  ·refine zpa [0, 1, 2] ?_
   refine jcu ?_
   exact jth
  refine zam ?_
  refine zap (t := 4) rfl ?_
  show ∃ _, _
  exact ⟨(), rfl, rfl⟩
def yh7 (ws : List Wire) (kind i : Int) (w : Nat) (x : AV) (S' : zae) : Prop := ∃ z : Unit, x = .os 3 3 0 (ws.length + w) ∧ S' = [.dead, .dead, .dead, .cells (avs ((ws ++ zb2 kind i w).flatMap za2))]
theorem jlx (ws : List Wire) (kind i : Int) (w : Nat) (h0 : 1 ≤ w) (h1 : w ≤ 1000) (hl : ws.length ≤ 100000) : ScS Try.prog [0, 1, 2] 62 [.os 3 2 0 ws.length, .agg [.d (iD kind), .d (iD i), .d (iD w)]] ([.dead, .dead, .cells (avs (ws.flatMap za2)), .free]) (yh7 ws kind i w) := by
 refine zbh (fn := Try.f62) (by kernel_rfl) Try.func62 rfl (Nat.le_of_ble_eq_true rfl) fun c hc hp => ?_
 refine zc1 ?_
 refine szq hp (fun _ hZ => zh9 hZ) ?_
 refine zaa fun K2 hK2 => ?_
 refine szq hp (fun _ hZ => jco hZ) ?_
 refine zaf ?_
 refine zan hp (fun τ' H' mm => ∃ (k : Nat) (o0 o1 : AObj) (x0 : AV), (k ≤ w ∧ ((k = 0 ∧ o0 = .cells (avs (ws.flatMap za2)) ∧ o1 = .free ∧ x0 = .os 3 2 0 ws.length) ∨ (1 ≤ k ∧ o0 = .dead ∧ o1 = .cells (avs ((ws ++ zb2 kind i k).flatMap za2)) ∧ x0 = .os 3 3 0 (ws.length + k)))) ∧ mm = w - k ∧ H' = [.dead, .dead, o0, o1, .cells [.d (iD kind), .d (iD i), .d (iD w)]] ∧ τ' = frL [(0, x0), (3, .op 4 0), (5, .d (iD k))]) (w) ?_ ⟨0, .cells (avs (ws.flatMap za2)), .free, .os 3 2 0 ws.length, ⟨Nat.zero_le _, .inl ⟨rfl, rfl, rfl, rfl⟩⟩, rfl, rfl, rfl⟩ ?_
 ·refine jcu ?_
  exact jth
 rintro τ' H' mm ⟨k, o0, o1, x0, ⟨hk, hc0⟩, rfl, rfl, rfl⟩
 refine zaa fun K4 hK4 => ?_
 refine szq hp (fun _ hZ => zh9 hZ) ?_
 refine zal rfl (fun ht => ?_) (fun ht => ?_)
 ·have hlt : k < w := by simp at ht; omega
  have hws : ws ++ zb2 kind i (k + 1) = (ws ++ zb2 kind i k) ++ [⟨kind, i, (k : Int)⟩] := by rw [zgj, List.append_assoc]
  refine zaj (hK4 _ _ ?_)
  refine zaa fun K6 hK6 => ?_
  refine zaf ?_
  refine za1 hp zak hc rfl fun K7 hK7 => ?_
  rcases hc0 with ⟨rfl, rfl, rfl, rfl⟩ | ⟨hk1, rfl, rfl, rfl⟩
  ·refine zh9 ?_
   refine hK7 _ _ (hK6 _ _ ?_)
   refine za1 hp zak hc rfl fun K8 hK8 => ?_
   refine zh9 ?_
   refine hK8 _ _ ⟨_, _, _, ?_, ⟨0 + 1, .dead, _, _, ⟨by omega, .inr ⟨Nat.le_refl _, rfl, rfl, rfl⟩⟩, rfl, rfl, rfl⟩, ?_⟩
   ·first | omega | (simp only [List.length_cons]; omega) | (dsimp only; omega)
   ·refine zpa [0, 1, 2, 6, 4] ?_
    refine jcu ?_
    refine jti ?_; rw [hws]; simp [zb2, avs, iD, za2]
  ·refine zh9 ?_
   refine hK7 _ _ (hK6 _ _ ?_)
   refine za1 hp zak hc rfl fun K9 hK9 => ?_
   refine zh9 ?_
   refine hK9 _ _ ⟨_, _, _, ?_, ⟨k + 1, .dead, _, _, ⟨by omega, .inr ⟨by omega, rfl, rfl, rfl⟩⟩, rfl, rfl, rfl⟩, ?_⟩
   ·first | omega | (simp only [List.length_cons]; omega) | (dsimp only; omega)
   ·refine zpa [0, 1, 2, 6, 4] ?_
    refine jcu ?_
    refine jti ?_; rw [hws]; simp [avs, iD, za2]
 ·have hkk : k = w := by simp at ht; omega
  subst hkk
  obtain ⟨rfl, rfl, rfl⟩ : o0 = .dead ∧ o1 = .cells (avs ((ws ++ zb2 kind i k).flatMap za2)) ∧ x0 = .os 3 3 0 (ws.length + k) := by
   rcases hc0 with ⟨e, _⟩ | ⟨_, h⟩
   ·omega
   ·exact h
  refine zau (hK2 _ _ ?_)
  refine szq hp (fun _ hZ => jco hZ) ?_
  refine zat hp (τ' := frL [(4, .os 3 3 0 (ws.length + k))]) (H' := [.dead, .dead, .dead, .cells (avs ((ws ++ zb2 kind i k).flatMap za2))]) ?_ ?_
  ·refine zpa [0, 1, 2, 3] ?_
   refine jcu ?_
   exact jth
  refine zam ?_
  refine zap (t := 4) rfl ?_
  show ∃ _, _
  exact ⟨(), rfl, rfl⟩
theorem zr2 {p : Pr} (h : PrOk p) : ∀ i, i ≤ p.regs.length → (zfe p i).length ≤ 8 * i
 | 0, _ => by simp [zfe]
 | i + 1, hi => by have := zr2 h i (by omega); have := (jh6 h (show i < p.regs.length by omega)).2; rw [zfe, List.length_append, zaz]; omega
theorem zr3 {p : Pr} (h : PrOk p) : ∀ i, i ≤ p.takes.length → (ze3 p i).length ≤ 800 + 9 * i
 | 0, _ => by have := zr2 h _ (Nat.le_refl _); have := h.rl; rw [ze3]; omega
 | i + 1, hi => by have := zr3 h i (by omega); have := (jr8 h (show i < p.takes.length by omega)).2; rw [ze3, List.length_append, List.length_append, zaz, zaz]; omega
theorem jaz {p : Pr} (h : PrOk p) : ∀ i, i ≤ p.puts.length → (zfz p i).length ≤ 1700 + i
 | 0, _ => by have := zr3 h _ (Nat.le_refl _); have := h.tl; rw [zfz]; omega
 | i + 1, hi => by have := jaz h i (by omega); rw [zfz, List.length_append, zaz]; omega
theorem zpt {p q : Prop} (hq : q) (h : p = q := by
 conv => lhs; simp -dsimp -implicitDefEqProofs (disch := first | assumption | omega | (simp only [r_z, za7, zbb, zbc, zab, zaz] <;> omega) | decide) only [r_r, ↓reduceIte, Nat.reduceEqDiff, Nat.reduceAdd, D.fix, Int.reduceToNat, Nat.reduceMul, Nat.reduceBNe, Nat.reduceBEq, sD, zbq, zar, zay, zo5]) : p := h.mpr hq
theorem jsd {m : List Nat} {τ τ' : Fr} {H H' : zae} (h2 : H = H') (h : zfq τ τ' := by
 repeat (first | exact zas _ | refine zao ?_ (by first | rfl | (simp [r_f, za7, zbb, zbc, zab, zaz]; done) | simp [r_f, za7, zbb, zbc, zab, zaz, *]))) : Rt m τ H τ' H' := Rt.end h h2
theorem jly {p q : Prop} (hq : q) (h : p = q := by
 conv => lhs; simp -dsimp -implicitDefEqProofs (disch := first | assumption | omega | (simp only [r_z, za7, zbb, zbc, zab, zaz] <;> omega) | decide) only [r_r, ↓reduceIte, Nat.reduceEqDiff, Nat.reduceAdd, D.fix, Int.reduceToNat, Nat.reduceMul, Nat.reduceBNe, Nat.reduceBEq, sD, zbq, zar, zay]) : p := h.mpr hq
theorem jz3 {p q : Prop} (hq : q) (h : p = q := by
 conv => lhs; simp -dsimp -implicitDefEqProofs (disch := first | assumption | omega | (simp only [r_z, za7, zbb, zbc, zab, zaz] <;> omega) | decide) only [r_r, ↓reduceIte, Nat.reduceEqDiff, Nat.reduceAdd, D.fix, Int.reduceToNat, Nat.reduceMul, Nat.reduceBNe, Nat.reduceBEq, sD, zbq, zar, zay, jr3, zo5]) : p := h.mpr hq
theorem jtj {P : Program} {sm : List Nat} {N : Nat} {τ : Fr} {H : zae} {f : FuncId} {args : List AV} {K0 KK : AV → zae → Prop} {ks : List Nat} (S T : zae) (h : ScS P ks f args S K0) (hK : ∀ x S', K0 x S' → S'.length = S.length ∧ KK x (S' ++ T)) (hH : H = S ++ T := by
 rfl) (hm : sm.all (okI ks S.length) = true := by
 first | rfl | (simp [AV.allIs, AV.allI, zaq, zah, zai, okI, ltI, zad, zax, zbe]; done) | (intro o ho; simp at ho; done)) (hτ : ∀ t, (τ t).allI (okI ks S.length) = true := by
 exact fun t => zbi (by first | rfl | (simp [AV.allIs, AV.allI, zaq, zah, zai, okI, ltI, zad, zax, zbe]; done) | (intro o ho; simp at ho; done)) t) (ha : AV.allIs (ltI S.length) args = true := by
 first | rfl | (simp [AV.allIs, AV.allI, zaq, zah, zai, okI, ltI, zad, zax, zbe]; done) | (intro o ho; simp at ho; done)) (hS : ∀ o ∈ S, o.allI (ltI S.length) = true := by
 first | rfl | (simp [AV.allIs, AV.allI, zaq, zah, zai, okI, ltI, zad, zax, zbe]; done) | (intro o ho; simp at ho; done)) (hT : ∀ o ∈ T, o.allI (okI ks S.length) = true := by
 first | rfl | (simp [AV.allIs, AV.allI, zaq, zah, zai, okI, ltI, zad, zax, zbe]; done) | (intro o ho; simp at ho; done)) : kC P sm N H τ (.d (.val (.func (.func f) #[] #[]))) args true (tg KK) := zjo h hH hm hτ ha hS hT hK
theorem jse {p q : Prop} (hq : q) (h : p = q := by
 conv => lhs; simp -dsimp -implicitDefEqProofs (disch := first | assumption | omega | (simp only [r_z, za7, zbb, zbc, zab, zaz] <;> omega) | decide) only [r_r, ↓reduceIte, Nat.reduceEqDiff, Nat.reduceAdd, D.fix, Int.reduceToNat, Nat.reduceMul, Nat.reduceBNe, Nat.reduceBEq, sD, zbq, zar, zay, yd8, zo5]) : p := h.mpr hq
theorem ybq {p : Prop} (h : p := by
 first | rfl | (simp only [r_g, Nat.reduceAdd, ↓reduceIte, Nat.reduceEqDiff, sD, zbq, zar, zay]; first | done | rfl)) : p := h
theorem jia {p q : Prop} (hq : q) (h : p = q := by
 conv => lhs; simp only [r_g, Nat.reduceAdd, ↓reduceIte, Nat.reduceEqDiff, sD, zbq, zar, zay]) : p := h.mpr hq
theorem zuv (p : Pr) (h : PrOk p) : zbg Try.prog 32 [zbq p] (.d (zay (zfi p))) := by
 have hrl := h.rl; have htl := h.tl; have hql := h.ql
 refine za4 (fn := Try.f32) (by kernel_rfl) Try.func32 rfl (Nat.le_of_ble_eq_true rfl) fun c hc hp => ?_
 refine za9 (τ' := frL [(0, .d (zbq p))]) (by repeat (first | exact zas _ | refine zao ?_ (by first | rfl | (simp [r_f, za7, zbb, zbc, zab, zaz]; done) | simp [r_f, za7, zbb, zbc, zab, zaz, *]))) ?_
 refine szq hp (fun _ hZ => zpt hZ) ?_
 refine szq hp (fun _ hZ => zpt hZ) ?_
 refine zaa fun K3 hK3 => ?_
 refine zat hp (τ' := frL [(1, .op 2 0), (3, .os 3 0 0 0)]) (H' := [.cells [], .free, .cells (avs (zar p))]) ?_ ?_
 ·refine Rt.trans (Rt.fr1) ?_
  refine zpa [1,2,0] ?_
  refine jsd ?_
  exact ybq
 refine szq hp (fun _ hZ => jly hZ) ?_
 refine zaf ?_
 refine zan hp (fun τ' H' mm => ∃ (i : Nat), (i ≤ p.regs.length) ∧ mm = p.regs.length - i ∧ H' = [.cells (avs ((zfe p i).flatMap za2)), .free, .cells (avs (zar p))] ∧ τ' = frL [(1, .op 2 0), (3, .os 3 0 0 (zfe p i).length), (4, .d (iD i))]) (p.regs.length) ?_ ⟨0, Nat.zero_le _, rfl, rfl, rfl⟩ ?_
 ·refine jsd ?_
  exact ybq
 rintro τ' H' mm ⟨i, hi, rfl, rfl, rfl⟩
 refine zaa fun K5 hK5 => ?_
 refine szq hp (fun _ hZ => zpt hZ) ?_
 refine zal rfl (fun ht => ?_) (fun ht => ?_)
 ·have hlt : i < p.regs.length := by simp at ht; omega
  have hw := jh6 h hlt
  have hle := zr2 h i hi
  have hcb := zhr (zfe p i) 1 i (nth p.regs i).w hw.1 (by omega) (by omega)
  have hst : zfe p (i + 1) = zfe p i ++ zb2 1 i (nth p.regs i).w := rfl
  have hsl : (zfe p i ++ zb2 1 i (nth p.regs i).w).length = (zfe p i).length + (nth p.regs i).w := by rw [List.length_append, zaz]
  refine zaj (hK5 _ _ ?_)
  refine zaa fun K7 hK7 => ?_
  refine zaf ?_
  refine za1 hp zak hc rfl fun K8 hK8 => ?_
  refine jz3 ?_
  refine jtj ([.cells (avs ((zfe p i).flatMap za2)), .free]) ([.cells (avs (zar p))]) (hcb) ?_
  rintro _ _ ⟨z, rfl, rfl⟩
  refine ⟨rfl, ?_⟩
  refine jz3 ?_
  refine hK8 _ _ (hK7 _ _ ?_)
  refine za1 hp zak hc rfl fun K9 hK9 => ?_
  refine zpt ?_
  refine hK9 _ _ ⟨_, _, _, ?_, ⟨i + 1, by omega, rfl, rfl, rfl⟩, ?_⟩
  ·first | omega | (simp only [List.length_cons]; omega) | (dsimp only; omega)
  ·refine Rt.trans (Rt.fr1) ?_
   refine zpa [1,3,2] ?_
   refine jsd ?_
   refine jia ?_; rw [hst]
 ·have hii : i = p.regs.length := by simp at ht; omega
  subst hii
  refine zau (hK3 _ _ ?_)
  refine zaa fun K10 hK10 => ?_
  refine szq hp (fun _ hZ => jly hZ) ?_
  refine zaf ?_
  refine zan hp (fun τ' H' mm => ∃ (i : Nat), (i ≤ p.takes.length) ∧ mm = p.takes.length - i ∧ H' = [.cells (avs ((ze3 p i).flatMap za2)), .free, .free, .cells (avs (zar p))] ∧ τ' = frL [(1, .op 3 0), (3, .os 3 0 0 (ze3 p i).length), (5, .d (iD i))]) (p.takes.length) ?_ ⟨0, Nat.zero_le _, rfl, rfl, rfl⟩ ?_
  ·refine Rt.trans (Rt.fr1) ?_
   refine zpa [0,1,3,2] ?_
   refine jsd ?_
   refine jia ?_; simp [ze3]
  rintro τ' H' mm ⟨i, hi, rfl, rfl, rfl⟩
  refine zaa fun K12 hK12 => ?_
  refine szq hp (fun _ hZ => zpt hZ) ?_
  refine zal rfl (fun ht => ?_) (fun ht => ?_)
  ·have hlt : i < p.takes.length := by simp at ht; omega
   have hw := jr8 h hlt
   have hle := zr3 h i hi
   have hcb := zhr (ze3 p i) 2 i (nth p.takes i).w hw.1 (by omega) (by omega)
   obtain ⟨A, hA⟩ : ∃ A, A = ze3 p i ++ zb2 2 i (nth p.takes i).w := ⟨_, rfl⟩
   have hAl : A.length = (ze3 p i).length + (nth p.takes i).w := by rw [hA, List.length_append, zaz]
   unfold ybp at hcb
   rw [← hA, ← hAl] at hcb
   have hcc := zr1 A 3 i 1 (Nat.le_refl _) (by decide) (by omega)
   have hst : ze3 p (i + 1) = A ++ zb2 3 i 1 := by rw [hA]; rfl
   have hsl : (A ++ zb2 3 i 1).length = A.length + 1 := by rw [List.length_append, zaz]
   clear hA
   refine zaj (hK12 _ _ ?_)
   refine zaa fun K14 hK14 => ?_
   refine zaf ?_
   refine za1 hp zak hc rfl fun K15 hK15 => ?_
   refine jse ?_
   refine jtj ([.cells (avs ((ze3 p i).flatMap za2)), .free]) ([.free, .cells (avs (zar p))]) (hcb) ?_
   rintro _ _ ⟨z, rfl, rfl⟩
   refine ⟨rfl, ?_⟩
   refine jse ?_
   refine jtj ([.dead, .cells (avs (A.flatMap za2)), .free]) ([.cells (avs (zar p))]) (hcc) ?_
   rintro _ _ ⟨z, rfl, rfl⟩
   refine ⟨rfl, ?_⟩
   refine jse ?_
   refine hK15 _ _ (hK14 _ _ ?_)
   refine za1 hp zak hc rfl fun K16 hK16 => ?_
   refine zpt ?_
   refine hK16 _ _ ⟨_, _, _, ?_, ⟨i + 1, by omega, rfl, rfl, rfl⟩, ?_⟩
   ·first | omega | (simp only [List.length_cons]; omega) | (dsimp only; omega)
   ·refine Rt.trans (Rt.fr1) ?_
    refine Rt.trans (Rt.fr1) ?_
    refine zpa [2,4,5,3] ?_
    refine jsd ?_
    refine jia ?_; rw [hst]
  ·have hii : i = p.takes.length := by simp at ht; omega
   subst hii
   refine zau (hK10 _ _ ?_)
   refine zaa fun K17 hK17 => ?_
   refine szq hp (fun _ hZ => jly hZ) ?_
   refine zaf ?_
   refine zan hp (fun τ' H' mm => ∃ (i : Nat), (i ≤ p.puts.length) ∧ mm = p.puts.length - i ∧ H' = [.cells (avs ((zfz p i).flatMap za2)), .free, .cells (avs (zar p))] ∧ τ' = frL [(1, .op 2 0), (3, .os 3 0 0 (zfz p i).length), (6, .d (iD i))]) (p.puts.length) ?_ ⟨0, Nat.zero_le _, rfl, rfl, rfl⟩ ?_
   ·refine zpa [0,1,3] ?_
    refine jsd ?_
    refine jia ?_; simp [zfz]
   rintro τ' H' mm ⟨i, hi, rfl, rfl, rfl⟩
   refine zaa fun K19 hK19 => ?_
   refine szq hp (fun _ hZ => zpt hZ) ?_
   refine zal rfl (fun ht => ?_) (fun ht => ?_)
   ·have hlt : i < p.puts.length := by simp at ht; omega
    have hle := jaz h i hi
    have hcb := zhr (zfz p i) 4 i 1 (Nat.le_refl _) (by decide) (by omega)
    have hst : zfz p (i + 1) = zfz p i ++ zb2 4 i 1 := rfl
    have hsl : (zfz p i ++ zb2 4 i 1).length = (zfz p i).length + 1 := by rw [List.length_append, zaz]
    refine zaj (hK19 _ _ ?_)
    refine zaa fun K21 hK21 => ?_
    refine zaf ?_
    refine za1 hp zak hc rfl fun K22 hK22 => ?_
    refine zpt ?_
    refine jtj ([.cells (avs ((zfz p i).flatMap za2)), .free]) ([.cells (avs (zar p))]) (hcb) ?_
    rintro _ _ ⟨z, rfl, rfl⟩
    refine ⟨rfl, ?_⟩
    refine zpt ?_
    refine hK22 _ _ (hK21 _ _ ?_)
    refine za1 hp zak hc rfl fun K23 hK23 => ?_
    refine zpt ?_
    refine hK23 _ _ ⟨_, _, _, ?_, ⟨i + 1, by omega, rfl, rfl, rfl⟩, ?_⟩
    ·first | omega | (simp only [List.length_cons]; omega) | (dsimp only; omega)
    ·refine Rt.trans (Rt.fr1) ?_
     refine zpa [1,3,2] ?_
     refine jsd ?_
     refine jia ?_; rw [hst]
   ·have hii : i = p.puts.length := by simp at ht; omega
    subst hii
    refine zau (hK17 _ _ ?_)
    refine szq hp (fun _ hZ => jly hZ) ?_
    refine zam ?_
    show closeA _ _ = _
    simp (disch := first | assumption | omega | (simp only [r_z, za7, zbb, zbc, zab, zaz] <;> omega) | decide) only [r_c, Nat.reduceAdd, D.fix, ↓reduceIte, Nat.reduceEqDiff, sD, zbq, zar, zay]
    simp [zfi, zny]
section
variable {p : Pr}
theorem jz4 (h : PrOk p) {i : Nat} (hi : i < p.regs.length) : (zbu p (i + 1)).out = (zbu p i).out ++ zb2 1 i (nth p.regs i).w := by
 have hs := (zhx h hi (zeb h i (by omega))).b.wid
 rw [zbu]; simp only [hs]
theorem jz5 {i : Nat} : (zc8 p (i + 1)).out = (zc8 p i).out ++ zb2 5 i 1 := rfl
theorem jz6 (h : PrOk p) {i : Nat} (hi : i < p.puts.length) : (zc3 p (i + 1)).out = (zc3 p i).out ++ zb2 6 i 1 ++ zb2 7 i (nth p.puts i).w := by
 have hs := (zmg h hi (zhk h i (by omega))).hb.wid
 rw [zc3]; simp only [hs]; rfl
theorem jz7 (h : PrOk p) {i : Nat} (hi : i < p.mems.length) : (zcg p (i + 1)).out = (zcg p i).out ++ zb2 8 i 1 ++ zb2 9 i 3 ++ zb2 10 i (nth p.mems i).w := by
 have hs := (zmh h hi (zdy h i (by omega)) rfl rfl rfl rfl).hw.wid
 rw [zcg]; simp only [hs]; rfl
end
theorem zm4 {p q : Prop} (hq : q) (h : p = q := by
 conv => lhs; simp -dsimp -implicitDefEqProofs (disch := first | assumption | omega | (simp only [r_z, za7, zbb, zbc, zbr, zab, zaz] <;> omega) | decide) only [r_r, ↓reduceIte, Nat.reduceEqDiff, Nat.reduceAdd, D.fix, Int.reduceToNat, Nat.reduceMul, Nat.reduceBNe, Nat.reduceBEq, sD, zbq, zar, zay, zo5]) : p := h.mpr hq
theorem jlz {m : List Nat} {τ τ' : Fr} {H H' : zae} (h2 : H = H') (h : zfq τ τ' := by
 repeat (first | exact zas _ | refine zao ?_ (by first | rfl | (simp [r_f, za7, zbb, zbc, zbr, zab, zaz]; done) | simp [r_f, za7, zbb, zbc, zbr, zab, zaz, *]))) : Rt m τ H τ' H' := Rt.end h h2
theorem jib {p q : Prop} (hq : q) (h : p = q := by
 conv => lhs; simp -dsimp -implicitDefEqProofs (disch := first | assumption | omega | (simp only [r_z, za7, zbb, zbc, zbr, zab, zaz] <;> omega) | decide) only [r_r, ↓reduceIte, Nat.reduceEqDiff, Nat.reduceAdd, D.fix, Int.reduceToNat, Nat.reduceMul, Nat.reduceBNe, Nat.reduceBEq, sD, zbq, zar, zay]) : p := h.mpr hq
theorem jz8 {p q : Prop} (hq : q) (h : p = q := by
 conv => lhs; simp -dsimp -implicitDefEqProofs (disch := first | assumption | omega | (simp only [r_z, za7, zbb, zbc, zbr, zab, zaz] <;> omega) | decide) only [r_r, ↓reduceIte, Nat.reduceEqDiff, Nat.reduceAdd, D.fix, Int.reduceToNat, Nat.reduceMul, Nat.reduceBNe, Nat.reduceBEq, sD, zbq, zar, zay, jr3, zo5]) : p := h.mpr hq
theorem jic {p q : Prop} (hq : q) (h : p = q := by
 conv => lhs; simp -dsimp -implicitDefEqProofs (disch := first | assumption | omega | (simp only [r_z, za7, zbb, zbc, zbr, zab, zaz] <;> omega) | decide) only [r_r, ↓reduceIte, Nat.reduceEqDiff, Nat.reduceAdd, D.fix, Int.reduceToNat, Nat.reduceMul, Nat.reduceBNe, Nat.reduceBEq, r_w, sD, zbq, zar, zay, yd9, zo5]) : p := h.mpr hq
theorem jz9 {P : Program} {sm : List Nat} {N : Nat} {τ0 τ : Fr} {H : zae} {f : FuncId} {args : List AV} {K0 KK : AV → zae → Prop} {ks : List Nat} (S T : zae) (h : ScS P ks f args S K0) (hK : ∀ x S', K0 x S' → S'.length = S.length ∧ KK x (S' ++ T)) (hH : H = S ++ T := by
 rfl) (hN : S.length ≤ N := by
 exact Nat.le_of_ble_eq_true rfl) (hm : sm.all (okI ks S.length) = true := by
 first | rfl | (simp [AV.allIs, AV.allI, zaq, zah, zai, okI, ltI, zad, zax, zbe]; done) | (intro o ho; simp at ho; done)) (hτ : ∀ t, (τ t).allI (okI ks S.length) = true := by
 exact fun t => zbi (by first | rfl | (simp [AV.allIs, AV.allI, zaq, zah, zai, okI, ltI, zad, zax, zbe]; done) | (intro o ho; simp at ho; done)) t) (h0 : ∀ t, (τ0 t).allI (okI ks S.length) = true := by
 exact fun t => zbi (by first | rfl | (simp [AV.allIs, AV.allI, zaq, zah, zai, okI, ltI, zad, zax, zbe]; done) | (intro o ho; simp at ho; done)) t) (ha : AV.allIs (ltI S.length) args = true := by
 first | rfl | (simp [AV.allIs, AV.allI, zaq, zah, zai, okI, ltI, zad, zax, zbe]; done) | (intro o ho; simp at ho; done)) (hS : ∀ o ∈ S, o.allI (ltI S.length) = true := by
 first | rfl | (simp [AV.allIs, AV.allI, zaq, zah, zai, okI, ltI, zad, zax, zbe]; done) | (intro o ho; simp at ho; done)) (hT : ∀ o ∈ T, o.allI (okI ks S.length) = true := by
 first | rfl | (simp [AV.allIs, AV.allI, zaq, zah, zai, okI, ltI, zad, zax, zbe]; done) | (intro o ho; simp at ho; done)) : kE P sm N τ0 τ H (.d (.val (.func (.func f) #[] #[]))) args (tg KK) := zlu h hH hN hm hτ h0 ha hS hT hK
theorem ja0 {p q : Prop} (hq : q) (h : p = q := by
 conv => lhs; simp -dsimp -implicitDefEqProofs (disch := first | assumption | omega | (simp only [r_z, za7, zbb, zbc, zbr, zab, zaz] <;> omega) | decide) only [r_r, ↓reduceIte, Nat.reduceEqDiff, Nat.reduceAdd, D.fix, Int.reduceToNat, Nat.reduceMul, Nat.reduceBNe, Nat.reduceBEq, r_w, sD, zbq, zar, zay, yea, zo5]) : p := h.mpr hq
theorem zqo (p : Pr) (h : PrOk p) : zbg Try.prog 33 [zbq p] (.d (zay (ze4 p).out)) := by
 have hrl := h.rl; have htl := h.tl; have hql := h.ql; have hml := jzr h
 refine za4 (fn := Try.f33) (by kernel_rfl) Try.func33 rfl (Nat.le_of_ble_eq_true rfl) fun c hc hp => ?_
 refine za9 (τ' := frL [(0, .d (zbq p))]) (by repeat (first | exact zas _ | refine zao ?_ (by first | rfl | (simp [r_f, za7, zbb, zbc, zbr, zab, zaz]; done) | simp [r_f, za7, zbb, zbc, zbr, zab, zaz, *]))) ?_
 refine szq hp (fun _ hZ => zm4 hZ) ?_
 refine szq hp (fun _ hZ => zm4 hZ) ?_
 refine zaa fun K3 hK3 => ?_
 refine zat hp (τ' := frL [(1, .op 2 0), (3, .os 3 0 0 0)]) (H' := [.cells [], .free, .cells (avs (zar p))]) ?_ ?_
 ·refine Rt.trans (Rt.fr1) ?_
  refine zpa [1,2,0] ?_
  refine jlz ?_
  exact ybq
 refine szq hp (fun _ hZ => jib hZ) ?_
 refine zaf ?_
 refine zan hp (fun τ' H' mm => ∃ (i : Nat), (i ≤ p.regs.length) ∧ mm = p.regs.length - i ∧ H' = [.cells (avs ((zbu p i).out.flatMap za2)), .free, .cells (avs (zar p))] ∧ τ' = frL [(1, .op 2 0), (3, .os 3 0 0 (zbu p i).out.length), (4, .d (iD i))]) (p.regs.length) ?_ ⟨0, Nat.zero_le _, rfl, rfl, rfl⟩ ?_
 ·refine jlz ?_
  exact ybq
 rintro τ' H' mm ⟨i, hi, rfl, rfl, rfl⟩
 refine zaa fun K5 hK5 => ?_
 refine szq hp (fun _ hZ => zm4 hZ) ?_
 refine zal rfl (fun ht => ?_) (fun ht => ?_)
 ·have hlt : i < p.regs.length := by simp at ht; omega
  have hw := jh6 h hlt
  have hle := zrw h i hi
  obtain ⟨B, hB⟩ : ∃ B, B = (zbu p i).out := ⟨_, rfl⟩
  rw [← hB] at hle
  have hcb := zhr B 1 i (nth p.regs i).w hw.1 (by omega) (by omega)
  have hst := jz4 h hlt
  rw [← hB] at hst
  rw [← hB]
  have hsl : (B ++ zb2 1 i (nth p.regs i).w).length = B.length + (nth p.regs i).w := by rw [List.length_append, zaz]
  clear hB
  refine zaj (hK5 _ _ ?_)
  refine zaa fun K7 hK7 => ?_
  refine zaf ?_
  refine za1 hp zak hc rfl fun K8 hK8 => ?_
  refine jz8 ?_
  refine jtj ([.cells (avs (B.flatMap za2)), .free]) ([.cells (avs (zar p))]) (hcb) ?_
  rintro _ _ ⟨z, rfl, rfl⟩
  refine ⟨rfl, ?_⟩
  refine jz8 ?_
  refine hK8 _ _ (hK7 _ _ ?_)
  refine za1 hp zak hc rfl fun K9 hK9 => ?_
  refine zm4 ?_
  refine hK9 _ _ ⟨_, _, _, ?_, ⟨i + 1, by omega, rfl, rfl, rfl⟩, ?_⟩
  ·first | omega | (simp only [List.length_cons]; omega) | (dsimp only; omega)
  ·refine Rt.trans (Rt.fr1) ?_
   refine zpa [1,3,2] ?_
   refine jlz ?_
   refine jia ?_; rw [hst]
 ·have hii : i = p.regs.length := by simp at ht; omega
  subst hii
  refine zau (hK3 _ _ ?_)
  refine zaa fun K10 hK10 => ?_
  refine szq hp (fun _ hZ => jib hZ) ?_
  refine zaf ?_
  refine zan hp (fun τ' H' mm => ∃ (i : Nat), (i ≤ p.takes.length) ∧ mm = p.takes.length - i ∧ H' = [.cells (avs ((zc8 p i).out.flatMap za2)), .free, .cells (avs (zar p))] ∧ τ' = frL [(1, .op 2 0), (3, .os 3 0 0 (zc8 p i).out.length), (5, .d (iD i))]) (p.takes.length) ?_ ⟨0, Nat.zero_le _, rfl, rfl, rfl⟩ ?_
  ·refine jlz ?_
   rfl
  rintro τ' H' mm ⟨i, hi, rfl, rfl, rfl⟩
  refine zaa fun K12 hK12 => ?_
  refine szq hp (fun _ hZ => zm4 hZ) ?_
  refine zal rfl (fun ht => ?_) (fun ht => ?_)
  ·have hlt : i < p.takes.length := by simp at ht; omega
   have hle := zrx h i hi
   obtain ⟨B, hB⟩ : ∃ B, B = (zc8 p i).out := ⟨_, rfl⟩
   rw [← hB] at hle
   have hcb := zhr B 5 i 1 (Nat.le_refl _) (by decide) (by omega)
   have hst := jz5 (p := p) (i := i)
   rw [← hB] at hst
   rw [← hB]
   have hsl : (B ++ zb2 5 i 1).length = B.length + 1 := by rw [List.length_append, zaz]
   clear hB
   refine zaj (hK12 _ _ ?_)
   refine zaa fun K14 hK14 => ?_
   refine zaf ?_
   refine za1 hp zak hc rfl fun K15 hK15 => ?_
   refine zm4 ?_
   refine jtj ([.cells (avs (B.flatMap za2)), .free]) ([.cells (avs (zar p))]) (hcb) ?_
   rintro _ _ ⟨z, rfl, rfl⟩
   refine ⟨rfl, ?_⟩
   refine zm4 ?_
   refine hK15 _ _ (hK14 _ _ ?_)
   refine za1 hp zak hc rfl fun K16 hK16 => ?_
   refine zm4 ?_
   refine hK16 _ _ ⟨_, _, _, ?_, ⟨i + 1, by omega, rfl, rfl, rfl⟩, ?_⟩
   ·first | omega | (simp only [List.length_cons]; omega) | (dsimp only; omega)
   ·refine Rt.trans (Rt.fr1) ?_
    refine zpa [1,3,2] ?_
    refine jlz ?_
    refine jia ?_; rw [hst]
  ·have hii : i = p.takes.length := by simp at ht; omega
   subst hii
   refine zau (hK10 _ _ ?_)
   refine zaa fun K17 hK17 => ?_
   refine szq hp (fun _ hZ => jib hZ) ?_
   refine zaf ?_
   refine zan hp (fun τ' H' mm => ∃ (i : Nat), (i ≤ p.puts.length) ∧ mm = p.puts.length - i ∧ H' = [.cells (avs ((zc3 p i).out.flatMap za2)), .free, .free, .cells (avs (zar p))] ∧ τ' = frL [(1, .op 3 0), (3, .os 3 0 0 (zc3 p i).out.length), (6, .d (iD i))]) (p.puts.length) ?_ ⟨0, Nat.zero_le _, rfl, rfl, rfl⟩ ?_
   ·refine Rt.trans (Rt.fr1) ?_
    refine zpa [0,1,3,2] ?_
    refine jlz ?_
    refine jia ?_; simp [zc3]
   rintro τ' H' mm ⟨i, hi, rfl, rfl, rfl⟩
   refine zaa fun K19 hK19 => ?_
   refine szq hp (fun _ hZ => zm4 hZ) ?_
   refine zal rfl (fun ht => ?_) (fun ht => ?_)
   ·have hlt : i < p.puts.length := by simp at ht; omega
    have hw := h.qb i hlt
    have hle := zry h i hi
    have hst := jz6 h hlt
    obtain ⟨B, hB⟩ : ∃ B, B = (zc3 p i).out := ⟨_, rfl⟩
    rw [← hB] at hle hst
    rw [← hB]
    clear hB
    have hcb := zhr B 6 i 1 (Nat.le_refl _) (by decide) (by omega)
    obtain ⟨A, hA⟩ : ∃ A, A = B ++ zb2 6 i 1 := ⟨_, rfl⟩
    have hAl : A.length = B.length + 1 := by rw [hA, List.length_append, zaz]
    unfold ybp at hcb
    rw [← hA, ← hAl] at hcb
    rw [← hA] at hst
    have hcc := zr1 A 7 i (nth p.puts i).w hw.1 (by omega) (by omega)
    have hsl : (A ++ zb2 7 i (nth p.puts i).w).length = A.length + (nth p.puts i).w := by rw [List.length_append, zaz]
    clear hA
    refine zaj (hK19 _ _ ?_)
    refine zaa fun K21 hK21 => ?_
    refine zaf ?_
    refine zkz zak hp hc mixed rfl [(0, []), (1, []), (2, []), (4, []), (5, []), (6, []), (7, []), (8, []), (9, []), (10, []), (11, []), (3, [6, 10]), (12, []), (13, [])] [[], [], [1], [0, 1, 2], [], [], [5], [], [5, 6, 7], [5, 6, 7, 8], [5, 6, 7, 8, 9], [4, 5, 6, 7, 8, 9, 10], [0, 1, 2, 3, 4, 5, 6, 7, 8, 9, 10, 11], [0, 1, 2, 3, 4, 5, 6, 7, 8, 9, 10, 11, 12]] 0 (by kernel_rfl) fun K22 hK22 => ?_
    refine jic ?_
    refine jz9 ([.cells (avs (B.flatMap za2)), .free]) ([.free, .cells (avs (zar p))]) (hcb) ?_
    rintro _ _ ⟨z, rfl, rfl⟩
    refine ⟨rfl, ?_⟩
    refine jic ?_
    refine jz9 ([.dead, .cells (avs (A.flatMap za2)), .free]) ([.cells (avs (zar p))]) (hcc) ?_
    rintro _ _ ⟨z, rfl, rfl⟩
    refine ⟨rfl, ?_⟩
    refine jic ?_
    refine hK22 _ _ (hK21 _ _ ?_)
    refine za1 hp zak hc rfl fun K23 hK23 => ?_
    refine zm4 ?_
    refine hK23 _ _ ⟨_, _, _, ?_, ⟨i + 1, by omega, rfl, rfl, rfl⟩, ?_⟩
    ·first | omega | (simp only [List.length_cons]; omega) | (dsimp only; omega)
    ·refine Rt.trans (Rt.fr1) ?_
     refine Rt.trans (Rt.fr1) ?_
     refine zpa [2,4,5,3] ?_
     refine jlz ?_
     refine jia ?_; rw [hst]
   ·have hii : i = p.puts.length := by simp at ht; omega
    subst hii
    refine zau (hK17 _ _ ?_)
    refine zaa fun K24 hK24 => ?_
    refine szq hp (fun _ hZ => jib hZ) ?_
    refine zaf ?_
    refine zan hp (fun τ' H' mm => ∃ (i : Nat), (i ≤ p.mems.length) ∧ mm = p.mems.length - i ∧ H' = [.cells (avs ((zcg p i).out.flatMap za2)), .free, .free, .free, .cells (avs (zar p))] ∧ τ' = frL [(1, .op 4 0), (3, .os 3 0 0 (zcg p i).out.length), (7, .d (iD i))]) (p.mems.length) ?_ ⟨0, Nat.zero_le _, rfl, rfl, rfl⟩ ?_
    ·refine Rt.trans (Rt.fr1) ?_
     refine zpa [0,1,2,4,3] ?_
     refine jlz ?_
     refine jia ?_; simp [zcg]
    rintro τ' H' mm ⟨i, hi, rfl, rfl, rfl⟩
    refine zaa fun K26 hK26 => ?_
    refine szq hp (fun _ hZ => zm4 hZ) ?_
    refine zal rfl (fun ht => ?_) (fun ht => ?_)
    ·have hlt : i < p.mems.length := by simp at ht; omega
     have hw := jzq h hlt
     have hle := jan h i hi
     have hst := jz7 h hlt
     obtain ⟨B, hB⟩ : ∃ B, B = (zcg p i).out := ⟨_, rfl⟩
     rw [← hB] at hle hst
     rw [← hB]
     clear hB
     have hcb := zhr B 8 i 1 (Nat.le_refl _) (by decide) (by omega)
     obtain ⟨A, hA⟩ : ∃ A, A = B ++ zb2 8 i 1 := ⟨_, rfl⟩
     have hAl : A.length = B.length + 1 := by rw [hA, List.length_append, zaz]
     unfold ybp at hcb
     rw [← hA, ← hAl] at hcb
     rw [← hA] at hst
     have hcc := zr1 A 9 i 3 (by decide) (by decide) (by omega)
     obtain ⟨C, hC⟩ : ∃ C, C = A ++ zb2 9 i 3 := ⟨_, rfl⟩
     have hCl : C.length = A.length + 3 := by rw [hC, List.length_append, zaz]
     unfold ygn at hcc
     rw [← hC, ← hCl] at hcc
     rw [← hC] at hst
     have hcd := jlx C 10 i (nth p.mems i).w hw.1 (by omega) (by omega)
     have hsl : (C ++ zb2 10 i (nth p.mems i).w).length = C.length + (nth p.mems i).w := by rw [List.length_append, zaz]
     clear hA hC
     refine zaj (hK26 _ _ ?_)
     refine zaa fun K28 hK28 => ?_
     refine zaf ?_
     refine zkz zak hp hc mixed rfl [(0, []), (1, []), (2, []), (4, []), (5, []), (7, []), (8, []), (9, []), (10, []), (11, []), (12, []), (13, []), (14, []), (3, [9, 13]), (6, [9, 13]), (15, []), (16, [])] [[], [], [1], [0, 1, 2], [], [4], [0, 1, 2, 3, 4, 5], [], [], [8], [], [8, 9, 10], [8, 9, 10, 11], [8, 9, 10, 11, 12], [7, 8, 9, 10, 11, 12, 13], [0, 1, 2, 3, 4, 5, 6, 7, 8, 9, 10, 11, 12, 13, 14], [0, 1, 2, 3, 4, 5, 6, 7, 8, 9, 10, 11, 12, 13, 14, 15]] 0 (by kernel_rfl) fun K29 hK29 => ?_
     refine ja0 ?_
     refine jz9 ([.cells (avs (B.flatMap za2)), .free]) ([.free, .free, .cells (avs (zar p))]) (hcb) ?_
     rintro _ _ ⟨z, rfl, rfl⟩
     refine ⟨rfl, ?_⟩
     refine ja0 ?_
     refine jz9 ([.dead, .cells (avs (A.flatMap za2)), .free]) ([.free, .cells (avs (zar p))]) (hcc) ?_
     rintro _ _ ⟨z, rfl, rfl⟩
     refine ⟨rfl, ?_⟩
     refine ja0 ?_
     refine jz9 ([.dead, .dead, .cells (avs (C.flatMap za2)), .free]) ([.cells (avs (zar p))]) (hcd) ?_
     rintro _ _ ⟨z, rfl, rfl⟩
     refine ⟨rfl, ?_⟩
     refine ja0 ?_
     refine hK29 _ _ (hK28 _ _ ?_)
     refine za1 hp zak hc rfl fun K30 hK30 => ?_
     refine zm4 ?_
     refine hK30 _ _ ⟨_, _, _, ?_, ⟨i + 1, by omega, rfl, rfl, rfl⟩, ?_⟩
     ·first | omega | (simp only [List.length_cons]; omega) | (dsimp only; omega)
     ·refine Rt.trans (Rt.fr1) ?_
      refine Rt.trans (Rt.fr1) ?_
      refine Rt.trans (Rt.fr1) ?_
      refine zpa [3,5,6,7,4] ?_
      refine jlz ?_
      refine jia ?_; rw [hst]
    ·have hii : i = p.mems.length := by simp at ht; omega
     subst hii
     refine zau (hK24 _ _ ?_)
     refine szq hp (fun _ hZ => jib hZ) ?_
     refine zam ?_
     show closeA _ _ = _
     simp (disch := first | assumption | omega | (simp only [r_z, za7, zbb, zbc, zbr, zab, zaz] <;> omega) | decide) only [r_c, Nat.reduceAdd, D.fix, ↓reduceIte, Nat.reduceEqDiff, sD, zbq, zar, zay]
     simp [ze4, zny]
theorem zuw {p q : Prop} (hq : q) (h : p = q := by
 conv => lhs; simp -dsimp -implicitDefEqProofs (disch := first | assumption | omega | (simp only [r_z, zab, zac] <;> omega) | decide) only [r_r, ↓reduceIte, Nat.reduceEqDiff, Nat.reduceAdd, D.fix, Int.reduceToNat, Nat.reduceMul, Nat.reduceBNe, Nat.reduceBEq, beq_self_eq_true, zcb, zb7, zay, za3, zav, za2, zeq, List.cons_append, List.nil_append, zbq, zar, sD, zo5]) : p := h.mpr hq
theorem jo9 {p q : Prop} (hq : q) (h : p = q := by
 conv => lhs; simp -dsimp -implicitDefEqProofs (disch := first | assumption | omega | (simp only [r_z, zab, zac] <;> omega) | decide) only [r_r, ↓reduceIte, Nat.reduceEqDiff, Nat.reduceAdd, D.fix, Int.reduceToNat, Nat.reduceMul, Nat.reduceBNe, Nat.reduceBEq, beq_self_eq_true, zcb, zb7, zay, za3, zav, za2, zeq, List.cons_append, List.nil_append, zbq, zar, sD]) : p := h.mpr hq
theorem jid {p q r : Prop} (e : r) (hq : q) (h : r → p = q := by
 intro hY
 conv => lhs; simp -dsimp -implicitDefEqProofs (disch := first | assumption | omega | (simp only [r_z, zab, zac] <;> omega) | decide) only [r_r, ↓reduceIte, Nat.reduceEqDiff, Nat.reduceAdd, D.fix, Int.reduceToNat, Nat.reduceMul, Nat.reduceBNe, Nat.reduceBEq, r_w, beq_self_eq_true, zcb, zb7, zay, za3, zav, za2, zeq, List.cons_append, List.nil_append, zbq, zar, sD, zo5, hY]) : p := (h e).mpr hq
theorem zlg {p q r : Prop} (e : r) (hq : q) (h : r → p = q := by
 intro hY
 conv => lhs; simp -dsimp -implicitDefEqProofs (disch := first | assumption | omega | (simp only [r_z, zab, zac] <;> omega) | decide) only [r_r, ↓reduceIte, Nat.reduceEqDiff, Nat.reduceAdd, D.fix, Int.reduceToNat, Nat.reduceMul, Nat.reduceBNe, Nat.reduceBEq, beq_self_eq_true, zcb, zb7, zay, za3, zav, za2, zeq, List.cons_append, List.nil_append, zbq, zar, sD, zo5, hY]) : p := (h e).mpr hq
theorem zr4 (b : List Int) (hb0 : zg6 b) (hl0 : b.length ≤ maxLen) (k0 k1 : Nat) (h0 : k0 < 256) (h1 : k1 < 256) : zbg Try.prog 5 [.agg [bytesD b], .agg [.val (.int .u8 k0), .val (.int .u8 k1)]] (.d (oD true)) := by
 have hk8 : (k0 : Int) % 9 = ((k0 % 9 : Nat) : Int) := by omega
 have hlg := zru (k0 % 9) k1 (by omega) h1
 obtain ⟨n1, hn1⟩ : ∃ n, n = 1 + k0 % 9 % 16 := ⟨_, rfl⟩
 obtain ⟨w1, hw1⟩ : ∃ w, w = 1 + k1 % 8 := ⟨_, rfl⟩
 have r1 : 1 ≤ n1 ∧ n1 ≤ 9 := by omega
 have r2 : 1 ≤ w1 ∧ w1 ≤ 8 := by omega
 rw [← hn1, ← hw1] at hlg
 clear hn1 hw1
 have hqo : PrOk (lgP n1 w1) := zum r1.1 (by omega) r2.1 r2.2
 have hqb := jay r1.1 r1.2 r2.1 r2.2
 have hqv := ygm r1.1 r1.2 r2.1 r2.2
 generalize lgP n1 w1 = q at *
 refine za4 (fn := Try.f5) (by kernel_rfl) Try.func5 rfl (Nat.le_of_ble_eq_true rfl) fun c hc hp => ?_
 refine za9 (τ' := frL [(0, .d (.agg [bytesD b])), (1, .d (.agg [.val (.int .u8 k0), .val (.int .u8 k1)]))]) (by repeat (first | exact zas _ | refine zao ?_ (by first | rfl | (simp [r_f, zab, zac]; done) | simp [r_f, zab, zac, *]))) ?_
 refine szq hp (fun _ hZ => zuw hZ) ?_
 refine zag hp zak hc rfl fun K2 hK2 => ?_
 refine jo9 ?_
 refine zbp (zgn) rfl ?_
 refine jo9 ?_
 refine hK2 _ _ ?_
 refine zaa fun K3 hK3 => ?_
 refine szq hp (fun _ hZ => zuw hZ) ?_
 refine szf ?_
 refine zaj (hK3 _ _ ?_)
 refine za6 zak hp hc mixed rfl [(0, []), (2, []), (3, []), (4, []), (5, []), (6, []), (8, []), (9, []), (1, [3, 6]), (7, []), (10, []), (11, [])] [[], [0], [], [2], [2, 3], [], [5], [0, 1, 2, 3, 4, 5, 6], [], [], [0, 1, 2, 3, 4, 5, 6, 7, 8, 9], [0, 1, 2, 3, 4, 5, 6, 7, 8, 9, 10]] 2 (by kernel_rfl) fun K5 hK5 => ?_
 refine jid hk8 ?_
 refine zyn (zrm b hb0 hl0) rfl fun r hr => ?_
 obtain ⟨p, hp', rfl⟩ := hr
 refine jid hk8 ?_
 refine zkg (hlg) rfl ?_
 refine jid hk8 ?_
 refine hK5 _ _ ?_
 have hpo := hp'.ok
 have hpb := zjn hp'
 have hpv := jht hp'
 have pd := hpv.d0; have pl := hpv.dl; have pn := hpv.len
 have qd := hqv.d0; have ql := hqv.dl; have qn := hqv.len
 have ci := zuv p hpo
 have co := zqo p hpo
 have di := zuv q hqo
 have do' := zqo q hqo
 rw [show zfi p = (ze4 p).ins from rfl] at ci
 rw [show zfi q = (ze4 q).ins from rfl] at di
 have w1 := zl5 (ze4 p).ins (by omega)
 have w2 := zl5 (ze4 p).out (by omega)
 have w3 := zl5 (ze4 q).ins (by omega)
 have w4 := zl5 (ze4 q).out (by omega)
 have q1 : (((ze4 p).drive.length : Int) == ((ze4 p).out.length : Int)) = true := by rw [pd]; exact beq_self_eq_true _
 refine za5 zak hc mixed rfl (q := 2) (by kernel_rfl) (by kernel_rfl) fun K6 hK6 => ?_
 refine zuw ?_
 refine zbp (hpb) rfl ?_
 refine zuw ?_
 refine zbp (hqb) rfl ?_
 refine zuw ?_
 refine hK6 _ _ ?_
 refine za5 zak hc mixed rfl (q := 0) (by kernel_rfl) (by kernel_rfl) fun K7 hK7 => ?_
 refine zlg q1 ?_
 refine zbp (ci) rfl ?_
 refine zlg q1 ?_
 refine zbp (w1) rfl ?_
 refine zlg q1 ?_
 refine zbp (co) rfl ?_
 refine zlg q1 ?_
 refine zbp (w2) rfl ?_
 refine zlg q1 ?_
 refine zbp (di) rfl ?_
 refine zlg q1 ?_
 refine zbp (w3) rfl ?_
 refine zlg q1 ?_
 refine zbp (do') rfl ?_
 refine zlg q1 ?_
 refine zbp (w4) rfl ?_
 refine zlg q1 ?_
 refine hK7 _ _ ?_
 refine zam ?_
 show closeA _ _ = _
 simp (disch := first | assumption | omega | (simp only [r_z, zab, zac] <;> omega) | decide) only [r_c, Nat.reduceAdd, D.fix, ↓reduceIte, Nat.reduceEqDiff, beq_self_eq_true, zcb, zb7, zay, za3, zav, za2, zeq, List.cons_append, List.nil_append, zbq, zar, sD]
end Go.Proofs.Ytapjobndmmkanaa
