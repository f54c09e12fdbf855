/- The reference's count. -/
import Derived.Test.YtgfnpfchdlcoeaaQr
import Derived.Test.YtgfnpfchdlcoeaaQ
import Derived.Test.YtgfnpfchdlcoeaaHj
import Derived.Test.YtgfnpfchdlcoeaaGf
set_option linter.unusedVariables false
set_option linter.unusedSimpArgs false
set_option maxRecDepth 100000
set_option maxHeartbeats 4000000
namespace Go.Proofs.Ytgfnpfchdlcoeaa
open Go Go.RowKit
def zfq (n : Nat) (t : T) : Nat := if t.lf then n else t.v
theorem jqe (n : Nat) (t : T) : jqd (n : Int) t = (zfq n t : Nat) := by unfold jqd zfq; split <;> rfl
def cin (n : Nat) : T → Nat
 | .leaf b => if b then 1 else 0
 | .node v l h => if v < zfq n l ∧ v < zfq n h then cin n l * 2 ^ (zfq n l - v - 1) + cin n h * 2 ^ (zfq n h - v - 1) else 0
theorem zuo {n V : Nat} : ∀ {t : T} {k : Nat}, t.Ok V k → t.lf = false → n ≤ t.v → cin n t = 0
 | .leaf _, _, _, h, _ => by cases h
 | .node v l h, k, hok, _, hv => by
  have hv' : n ≤ v := hv
  unfold cin
  split
  ·rename_i hc
   have key : ∀ s : T, s.Ok V (v + 1) → v < zfq n s → (s.sz < (T.node v l h).sz) → s.lf = false ∧ n ≤ s.v := fun s hs h1 _ => by
    rcases zdj s with q | q
    ·unfold zfq at h1; rw [q] at h1; simp at h1; omega
    ·obtain ⟨u, a, b, rfl⟩ := zet q
     have := hs.1
     exact ⟨rfl, by show n ≤ u; omega⟩
   obtain ⟨a1, a2⟩ := key l hok.2.2.2.1 hc.1 (by simp only [T.sz]; omega)
   obtain ⟨b1, b2⟩ := key h hok.2.2.2.2 hc.2 (by simp only [T.sz]; omega)
   rw [zuo hok.2.2.2.1 a1 a2, zuo hok.2.2.2.2 b1 b2]; simp
  ·rfl
theorem jj3 {n V k : Nat} {t : T} (h : t.Ok V k) (hk : k ≤ n) : k ≤ zfq n t := by
 unfold zfq
 cases t with
 | leaf b => exact hk
 | node v l r => exact h.1
theorem jgc {n V : Nat} : ∀ {t : T} {k : Nat}, t.Ok V k → zfq n t ≤ n → cin n t * 2 ^ (zfq n t) ≤ 2 ^ n
 | .leaf b, _, _, _ => by
  cases b
  ·simp [cin]
  ·show 1 * 2 ^ n ≤ 2 ^ n; omega
 | .node v l h, k, hok, hn => by
  have hvn : v ≤ n := hn
  show cin n (.node v l h) * 2 ^ v ≤ 2 ^ n
  unfold cin
  split
  ·rename_i hc
   have key : ∀ s : T, (∀ {j}, s.Ok V j → zfq n s ≤ n → cin n s * 2 ^ (zfq n s) ≤ 2 ^ n) → s.Ok V (v + 1) → v < zfq n s → 2 * (cin n s * 2 ^ (zfq n s - v - 1) * 2 ^ v) ≤ 2 ^ n := fun s ih hs h1 => by
    by_cases h2 : zfq n s ≤ n
    ·have h3 := ih hs h2
     have e : 2 ^ (zfq n s) = 2 * (2 ^ (zfq n s - v - 1) * 2 ^ v) := by
      rw [← Nat.pow_add, ← Nat.pow_succ']; congr 1; omega
     rw [e] at h3
     calc _ = cin n s * (2 * (2 ^ (zfq n s - v - 1) * 2 ^ v)) := by rw [Nat.mul_assoc, Nat.mul_left_comm]
      _ ≤ _ := h3
    ·have h3 : s.lf = false := by
      rcases zdj s with q | q
      ·unfold zfq at h2; rw [q] at h2; simp at h2
      ·exact q
     rw [zuo hs h3 (by unfold zfq at h2; rw [h3] at h2; simp at h2; omega)]
     simp
   have hl := key l (fun a b => jgc a b) hok.2.2.2.1 hc.1
   have hh := key h (fun a b => jgc a b) hok.2.2.2.2 hc.2
   rw [Nat.add_mul]; omega
  ·simp
theorem zz4 {n V v : Nat} (hn : n ≤ 60) {s : T} (hs : s.Ok V (v + 1)) (hv : v < zfq n s) : cin n s * 2 ^ (zfq n s - v - 1) ≤ 1152921504606846976 := by
 have h60 := zzq hn
 by_cases h2 : zfq n s ≤ n
 ·have h3 := jgc hs h2
  have h4 : 2 ^ (zfq n s - v - 1) ≤ 2 ^ (zfq n s) := Nat.pow_le_pow_right (by decide) (by omega)
  have := Nat.mul_le_mul_left (cin n s) h4
  omega
 ·have h3 : s.lf = false := by
   rcases zdj s with q | q
   ·unfold zfq at h2; rw [q] at h2; simp at h2
   ·exact q
  rw [zuo hs h3 (by unfold zfq at h2; rw [h3] at h2; simp at h2; omega)]
  simp
theorem zx5 {n : Nat} : ∀ {t : T} {k : Nat}, t.Ok n k → k ≤ n → zuu n t k = cin n t * 2 ^ (zfq n t - k)
 | .leaf b, k, _, _ => by cases b <;> simp [zuu, cin, zfq, T.lf]
 | .node v l h, k, hok, hk => by
  have h2 := hok.2.1
  have a1 := jj3 (n := n) hok.2.2.2.1 (by omega)
  have a2 := jj3 (n := n) hok.2.2.2.2 (by omega)
  show (zuu n l (v + 1) + zuu n h (v + 1)) * 2 ^ (v - k) = cin n (.node v l h) * 2 ^ (v - k)
  unfold cin
  rw [if_pos ⟨by omega, by omega⟩, zx5 hok.2.2.2.1 (by omega), zx5 hok.2.2.2.2 (by omega)]
  rfl
theorem zup {a m : Nat} (h : a * 2 ^ m ≤ 1152921504606846976) : IntKind.i64.wrap ((a : Int) * 2 ^ min m 64) = ((a * 2 ^ m : Nat) : Int) := by
 by_cases h0 : a = 0
 ·subst h0; simp; decide
 ·have hm : m ≤ 60 := by
   rcases Nat.lt_or_ge 60 m with h1 | h1
   ·exfalso
    have : 2 ^ 61 ≤ 2 ^ m := Nat.pow_le_pow_right (by decide) (by omega)
    have := Nat.mul_le_mul (show 1 ≤ a by omega) this
    omega
   ·exact h1
  exact zmk rfl h hm
def zuq (us : List T) (n k : Nat) : List Int := (List.range (2 + us.length)).map fun j => if j < k then ((cin n (nth (zbn us) j) : Nat) : Int) else 0
theorem zmm (us : List T) (n k : Nat) : (zuq us n k).length = 2 + us.length := by simp [zuq]
theorem zx6 {us : List T} {n k j : Nat} (h : j < 2 + us.length) (hk : j < k) : nth (zuq us n k) j = ((cin n (nth (zbn us) j) : Nat) : Int) := by unfold zuq; rw [zdi h, if_pos hk]
theorem jqf {us : List T} {n k : Nat} (h : k < 2 + us.length) : (zuq us n k).set k ((cin n (nth (zbn us) k) : Nat) : Int) = zuq us n (k + 1) := by
 refine List.ext_getElem (by simp [zuq]) fun j h1 h2 => ?_
 rw [List.getElem_set]
 split
 ·rename_i e; subst e; simp [zuq]
 ·rename_i e
  simp only [zuq, List.getElem_map, List.getElem_range]
  by_cases hj : j < k
  ·rw [if_pos hj, if_pos (by omega)]
  ·rw [if_neg hj, if_neg (by omega)]
theorem jj4 {us : List T} {n k : Nat} (h : k < 2 + us.length) (h0 : cin n (nth (zbn us) k) = 0) : zuq us n (k + 1) = zuq us n k := by
 refine List.map_congr_left fun j hj => ?_
 by_cases hj : j < k
 ·rw [if_pos hj, if_pos (by omega)]
 ·by_cases e : j = k
  ·subst e; rw [if_pos (by omega), if_neg (by omega), h0]; rfl
  ·rw [if_neg hj, if_neg (by omega)]
theorem jqg (us : List T) (n : Nat) : zuq us n 2 = (List.replicate (2 + us.length) 0).set 1 1 := by
 refine List.ext_getElem (by simp [zuq]) fun j h1 h2 => ?_
 rw [List.getElem_set]
 simp only [zuq, List.getElem_map, List.getElem_range, List.getElem_replicate]
 match j with
 | 0 => simp [zbn, nth, cin]
 | 1 => simp [zbn, nth, cin]
 | j + 2 => rw [if_neg (by omega), if_neg (by omega)]
theorem jj5 : (type_of% @zah) ∧ (type_of% @zbq) ∧ (type_of% @zbc) ∧ (type_of% @zmm) := ⟨@zah, @zbq, @zbc, @zmm⟩
theorem jgd (V : Nat) (us : List T) (rs : List Nat) (hr : RowOk V us) (hV : V ≤ 1000) (hul : us.length ≤ 3000) (node n : Int) : zbi Try.prog 28 [zfp (zdl us) rs, iD node, iD n] (.d (.agg [iD (jh8 us node n), iD (zzo us node n)])) := by
 have hel := zbc us
 have hul2 : us.length ≤ zed := by unfold zed; omega
 refine za8 (fn := Try.f28) (by kernel_rfl) Try.func28 rfl (Nat.le_of_ble_eq_true rfl) fun c hc hp => ?_
 refine zba (τ' := frL [(0, .d (zfp (zdl us) rs)), (1, .d (iD node)), (2, .d (iD n))]) (zaa (zaa (zaa (zae _) rfl) rfl) rfl) ?_
 refine zab hp zad hc rfl fun K1 hK1 => ?_
 simp -dsimp -implicitDefEqProofs (disch := first | omega | decide) only [q_r, zau, zb0, ↓reduceIte, D.one, iD, zau, zfp, zdp, jn8]
 refine hK1 _ _ ?_
 refine zaf fun K2 hK2 => ?_
 refine zab hp zad hc rfl fun K3 hK3 => ?_
 rcases tf (zh3 us node n) with q | q
 ·have hk := zo3 V us rs hr hV hul node n
  rw [q] at hk
  simp -dsimp -implicitDefEqProofs (disch := first | omega | decide) only [q_r, zam, ↓reduceIte, Nat.reduceEqDiff, Nat.reduceAdd, zc8, zds]
  refine zb9 (hk) rfl ?_
  simp -dsimp -implicitDefEqProofs (disch := first | omega | decide) only [q_r, ↓reduceIte, oD]
  refine hK3 _ _ ?_
  refine zag rfl (fun ht => ?_) (fun ht => ?_)
  ·cases ht
  ·refine zan (hK2 _ _ ?_)
   obtain ⟨k0, k1, p0, p1, hti, hto⟩ := zzp hr hV q
   obtain ⟨m, hm⟩ : ∃ m : Nat, n = m := ⟨n.toNat, by omega⟩
   subst hm
   obtain ⟨t, htd⟩ : ∃ t, zb5 us node = t := ⟨_, rfl⟩
   have hnt : (num us t : Int) = node := by rw [← htd]; unfold zb5; rw [ze1 hr (k := node.toNat) (by omega)]; omega
   rw [htd] at hti hto
   have hnlt := zdn hti
   have hto2 : (2 + (us.length : Int)).toNat = 2 + us.length := by omega
   have hC0 : (List.replicate (2 + ((zdl us).length : Int)).toNat (D.val (Value.int .i64 0))).set 1 (D.val (Value.int .i64 1)) = (zuq us m 2).map iD := by rw [hel, hto2, jqg, List.map_set, List.map_replicate]; rfl
   refine zab hp zad hc rfl fun K4 hK4 => ?_
   simp -dsimp -implicitDefEqProofs (disch := first | assumption | omega | (simp [maxLen, jj5] <;> omega) | decide) only [q_r, zau, zam, zac, ixO, zc1, zar, zb0, ↓reduceIte, Nat.reduceEqDiff, Nat.reduceAdd, zau, zbk, zcj, zck, zcm, zgb]
   refine hK4 _ _ ?_
   refine zab hp zad hc rfl fun K5 hK5 => ?_
   simp -dsimp -implicitDefEqProofs (disch := first | assumption | omega | (simp [maxLen, jj5] <;> omega) | decide) only [q_r, ixO, zai, za6, ↓reduceIte, and_true, Nat.reduceAdd, Int.reduceToNat, zc3, zci]
   refine hK5 _ _ ?_
   refine zaf fun K6 hK6 => ?_
   refine zab hp zad hc rfl fun K7 hK7 => ?_
   simp -dsimp -implicitDefEqProofs (disch := first | omega | decide) only [q_r]
   refine hK7 _ _ ?_
   refine zaq ?_
   refine za4 hp (fun τ' H' mm => ∃ (k : Nat), (2 ≤ k ∧ k ≤ 2 + us.length ∧ (k = 2 ∨ (k : Int) ≤ node + 1)) ∧ mm = 2 + us.length - k ∧ H' = [.cells (avs (zdp (zdl us) rs)), .cells [.d (iD 0), .d (iD 0)], .cells (avs ((zuq us m k).map iD))] ∧ τ' = frL [(1, .d (iD node)), (2, .d (iD m)), (3, .op 0 0), (6, .op 1 0), (7, .os 1 2 0 (2 + us.length)), (8, .d (iD k))]) (2 + us.length - 2) ?_ ⟨2, ⟨Nat.le_refl _, by omega, .inl rfl⟩, rfl, rfl, rfl⟩ ?_
   ·refine Rt.end (zaa (zaa (zaa (zaa (zaa (zaa (zae _) rfl) (by first | rfl | (simp [frL, zbc, hto2]; done) | simp [Fr.put, frL, gcV, fzV, zcp, iD, bD, uD, oD, zay, zas, zbm, zbr, zbp, zbq, zbc, zmm, hto2, *])) rfl) rfl) rfl) rfl) ?_
    simp only [za2, zav, zdp]; rw [hC0]; rfl
   rintro τ' H' mm ⟨k, ⟨hk2, hku, hkn⟩, rfl, rfl, rfl⟩
   refine zaf fun K8 hK8 => ?_
   refine zab hp zad hc rfl fun K9 hK9 => ?_
   simp -dsimp -implicitDefEqProofs (disch := first | omega | decide) only [q_r, ↓reduceIte, Nat.reduceEqDiff, iD, zdp]
   refine hK9 _ _ ?_
   refine zag rfl (fun ht => ?_) (fun ht => ?_)
   ·have hkl : (k : Int) ≤ node := by simpa using ht
    have hkf : k < 2 + us.length := by omega
    have hcl := zmm us m k
    have hsf := zlr (us := us) hkf
    have hsn := ze1 hr hkf
    obtain ⟨s, hsd⟩ : ∃ s, nth (zbn us) k = s := ⟨_, rfl⟩
    rw [hsd] at hsf hsn
    have h2 : s.lf = false := by
     rcases zdj s with h | h
     ·have := zmi (us := us) h; omega
     ·exact h
    have hgs := zgp hr hsf h2
    have hch := hr.chf hsf
    have hchl := zp7 hr (zub hsf h2)
    have hok := hr.okf hsf
    obtain ⟨v, lo, hi, rfl⟩ := zet h2
    have hlo := zdn hch.1
    have hhi := zdn hch.2
    simp only [T.l, T.h] at hch hchl hlo hhi
    have hv1 : v < V := hok.2.1
    have hgs2 : nth (zdl us) (k - 2) = ⟨v, num us lo, num us hi⟩ := by rw [← hsn]; exact hgs
    have hx1 : ((k : Int) - 2).toNat = k - 2 := by omega
    have hxl : k - 2 < (zdl us).length := by omega
    have hk1' := zx4 V us rs hr hul lo hch.1 (num us lo : Nat) m rfl
    have hk2' := zx4 V us rs hr hul hi hch.2 (num us hi : Nat) m rfl
    rw [jqe] at hk1' hk2'
    have hlb : ∀ s : T, s ∈ zbn us → zfq m s ≤ 1060 := fun s hs => by
     unfold zfq
     rcases zdj s with h | h
     ·rw [h]; simp; omega
     ·rw [h]
      have hoks := hr.okf hs
      obtain ⟨u, a, b, rfl⟩ := zet h
      have := hoks.2.1
      show u ≤ 1060; omega
    have hl1 := hlb lo hch.1
    have hl2 := hlb hi hch.2
    refine zan (hK8 _ _ ?_)
    refine zaf fun K10 hK10 => ?_
    refine zaq ?_
    refine zab hp zad hc rfl fun K11 hK11 => ?_
    simp -dsimp -implicitDefEqProofs (disch := first | omega | decide) only [q_r, zau, zam, zac, ixO, zai, zb0, za6, ↓reduceIte, D.one, Value.oneCell', Nat.reduceEqDiff, iD, Nat.reduceAdd, zau, hx1, zme, hgs2, ndC, zbk, zcj, zck, zcm, zgn, zg4, znu]
    refine hK11 _ _ ?_
    refine zbo zad hc mixed rfl (q := 0) (by kernel_rfl) (by kernel_rfl) fun K12 hK12 => ?_
    simp -dsimp -implicitDefEqProofs (disch := first | omega | decide) only [q_r, zam, zac, ↓reduceIte, List.append_nil, List.replicate_zero, Nat.reduceEqDiff, Nat.reduceAdd, zc8, zds, zco, zci, zcn]
    refine zb9 (hk1') rfl ?_
    simp -dsimp -implicitDefEqProofs (disch := first | omega | decide) only [q_r, zam, zac, ↓reduceIte, Nat.reduceEqDiff, killAll, iD, Nat.reduceAdd, zci, zcn, zb4]
    refine hK12 _ _ ?_
    refine zbo zad hc mixed rfl (q := 0) (by kernel_rfl) (by kernel_rfl) fun K13 hK13 => ?_
    simp -dsimp -implicitDefEqProofs (disch := first | omega | decide) only [q_r, zam, zac, ↓reduceIte, List.append_nil, List.replicate_zero, Nat.reduceEqDiff, Nat.reduceAdd, zc8, zds, zdd, zci, zcn]
    refine zb9 (hk2') rfl ?_
    simp -dsimp -implicitDefEqProofs (disch := first | omega | decide) only [q_r, zam, zac, ↓reduceIte, Nat.reduceEqDiff, killAll, iD, Nat.reduceAdd, zci, zcn, zb4]
    refine hK13 _ _ ?_
    refine zab hp zad hc rfl fun K14 hK14 => ?_
    rcases (show (v < zfq m lo ∧ v < zfq m hi) ∨ (v < zfq m lo ∧ ¬ v < zfq m hi) ∨ ¬ v < zfq m lo by omega) with ⟨z1, z2⟩ | ⟨z1, z2⟩ | z1
    ·have w1 : decide ((0 : Int) ≤ ((zfq m lo : Nat) : Int) - (v : Int) - 1) = true := by simp; omega
     have w2 : decide ((0 : Int) ≤ ((zfq m hi : Nat) : Int) - (v : Int) - 1) = true := by simp; omega
     simp -dsimp -implicitDefEqProofs (disch := first | omega | decide) only [q_r, ↓reduceIte, Nat.reduceEqDiff, w1, w2]
     refine hK14 _ _ ?_
     refine zag rfl (fun ht => ?_) (fun ht => ?_)
     ·have e1 : ((zfq m lo : Nat) : Int) - (v : Int) - 1 = ((zfq m lo - v - 1 : Nat) : Int) := by omega
      have e2 : ((zfq m hi : Nat) : Int) - (v : Int) - 1 = ((zfq m hi - v - 1 : Nat) : Int) := by omega
      have u1 : IntKind.u64.wrap ((zfq m lo - v - 1 : Nat) : Int) = (zfq m lo - v - 1 : Nat) := zoe (by omega) (by omega)
      have u2 : IntKind.u64.wrap ((zfq m hi - v - 1 : Nat) : Int) = (zfq m hi - v - 1 : Nat) := zoe (by omega) (by omega)
      have g1 := zz4 (by omega) hok.2.2.2.1 z1
      have g2 := zz4 (by omega) hok.2.2.2.2 z2
      have y1 := zup g1
      have y2 := zup g2
      have c1 : nth (zuq us m k) (num us lo) = ((cin m lo : Nat) : Int) := by rw [zx6 hlo (by omega), znp hch.1]
      have c2 : nth (zuq us m k) (num us hi) = ((cin m hi : Nat) : Int) := by rw [zx6 hhi (by omega), znp hch.2]
      have hcs : ((cin m (nth (zbn us) k) : Nat) : Int) = ((cin m lo * 2 ^ (zfq m lo - v - 1) : Nat) : Int) + ((cin m hi * 2 ^ (zfq m hi - v - 1) : Nat) : Int) := by
       rw [hsd]
       show (((if _ then _ else _ : Nat)) : Int) = _
       rw [if_pos ⟨z1, z2⟩]; push_cast; rfl
      have hset := jqf (n := m) hkf
      rw [hcs] at hset
      refine zvf zad hc mixed rfl (q := 0) (by kernel_rfl) (by kernel_rfl) fun K15 hK15 => ?_
      simp -dsimp -implicitDefEqProofs (disch := first | omega | decide) only [q_r, zam, zac, ixO, zai, zf9, za6, ↓reduceIte, List.append_nil, List.replicate_zero, and_true, Int.toNat_natCast, Nat.reduceEqDiff, killAll, iD, Nat.reduceAdd, List.length_map, e1, e2, u1, u2, c1, c2, y1, y2, zco, zci, zcn, zc3, zsk, jb7, zdd]
      refine hK15 _ _ (hK10 _ _ ?_)
      refine zbs hp zad hc rfl fun K16 hK16 => ?_
      simp -dsimp -implicitDefEqProofs (disch := first | omega | decide) only [q_r, ↓reduceIte, Nat.reduceEqDiff]
      refine hK16 _ _ ⟨_, _, _, ?_, ⟨k + 1, ⟨by omega, by omega, .inr (by omega)⟩, rfl, rfl, rfl⟩, ?_⟩
      ·first | omega | (simp only [List.length_cons]; omega) | (dsimp only; omega)
      ·refine Rt.trans (Rt.gc (keep := [0,1,2]) (by decide) (by decide) (by simp [])) ?_
       refine Rt.end (zaa (zaa (zaa (zaa (zaa (zaa (zae _) rfl) rfl) rfl) rfl) rfl) rfl) ?_
       simp only [gcH, zbb, zap, zcb, gcV, za2, zav, List.map_cons, List.map_nil, List.getD_cons_zero, List.getD_cons_succ, zdp]; rw [← hset, List.map_set]; rfl
     ·cases ht
    ·have w1 : decide ((0 : Int) ≤ ((zfq m lo : Nat) : Int) - (v : Int) - 1) = true := by simp; omega
     have w2 : decide ((0 : Int) ≤ ((zfq m hi : Nat) : Int) - (v : Int) - 1) = false := by simp; omega
     simp -dsimp -implicitDefEqProofs (disch := first | omega | decide) only [q_r, ↓reduceIte, Nat.reduceEqDiff, w1, w2]
     refine hK14 _ _ ?_
     refine zag rfl (fun ht => ?_) (fun ht => ?_)
     ·cases ht
     ·have hcz : cin m (nth (zbn us) k) = 0 := by rw [hsd]; exact if_neg fun h => z2 h.2
      refine zan (hK10 _ _ ?_)
      refine zbs hp zad hc rfl fun K17 hK17 => ?_
      simp -dsimp -implicitDefEqProofs (disch := first | omega | decide) only [q_r, ↓reduceIte, Nat.reduceEqDiff]
      refine hK17 _ _ ⟨_, _, _, ?_, ⟨k + 1, ⟨by omega, by omega, .inr (by omega)⟩, rfl, rfl, rfl⟩, ?_⟩
      ·first | omega | (simp only [List.length_cons]; omega) | (dsimp only; omega)
      ·refine Rt.trans (Rt.gc (keep := [0,1,2]) (by decide) (by decide) (by simp [])) ?_
       refine Rt.end (zaa (zaa (zaa (zaa (zaa (zaa (zae _) rfl) rfl) rfl) rfl) rfl) rfl) ?_
       simp only [gcH, zbb, zap, zcb, gcV, za2, zav, List.map_cons, List.map_nil, List.getD_cons_zero, List.getD_cons_succ, zdp]; rw [jj4 hkf hcz]; rfl
    ·have w1 : decide ((0 : Int) ≤ ((zfq m lo : Nat) : Int) - (v : Int) - 1) = false := by simp; omega
     have w2 := w1
     simp -dsimp -implicitDefEqProofs (disch := first | omega | decide) only [q_r, ↓reduceIte, Nat.reduceEqDiff, w1]
     refine hK14 _ _ ?_
     refine zag rfl (fun ht => ?_) (fun ht => ?_)
     ·cases ht
     ·have hcz : cin m (nth (zbn us) k) = 0 := by rw [hsd]; exact if_neg fun h => z1 h.1
      refine zan (hK10 _ _ ?_)
      refine zbs hp zad hc rfl fun K18 hK18 => ?_
      simp -dsimp -implicitDefEqProofs (disch := first | omega | decide) only [q_r, ↓reduceIte, Nat.reduceEqDiff]
      refine hK18 _ _ ⟨_, _, _, ?_, ⟨k + 1, ⟨by omega, by omega, .inr (by omega)⟩, rfl, rfl, rfl⟩, ?_⟩
      ·first | omega | (simp only [List.length_cons]; omega) | (dsimp only; omega)
      ·refine Rt.trans (Rt.gc (keep := [0,1,2]) (by decide) (by decide) (by simp [])) ?_
       refine Rt.end (zaa (zaa (zaa (zaa (zaa (zaa (zae _) rfl) rfl) rfl) rfl) rfl) rfl) ?_
       simp only [gcH, zbb, zap, zcb, gcV, za2, zav, List.map_cons, List.map_nil, List.getD_cons_zero, List.getD_cons_succ, zdp]; rw [jj4 hkf hcz]; rfl
   ·have hke : ¬ (k : Int) ≤ node := by simpa using ht
    have hcl := zmm us m k
    have hnn : node.toNat = num us t := by omega
    have c1 : nth (zuq us m k) (num us t) = ((cin m t : Nat) : Int) := by rw [zx6 hnlt (by omega), znp hti]
    have hk3 := zx4 V us rs hr hul t hti node m (by omega)
    rw [jqe] at hk3
    have hlt : zfq m t ≤ 60 := by
     unfold zfq
     rcases zdj t with h | h
     ·rw [h]; simp; omega
     ·rw [h]
      have h9 := hto
      obtain ⟨u, a, b, rfl⟩ := zet h
      have := h9.2.1
      show u ≤ 60; omega
    have hto3 : t.Ok m 0 := by simpa using hto
    have hcc := zx5 hto3 (Nat.zero_le _)
    have hcb := zsv hto3 (Nat.le_refl _) (Nat.zero_le _)
    have h60 := zzq (m := m - 0) (by omega)
    rw [hcc, Nat.sub_zero] at hcb
    have u1 : IntKind.u64.wrap ((zfq m t : Nat) : Int) = (zfq m t : Nat) := zoe (by omega) (by omega)
    have y1 := zup (a := cin m t) (m := zfq m t) (by omega)
    refine zbd (hK6 _ _ ?_)
    refine zbo zad hc mixed rfl (q := 0) (by kernel_rfl) (by kernel_rfl) fun K19 hK19 => ?_
    simp -dsimp -implicitDefEqProofs (disch := first | omega | decide) only [q_r, zam, ixO, zai, ↓reduceIte, List.append_nil, List.replicate_zero, and_true, Nat.reduceEqDiff, iD, Nat.reduceAdd, hnn, c1, zc3, zci, zcn, zc8, zds]
    refine zb9 (hk3) rfl ?_
    simp -dsimp -implicitDefEqProofs (disch := first | omega | decide) only [q_r, zf9, zb7, za6, ↓reduceIte, AV.one, D.one, Value.oneCell', Int.toNat_natCast, Nat.reduceEqDiff, killAll, iD, Nat.reduceAdd, u1, y1, zsk, jb7, jhg, zxh, jb5, jhf]
    refine hK19 _ _ ?_
    refine zao ?_
    try dsimp only [zfd, zcc]
    refine zch rfl ?_
    simp -dsimp -implicitDefEqProofs (disch := first | omega | decide) only [q_r, zam, ↓reduceIte, Nat.reduceEqDiff, iD, Nat.reduceAdd, jb5, jk6]
    show zaj _ _ = _
    simp (disch := first | omega | decide) only [zaj, za1, zcr, za9, za7, Nat.reduceAdd, Nat.zero_add, D.fix, Option.map_some, Option.bind_some, List.length_cons, List.length_nil]
    unfold jh8 zzo
    rw [q, if_pos rfl, if_pos rfl, htd, show (m : Int).toNat = m by omega, hcc]; rfl
 ·have hk := zo3 V us rs hr hV hul node n
  rw [q] at hk
  simp -dsimp -implicitDefEqProofs (disch := first | omega | decide) only [q_r, zam, ↓reduceIte, Nat.reduceEqDiff, Nat.reduceAdd, zc8, zds]
  refine zb9 (hk) rfl ?_
  simp -dsimp -implicitDefEqProofs (disch := first | omega | decide) only [q_r, ↓reduceIte, oD]
  refine hK3 _ _ ?_
  refine zag rfl (fun ht => ?_) (fun ht => ?_)
  ·refine zab hp zad hc rfl fun K20 hK20 => ?_
   simp -dsimp -implicitDefEqProofs (disch := first | omega | decide) only [q_r, zb7, za6, ↓reduceIte, AV.one, D.one, Value.oneCell', Nat.reduceEqDiff, Nat.reduceAdd, jhg, jez, jb5, jhf]
   refine hK20 _ _ ?_
   refine zao ?_
   try dsimp only [zfd, zcc]
   refine zch rfl ?_
   simp -dsimp -implicitDefEqProofs (disch := first | omega | decide) only [q_r, zam, ↓reduceIte, Nat.reduceEqDiff, iD, Nat.reduceAdd, jb5, jk6]
   show zaj _ _ = _
   simp (disch := first | omega | decide) only [zaj, za1, zcr, za9, za7, Nat.reduceAdd, Nat.zero_add, D.fix, Option.map_some, Option.bind_some, List.length_cons, List.length_nil]
   unfold jh8 zzo
   rw [q]; rfl
  ·cases ht
end Go.Proofs.Ytgfnpfchdlcoeaa

/- The reference's witness. -/
set_option linter.unusedVariables false
set_option linter.unusedSimpArgs false
set_option maxRecDepth 100000
set_option maxHeartbeats 4000000
namespace Go.Proofs.Ytgfnpfchdlcoeaa
open Go Go.RowKit
theorem jir {l : List Bool} {v : Nat} (h : v < l.length) (h0 : nth l v = false) : l.set v false = l := by
 refine List.ext_getElem (by simp) fun j h1 h2 => ?_
 rw [List.getElem_set]
 split
 ·rename_i e; subst e; rw [← zcd h2, h0]
 ·rfl
theorem zek : (type_of% @zah) ∧ (type_of% @zbq) ∧ (type_of% @zbc) := ⟨@zah, @zbq, @zbc⟩
theorem jmm (V : Nat) (us : List T) (rs : List Nat) (hr : RowOk V us) (hV : V ≤ 1000) (hul : us.length ≤ 3000) (node n : Int) : zbi Try.prog 21 [zfp (zdl us) rs, iD node, iD n] (.d (.agg [zas (zq3 us node n), iD (zwd us node n)])) := by
 have hel := zbc us
 have hul2 : us.length ≤ zed := by unfold zed; omega
 refine za8 (fn := Try.f21) (by kernel_rfl) Try.func21 rfl (Nat.le_of_ble_eq_true rfl) fun c hc hp => ?_
 refine zba (τ' := frL [(0, .d (zfp (zdl us) rs)), (1, .d (iD node)), (2, .d (iD n))]) (zaa (zaa (zaa (zae _) rfl) rfl) rfl) ?_
 refine zab hp zad hc rfl fun K1 hK1 => ?_
 simp -dsimp -implicitDefEqProofs (disch := first | assumption | omega | (simp [maxLen, zek] <;> omega) | decide) only [q_r, zau, zb0, ↓reduceIte, D.one, iD, zau, zfp, zdp, jev]
 refine hK1 _ _ ?_
 refine zaf fun K2 hK2 => ?_
 refine zab hp zad hc rfl fun K3 hK3 => ?_
 rcases tf (zh3 us node n) with q | q
 ·have hk := zo3 V us rs hr hV hul node n
  rw [q] at hk
  simp -dsimp -implicitDefEqProofs (disch := first | assumption | omega | (simp [maxLen, zek] <;> omega) | decide) only [q_r, zam, ↓reduceIte, Nat.reduceEqDiff, Nat.reduceAdd, zc8, zds]
  refine zb9 (hk) rfl ?_
  simp -dsimp -implicitDefEqProofs (disch := first | assumption | omega | (simp [maxLen, zek] <;> omega) | decide) only [q_r, ↓reduceIte, oD]
  refine hK3 _ _ ?_
  refine zag rfl (fun ht => ?_) (fun ht => ?_)
  ·cases ht
  ·refine zan (hK2 _ _ ?_)
   refine zaf fun K4 hK4 => ?_
   refine zab hp zad hc rfl fun K5 hK5 => ?_
   simp -dsimp -implicitDefEqProofs (disch := first | assumption | omega | (simp [maxLen, zek] <;> omega) | decide) only [q_r, ↓reduceIte, Nat.reduceEqDiff]
   refine hK5 _ _ ?_
   refine zag rfl (fun ht => ?_) (fun ht => ?_)
   ·have h0 : node = 0 := by simpa using ht
    refine zab hp zad hc rfl fun K6 hK6 => ?_
    simp -dsimp -implicitDefEqProofs (disch := first | assumption | omega | (simp [maxLen, zek] <;> omega) | decide) only [q_r, zb7, za6, ↓reduceIte, AV.one, D.one, Value.oneCell', Nat.reduceEqDiff, Nat.reduceAdd, jhe, zxg, zpv, jhd]
    refine hK6 _ _ ?_
    refine zao ?_
    try dsimp only [zfd, zcc]
    refine zch rfl ?_
    simp -dsimp -implicitDefEqProofs (disch := first | assumption | omega | (simp [maxLen, zek] <;> omega) | decide) only [q_r, zam, ↓reduceIte, Nat.reduceEqDiff, iD, zas, Nat.reduceAdd, zpv, jhc]
    show zaj _ _ = _
    simp (disch := first | assumption | omega | (simp [maxLen, zek] <;> omega) | decide) only [zaj, za1, zcr, za9, za7, Nat.reduceAdd, Nat.zero_add, D.fix, Option.map_some, Option.bind_some, List.length_cons, List.length_nil]
    unfold zq3 zwd
    rw [q, h0]; rfl
   ·have h0 : ¬ node = 0 := by simpa using ht
    obtain ⟨k0, k1, p0, p1, hti, hto⟩ := zzp hr hV q
    obtain ⟨m, hm⟩ : ∃ m : Nat, n = m := ⟨n.toNat, by omega⟩
    subst hm
    obtain ⟨t0, htd⟩ : ∃ t, zb5 us node = t := ⟨_, rfl⟩
    have hnt : (num us t0 : Int) = node := by rw [← htd]; unfold zb5; rw [ze1 hr (k := node.toNat) (by omega)]; omega
    rw [htd] at hti hto
    have hto3 : t0.Ok m 0 := by simpa using hto
    have hto2 : ((m : Nat) : Int).toNat = m := by omega
    refine zan (hK4 _ _ ?_)
    refine zab hp zad hc rfl fun K7 hK7 => ?_
    simp -dsimp -implicitDefEqProofs (disch := first | assumption | omega | (simp [maxLen, zek] <;> omega) | decide) only [q_r, zau, ixO, zb0, ↓reduceIte, Int.toNat_natCast, Nat.reduceEqDiff, Nat.reduceAdd, zau, zmb]
    refine hK7 _ _ ?_
    refine zaf fun K8 hK8 => ?_
    refine zaq ?_
    refine za4 hp (fun τ' H' mm => ∃ (t : T) (r : List Bool) (kk : Nat), (t ∈ zbn us ∧ t.Ok m kk ∧ r.length = m ∧ (∀ j, kk ≤ j → j < m → nth r j = false) ∧ anyT us t r = anyT us t0 (List.replicate m false)) ∧ mm = t.sz ∧ H' = [.cells (avs (zdp (zdl us) rs)), .cells [.d (.val (.slice none 0 0)), .d (iD 0)], .cells (avs (r.map oD))] ∧ τ' = frL [(1, .d (iD (num us t : Nat))), (3, .op 0 0), (6, .op 1 0), (7, .os 1 2 0 m)]) (t0.sz) ?_ ⟨t0, List.replicate m false, 0, ⟨hti, hto3, by simp, fun j _ _ => zo2 m j, rfl⟩, rfl, rfl, rfl⟩ ?_
    ·refine Rt.end (zaa (zaa (zaa (zaa (zae _) rfl) rfl) rfl) (by first | rfl | (simp [frL, iD, hnt]; done) | simp [Fr.put, frL, gcV, fzV, zcp, iD, bD, uD, oD, zay, zas, zbm, zbr, zbp, zbq, zbc, hnt, hto2, *])) ?_
     simp only [za2, zav, zdp]; rw [List.map_replicate]; rfl
    rintro τ' H' mm ⟨t, r, kk, ⟨htf, hok, hrl, hr0, hany⟩, rfl, rfl, rfl⟩
    refine zaf fun K9 hK9 => ?_
    refine zab hp zad hc rfl fun K10 hK10 => ?_
    simp -dsimp -implicitDefEqProofs (disch := first | assumption | omega | (simp [maxLen, zek] <;> omega) | decide) only [q_r, ↓reduceIte, iD, zdp]
    refine hK10 _ _ ?_
    refine zag rfl (fun ht => ?_) (fun ht => ?_)
    ·have h2k : 2 ≤ num us t := by simp at ht; omega
     have h2 : t.lf = false := by
      rcases zdj t with h | h
      ·have := zmi (us := us) h; omega
      ·exact h
     have hnlt := zdn htf
     have hgs := zgp hr htf h2
     have hch := hr.chf htf
     obtain ⟨v, lo, hi, rfl⟩ := zet h2
     have hgs2 : nth (zdl us) (num us (.node v lo hi) - 2) = ⟨v, num us lo, num us hi⟩ := hgs
     have hx1 : (((num us (.node v lo hi) : Nat) : Int) - 2).toNat = num us (.node v lo hi) - 2 := by omega
     have hvm : v < m := hok.2.1
     have hkv : kk ≤ v := hok.1
     have hz := hr0 v hkv hvm
     simp only [T.l, T.h] at hch
     have hst : anyT us (.node v lo hi) r = if num us lo = 0 then anyT us hi (r.set v true) else anyT us lo (r.set v false) := rfl
     rw [hst] at hany
     refine zan (hK9 _ _ ?_)
     refine zaq ?_
     refine zab hp zad hc rfl fun K11 hK11 => ?_
     simp -dsimp -implicitDefEqProofs (disch := first | assumption | omega | (simp [maxLen, zek] <;> omega) | decide) only [q_r, zau, zam, zac, ixO, zai, zb0, za6, ↓reduceIte, D.one, Value.oneCell', Nat.reduceEqDiff, iD, Nat.reduceAdd, zau, hx1, zme, hgs2, ndC, zbk, zcj, zck, zcm, zgn, zg4, znu]
     refine hK11 _ _ ?_
     refine zab hp zad hc rfl fun K12 hK12 => ?_
     simp -dsimp -implicitDefEqProofs (disch := first | assumption | omega | (simp [maxLen, zek] <;> omega) | decide) only [q_r, zam, zac, ↓reduceIte, Nat.reduceAdd, zco, zci, zcn]
     refine hK12 _ _ ?_
     refine zab hp zad hc rfl fun K13 hK13 => ?_
     by_cases hl0 : num us lo = 0
     ·have w1 : (((num us lo : Nat) : Int) == 0) = true := by rw [hl0]; rfl
      rw [if_pos hl0] at hany
      simp -dsimp -implicitDefEqProofs (disch := first | assumption | omega | (simp [maxLen, zek] <;> omega) | decide) only [q_r, zam, zac, ↓reduceIte, Nat.reduceEqDiff, Nat.reduceAdd, w1, zco, zci, zcn]
      refine hK13 _ _ ?_
      refine zag rfl (fun ht => ?_) (fun ht => ?_)
      ·refine zab hp zad hc rfl fun K14 hK14 => ?_
       simp -dsimp -implicitDefEqProofs (disch := first | assumption | omega | (simp [maxLen, zek] <;> omega) | decide) only [q_r, zam, zac, ixO, zai, za6, ↓reduceIte, and_true, Int.toNat_natCast, Nat.reduceEqDiff, Nat.reduceAdd, List.length_map, zb4, zci, zcn, ze4, zus]
       refine hK14 _ _ ?_
       refine zbs hp zad hc rfl fun K15 hK15 => ?_
       simp -dsimp -implicitDefEqProofs (disch := first | assumption | omega | (simp [maxLen, zek] <;> omega) | decide) only [q_r, zam, zac, ↓reduceIte, Nat.reduceEqDiff, Nat.reduceAdd, zdd, zci, zcn]
       refine hK15 _ _ ⟨_, _, _, ?_, ⟨hi, r.set v true, v + 1, ⟨hch.2, hok.2.2.2.2, by simpa using hrl, fun j a b => by rw [zhq (by omega)]; exact hr0 j (by omega) b, hany⟩, rfl, rfl, rfl⟩, ?_⟩
       ·first | omega | (simp only [List.length_cons]; omega) | (dsimp only; omega) | (simp only [T.sz]; omega)
       ·refine Rt.trans (Rt.gc (keep := [0,1,2]) (by decide) (by decide) (by simp [])) ?_
        refine Rt.end (zaa (zaa (zaa (zaa (zae _) rfl) rfl) rfl) rfl) ?_
        simp only [gcH, zbb, zap, zcb, gcV, za2, zav, List.map_cons, List.map_nil, List.getD_cons_zero, List.getD_cons_succ, zdp]; rw [List.map_set]; rfl
      ·cases ht
     ·have w1 : (((num us lo : Nat) : Int) == 0) = false := by simp; omega
      rw [if_neg hl0, jir (by omega) hz] at hany
      simp -dsimp -implicitDefEqProofs (disch := first | assumption | omega | (simp [maxLen, zek] <;> omega) | decide) only [q_r, zam, zac, ↓reduceIte, Nat.reduceEqDiff, Nat.reduceAdd, w1, zco, zci, zcn]
      refine hK13 _ _ ?_
      refine zag rfl (fun ht => ?_) (fun ht => ?_)
      ·cases ht
      ·refine zan ⟨_, _, _, ?_, ⟨lo, r, v + 1, ⟨hch.1, hok.2.2.2.1, hrl, fun j a b => hr0 j (by omega) b, hany⟩, rfl, rfl, rfl⟩, ?_⟩
       ·first | omega | (simp only [List.length_cons]; omega) | (dsimp only; omega) | (simp only [T.sz]; omega)
       ·refine Rt.trans (Rt.gc (keep := [0,1,2]) (by decide) (by decide) (by simp [])) ?_
        refine Rt.end (zaa (zaa (zaa (zaa (zae _) rfl) rfl) rfl) rfl) ?_
        first | rfl | (simp only [gcH, zbb, zap, zcb, gcV, za2, zav, List.map_cons, List.map_nil, List.getD_cons_zero, List.getD_cons_succ, zdp]; first | done | rfl)
    ·have h2k : num us t < 2 := by simp at ht; omega
     have hfin : anyT us t r = r := by
      rcases zdj t with h | h
      ·obtain ⟨b, rfl⟩ : ∃ b, t = .leaf b := by cases t with | leaf b => exact ⟨b, rfl⟩ | node _ _ _ => cases h
       rfl
      ·have := zfo hr htf h; omega
     refine zbd (hK8 _ _ ?_)
     refine zab hp zad hc rfl fun K16 hK16 => ?_
     simp -dsimp -implicitDefEqProofs (disch := first | assumption | omega | (simp [maxLen, zek] <;> omega) | decide) only [q_r, zb7, za6, ↓reduceIte, AV.one, D.one, Value.oneCell', Nat.reduceEqDiff, Nat.reduceAdd, jhe, jex, zpv, jhd]
     refine hK16 _ _ ?_
     refine zao ?_
     try dsimp only [zfd, zcc]
     refine zch rfl ?_
     simp -dsimp -implicitDefEqProofs (disch := first | assumption | omega | (simp [maxLen, zek] <;> omega) | decide) only [q_r, zam, ↓reduceIte, Nat.reduceEqDiff, iD, zas, Nat.reduceAdd, zpv, jhc]
     show zaj _ _ = _
     simp (disch := first | assumption | omega | (simp [maxLen, zek] <;> omega) | decide) only [zaj, za1, zcr, zce, za9, za7, zbt, zbl, zcg, Nat.reduceAdd, Nat.zero_add, zax, zn5, D.fix, Option.map_some, Option.bind_some, Nat.mul_one, List.getElem?_cons_zero, List.getElem?_cons_succ, List.length_cons, List.length_nil]
     unfold zq3 zwd
     rw [q, decide_eq_true h0, if_pos rfl, if_neg h0, htd, hto2, ← hany, hfin]
     simp [hrl]
 ·have hk := zo3 V us rs hr hV hul node n
  rw [q] at hk
  simp -dsimp -implicitDefEqProofs (disch := first | assumption | omega | (simp [maxLen, zek] <;> omega) | decide) only [q_r, zam, ↓reduceIte, Nat.reduceEqDiff, Nat.reduceAdd, zc8, zds]
  refine zb9 (hk) rfl ?_
  simp -dsimp -implicitDefEqProofs (disch := first | assumption | omega | (simp [maxLen, zek] <;> omega) | decide) only [q_r, ↓reduceIte, oD]
  refine hK3 _ _ ?_
  refine zag rfl (fun ht => ?_) (fun ht => ?_)
  ·refine zab hp zad hc rfl fun K17 hK17 => ?_
   simp -dsimp -implicitDefEqProofs (disch := first | assumption | omega | (simp [maxLen, zek] <;> omega) | decide) only [q_r, zb7, za6, ↓reduceIte, AV.one, D.one, Value.oneCell', Nat.reduceEqDiff, Nat.reduceAdd, jhe, zxg, zpv, jhd]
   refine hK17 _ _ ?_
   refine zao ?_
   try dsimp only [zfd, zcc]
   refine zch rfl ?_
   simp -dsimp -implicitDefEqProofs (disch := first | assumption | omega | (simp [maxLen, zek] <;> omega) | decide) only [q_r, zam, ↓reduceIte, Nat.reduceEqDiff, iD, zas, Nat.reduceAdd, zpv, jhc]
   show zaj _ _ = _
   simp (disch := first | assumption | omega | (simp [maxLen, zek] <;> omega) | decide) only [zaj, za1, zcr, za9, za7, Nat.reduceAdd, Nat.zero_add, D.fix, Option.map_some, Option.bind_some, List.length_cons, List.length_nil]
   unfold zq3 zwd
   rw [q]; rfl
  ·cases ht
end Go.Proofs.Ytgfnpfchdlcoeaa
