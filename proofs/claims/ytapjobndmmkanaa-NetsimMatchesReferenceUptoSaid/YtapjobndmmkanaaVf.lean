/- Processes that bytes describe: the frame, walked. -/
import Derived.Test.YtapjobndmmkanaaQr
import Derived.Test.YtapjobndmmkanaaVe
set_option linter.unusedVariables false
set_option linter.unusedSimpArgs false
set_option maxRecDepth 100000
set_option maxHeartbeats 4000000
namespace Go.Proofs.Ytapjobndmmkanaa
open Go Go.RowKit
theorem jb4 : (((((((type_of% @zgb) ∧ (type_of% @zgc)) ∧ ((type_of% @zpz) ∧ (type_of% @zp0))) ∧ (((type_of% @ji1) ∧ (type_of% @jud)) ∧ ((type_of% @zg0) ∧ (type_of% @zg1)))) ∧ ((((type_of% @zzf) ∧ (type_of% @zze)) ∧ ((type_of% @zq3) ∧ (type_of% @jue))) ∧ (((type_of% @je8) ∧ (type_of% @je9)) ∧ ((type_of% @zzg) ∧ (type_of% @zzk))))) ∧ (((((type_of% @zdc) ∧ (type_of% @zdd)) ∧ ((type_of% @zdh) ∧ (type_of% @zfo))) ∧ (((type_of% @zev) ∧ (type_of% @zew)) ∧ ((type_of% @zuk) ∧ (type_of% @zgr)))) ∧ ((((type_of% @zpq) ∧ (type_of% @zpr)) ∧ ((type_of% @zho) ∧ (type_of% @jl9))) ∧ (((type_of% @zyy) ∧ (type_of% @zyz)) ∧ ((type_of% @zy0) ∧ (type_of% @zy1)))))) ∧ ((((((type_of% @jl8) ∧ (type_of% @jt9)) ∧ ((type_of% @zi0) ∧ (type_of% @zgs))) ∧ (((type_of% @zpu) ∧ (type_of% @zpv)) ∧ ((type_of% @zpw) ∧ (type_of% @jmd)))) ∧ ((((type_of% @zy6) ∧ (type_of% @zy7)) ∧ ((type_of% @jmc) ∧ (type_of% @jub))) ∧ (((type_of% @zns) ∧ (type_of% @ziz)) ∧ ((type_of% @zgt) ∧ (type_of% @zpx))))) ∧ (((((type_of% @zpy) ∧ (type_of% @jmf)) ∧ ((type_of% @zy8) ∧ (type_of% @zza))) ∧ (((type_of% @jme) ∧ (type_of% @juc)) ∧ ((type_of% @zid) ∧ (type_of% @zps)))) ∧ ((((type_of% @zpt) ∧ (type_of% @jmb)) ∧ ((type_of% @zy2) ∧ (type_of% @zy3))) ∧ (((type_of% @zy4) ∧ (type_of% @zy5)) ∧ ((type_of% @jma) ∧ ((type_of% @jua) ∧ (type_of% @zi1)))))))) := ⟨⟨⟨⟨⟨⟨@zgb, @zgc⟩, ⟨@zpz, @zp0⟩⟩, ⟨⟨@ji1, @jud⟩, ⟨@zg0, @zg1⟩⟩⟩, ⟨⟨⟨@zzf, @zze⟩, ⟨@zq3, @jue⟩⟩, ⟨⟨@je8, @je9⟩, ⟨@zzg, @zzk⟩⟩⟩⟩, ⟨⟨⟨⟨@zdc, @zdd⟩, ⟨@zdh, @zfo⟩⟩, ⟨⟨@zev, @zew⟩, ⟨@zuk, @zgr⟩⟩⟩, ⟨⟨⟨@zpq, @zpr⟩, ⟨@zho, @jl9⟩⟩, ⟨⟨@zyy, @zyz⟩, ⟨@zy0, @zy1⟩⟩⟩⟩⟩, ⟨⟨⟨⟨⟨@jl8, @jt9⟩, ⟨@zi0, @zgs⟩⟩, ⟨⟨@zpu, @zpv⟩, ⟨@zpw, @jmd⟩⟩⟩, ⟨⟨⟨@zy6, @zy7⟩, ⟨@jmc, @jub⟩⟩, ⟨⟨@zns, @ziz⟩, ⟨@zgt, @zpx⟩⟩⟩⟩, ⟨⟨⟨⟨@zpy, @jmf⟩, ⟨@zy8, @zza⟩⟩, ⟨⟨@jme, @juc⟩, ⟨@zid, @zps⟩⟩⟩, ⟨⟨⟨@zpt, @jmb⟩, ⟨@zy2, @zy3⟩⟩, ⟨⟨@zy4, @zy5⟩, ⟨@jma, ⟨@jua, @zi1⟩⟩⟩⟩⟩⟩⟩
theorem v_r {P : Program} {t : TypeId} {s : ByteArray} (h : s.size ≤ 3) : zf2 P .add t (.string ⟨#[114]⟩) (.string s) = some (.string (⟨#[114]⟩ ++ s)) := jwz (by have : (⟨#[114]⟩ : ByteArray).size = 1 := rfl; omega)
def z81 : AObj := .cells [.d nS, .d nS, .d (.val (.slice none 0 0)), .d (.val (.slice none 0 0)), .d (.val (.slice none 0 0)), .d (.val (.slice none 0 0))]
def zhk : AObj := .cells [.d (.val (.slice none 0 0)), .d (.val (.slice none 0 0)), .d (.val (.slice none 0 0)), .d (oD false)]
def zhl : AObj := .cells [.d (.val (.slice none 0 0)), .d (iD 0)]
theorem zm4 {p q : Prop} (hq : q) (h : p = q := by
 conv => lhs; simp -dsimp -implicitDefEqProofs (disch := first | assumption | omega | (simp only [r_z, zcr, zcs, zct, zco] <;> omega) | decide) only [r_r, ↓reduceIte, Nat.reduceEqDiff, Nat.reduceAdd, D.fix, Int.reduceToNat, Nat.reduceMul, Nat.reduceBNe, Nat.reduceBEq, ze8, zbu, z81, zhk, zhl, nS, sD, Int.toNat_natCast, zgj, jb4]) : p := h.mpr hq
theorem jp7 {p q : Prop} (hq : q) (h : p = q := by
 conv => lhs; simp -dsimp -implicitDefEqProofs (disch := first | assumption | omega | (simp only [r_z, zcr, zcs, zct, zco] <;> omega) | decide) only [r_r, ↓reduceIte, Nat.reduceEqDiff, Nat.reduceAdd, D.fix, Int.reduceToNat, Nat.reduceMul, Nat.reduceBNe, Nat.reduceBEq, ze8, zbu, z81, zhk, zhl, nS, sD, Int.toNat_natCast, zgj]) : p := h.mpr hq
theorem jg4 (k : List Nat) {m : List Nat} {τ τ1 : Fr} {H H1 : zad} (h : Rt m (fun t => gcV k (τ t)) (gcH k H) τ1 H1) (a : ∀ i ∈ m, k[i]? = some i := by decide) (b : k.Nodup := by decide) (c : ∀ i ∈ k, i < H.length := by
 simp [fzH, gcH]) : Rt m τ H τ1 H1 := Rt.trans (Rt.gc a b c) h
theorem jg5 {m : List Nat} {τ τ' : Fr} {H H' : zad} (h2 : H = H') (h : zgu τ τ' := by
 repeat (first | exact zar _ | refine zam ?_ (by first | rfl | (simp [r_f, zcr, zcs, zct, zco]; done) | simp [r_f, zcr, zcs, zct, zco, *]))) : Rt m τ H τ' H' := Rt.end h h2
theorem zvd {p q r : Prop} (e : r) (hq : q) (h : r → p = q := by
 intro hY
 conv => lhs; simp -dsimp -implicitDefEqProofs (disch := first | assumption | omega | (simp only [r_z, zcr, zcs, zct, zco] <;> omega) | decide) only [r_r, ↓reduceIte, Nat.reduceEqDiff, Nat.reduceAdd, D.fix, Int.reduceToNat, Nat.reduceMul, Nat.reduceBNe, Nat.reduceBEq, ze8, zbu, z81, zhk, zhl, nS, sD, Int.toNat_natCast, zgj, jb4, hY]) : p := (h e).mpr hq
theorem jkh {p q r : Prop} (e : r) (hq : q) (h : r → p = q := by
 intro hY
 conv => lhs; simp -dsimp -implicitDefEqProofs (disch := first | assumption | omega | (simp only [r_z, zcr, zcs, zct, zco] <;> omega) | decide) only [r_r, ↓reduceIte, Nat.reduceEqDiff, Nat.reduceAdd, D.fix, Int.reduceToNat, Nat.reduceMul, Nat.reduceBNe, Nat.reduceBEq, r_w, ze8, zbu, z81, zhk, zhl, nS, sD, Int.toNat_natCast, zgj, v_r hs0, v_r hs1, jb4, hY]) : p := (h e).mpr hq
theorem zve {p q r : Prop} (e : r) (hq : q) (h : r → p = q := by
 intro hY
 conv => lhs; simp -dsimp -implicitDefEqProofs (disch := first | assumption | omega | (simp only [r_z, zcr, zcs, zct, zco] <;> omega) | decide) only [r_r, ↓reduceIte, Nat.reduceEqDiff, Nat.reduceAdd, D.fix, Int.reduceToNat, Nat.reduceMul, Nat.reduceBNe, Nat.reduceBEq, r_w, ze8, zbu, z81, zhk, zhl, nS, sD, Int.toNat_natCast, zgj, jb4, hY]) : p := (h e).mpr hq
theorem jw2 {p q : Prop} (hq : q) (h : p = q := by
 conv => lhs; simp -dsimp -implicitDefEqProofs (disch := first | assumption | omega | (simp only [r_z, zcr, zcs, zct, zco] <;> omega) | decide) only [r_r, ↓reduceIte, Nat.reduceEqDiff, Nat.reduceAdd, D.fix, Int.reduceToNat, Nat.reduceMul, Nat.reduceBNe, Nat.reduceBEq, r_w, ze8, zbu, z81, zhk, zhl, nS, sD, Int.toNat_natCast, zgj, jb4]) : p := h.mpr hq
theorem jw3 {p : Prop} (h : p := by
 first | rfl | (simp only [r_g, Nat.reduceAdd, ↓reduceIte, Nat.reduceEqDiff, ze8, zbu, z81, zhk, zhl, nS, sD, Int.toNat_natCast, zgj]; first | done | rfl)) : p := h
theorem jrh {p q : Prop} (hq : q) (h : p = q := by
 conv => lhs; simp only [r_g, Nat.reduceAdd, ↓reduceIte, Nat.reduceEqDiff, ze8, zbu, z81, zhk, zhl, nS, sD, Int.toNat_natCast, zgj]) : p := h.mpr hq
theorem jp8 (b : List Int) (i : Nat) (hb : zfx b) (hl : b.length ≤ maxLen) (hi : i ≤ 1000000) : ScS Try.prog [] 58 [ze8 b i] ([.free, .free, .free, .free, .free, .free, .free, .free, .free]) (FrK b i) := by
 refine zeo (fn := Try.f58) (by kernel_rfl) Try.func58 rfl (Nat.le_of_ble_eq_true rfl) fun c hc hp => ?_
 refine zr5 ?_
 obtain ⟨y, hy⟩ : ∃ y : Nat, byN b i = y := ⟨(byN b i).toNat, by have := (zjj hb i).1; omega⟩
 have hy2 := (zjj hb i).2
 have hyb := zmi b i hb hl
 rw [hy] at hyb
 have hy4 : (y : Int) % 4 = ((y % 4 : Nat) : Int) := by omega
 have l4 : y % 4 < 4 := Nat.mod_lt _ (by decide)
 obtain ⟨p1, p2⟩ := jg3 1 1 2 3 l4
 obtain ⟨nr, hnr⟩ : ∃ nr, nr = nth [1, 1, 2, 3] (y % 4) := ⟨_, rfl⟩
 rw [← hnr] at p1 p2
 have hl1 := jyn (a := 1) (b := 1) (c := 2) (d := 3) l4
 rw [show nth ([1, 1, 2, 3] : List Int) (y % 4) = (nr : Int) from p1] at hl1
 refine szq hp (fun _ hZ => zm4 hZ) ?_
 refine zag hp zai hc rfl fun K2 hK2 => ?_
 refine zm4 ?_
 refine za1 (hyb) rfl ?_
 refine zm4 ?_
 refine hK2 _ _ ?_
 refine szq hp (fun _ hZ => zm4 hZ) ?_
 refine zaa fun K4 hK4 => ?_
 refine szq hp (fun _ hZ => jp7 hZ) ?_
 refine zac ?_
 refine zan hp (fun τ' H' mm => ∃ (k : Nat) (rs : List RG), (k ≤ nr ∧ rs.length = k ∧ ∀ r ∈ rs, 1 ≤ r.w ∧ r.w ≤ 3) ∧ mm = nr - k ∧ H' = [.cells (avs (zbu b i)), z81, zhk, zhl, .cells [.d (sD ⟨#[112]⟩), .d (sD ⟨#[97]⟩), .os 13 6 0 rs.length, .d (.val (.slice none 0 0)), .d (.val (.slice none 0 0)), .d (.val (.slice none 0 0))], .cells [.os 1 7 0 rs.length, .d (.val (.slice none 0 0)), .d (.val (.slice none 0 0)), .d (oD true)], .cells (avs (rs.flatMap rgC)), .cells (avs (rs.map fun r => iD r.w))] ∧ τ' = frL [(1, .op 0 0), (2, .op 1 0), (3, .op 2 0), (4, .op 3 0), (5, .d (iD y)), (6, .op 4 0), (7, .op 5 0), (8, .d (iD k))]) (nr) ?_ ⟨0, [], ⟨Nat.zero_le _, rfl, fun r hr => by cases hr⟩, rfl, rfl, rfl⟩ ?_
 ·refine Rt.trans (Rt.nilc 13 2 13 rfl rfl) ?_
  refine Rt.trans (Rt.nilc 14 0 1 rfl rfl) ?_
  refine jg4 [9,10,11,12,13,14,15,16] ?_
  refine jg5 ?_
  exact jw3
 rintro τ' H' mm ⟨k, rs, ⟨hk, hrl, hrw⟩, rfl, rfl, rfl⟩
 refine zaa fun K6 hK6 => ?_
 refine szq hp (fun _ hZ => zvd (sza hy4 hl1) hZ) ?_
 refine zah rfl (fun ht => ?_) (fun ht => ?_)
 ·have hlt : k < nr := by simp at ht; omega
  obtain ⟨n, hn⟩ : ∃ n : Nat, byN b (i + (1 + k)) = n := ⟨(byN b (i + (1 + k))).toNat, by have := (zjj hb (i + (1 + k))).1; omega⟩
  have hn2 := (zjj hb (i + (1 + k))).2
  have hnb := zmi b (i + (1 + k)) hb hl
  rw [hn] at hnb
  have h1k : (1 : Int) + (k : Int) = ((1 + k : Nat) : Int) := by omega
  have hn4 : (n : Int) % 4 = ((n % 4 : Nat) : Int) := by omega
  have ln4 : n % 4 < 4 := Nat.mod_lt _ (by decide)
  obtain ⟨u1, u2⟩ := jg3 1 2 1 3 ln4
  obtain ⟨w, hw⟩ : ∃ w, w = nth [1, 2, 1, 3] (n % 4) := ⟨_, rfl⟩
  rw [← hw] at u1 u2
  have hl2 := jyn (a := 1) (b := 2) (c := 1) (d := 3) ln4
  rw [show nth ([1, 2, 1, 3] : List Int) (n % 4) = (w : Int) from u1] at hl2
  have hnq : (n : Int) / 4 = ((n / 4 : Nat) : Int) := by omega
  have hn16 : (n : Int) / 16 = ((n / 16 : Nat) : Int) := by omega
  have hn163 : ((n / 16 : Nat) : Int) % 3 = ((n / 16 % 3 : Nat) : Int) := by omega
  have l163 : n / 16 % 3 < 3 := Nat.mod_lt _ (by decide)
  have hu : IntKind.u64.wrap (w : Int) = w := zwd (by omega) (by omega)
  have hs := jwh (w := w) (by omega)
  have hm := jam (v := n / 4) (w := w) (by omega) (by omega)
  have hp0 := Nat.two_pow_pos w
  have hp2 : 2 ^ w ≤ 256 := Nat.le_trans (Nat.pow_le_pow_right (by decide) (show w ≤ 8 by omega)) (show 2 ^ 8 ≤ 256 by decide)
  obtain ⟨M, hM⟩ : ∃ M : Nat, 2 ^ w = M := ⟨_, rfl⟩
  rw [hM] at hs hm hp0 hp2
  obtain ⟨s0, hs0, hc0⟩ := jgv (n := k) (by omega)
  obtain ⟨s1, hs1, hc1⟩ := jgv (n := n / 16 % 3) (by omega)
  refine zaf (hK6 _ _ ?_)
  refine zaa fun K8 hK8 => ?_
  refine zac ?_
  refine zag hp zai hc rfl fun K9 hK9 => ?_
  refine zvd h1k ?_
  refine za1 (jj7 b i (1 + k) (by omega) (by omega)) rfl ?_
  refine zvd h1k ?_
  refine za1 (hnb) rfl ?_
  refine zvd h1k ?_
  refine hK9 _ _ ?_
  refine szq hp (fun _ hZ => zvd (sza hn4 hl2) hZ) ?_
  refine zcj zai hp hc za8 rfl [(0, []), (1, []), (2, []), (5, []), (6, []), (7, []), (8, []), (9, []), (10, []), (11, []), (12, []), (13, []), (14, []), (15, []), (16, []), (17, []), (3, [1]), (4, []), (18, [1]), (19, []), (20, [1]), (21, []), (22, []), (23, []), (24, []), (25, [])] [[], [0], [], [2], [2, 3], [], [], [6], [], [8], [8, 9], [8, 9, 10], [6, 7, 8, 9, 10, 11], [], [13], [], [15], [15, 16], [2, 3, 15, 16, 17], [2, 3, 15, 16, 17, 18], [2, 3, 13, 14, 15, 16, 17, 18, 19], [2, 3, 4, 5, 6, 7, 8, 9, 10, 11, 12, 13, 14, 15, 16, 17, 18, 19, 20], [2, 3, 4, 5, 6, 7, 8, 9, 10, 11, 12, 13, 14, 15, 16, 17, 18, 19, 20, 21], [0, 1, 2, 3, 4, 5, 6, 7, 8, 9, 10, 11, 12, 13, 14, 15, 16, 17, 18, 19, 20, 21, 22], [0, 1, 2, 3, 4, 5, 6, 7, 8, 9, 10, 11, 12, 13, 14, 15, 16, 17, 18, 19, 20, 21, 22, 23], [0, 1, 2, 3, 4, 5, 6, 7, 8, 9, 10, 11, 12, 13, 14, 15, 16, 17, 18, 19, 20, 21, 22, 23, 24]] 1 (by kernel_rfl) fun K11 hK11 => ?_
  refine jkh (sza hnq (sza hn16 (sza hn163 (sza hu (sza hs hm))))) ?_
  refine zj4 (hc0) rfl ?_
  refine jkh (sza hnq (sza hn16 (sza hn163 (sza hu (sza hs hm))))) ?_
  refine zj4 (hc1) rfl ?_
  refine jkh (sza hnq (sza hn16 (sza hn163 (sza hu (sza hs hm))))) ?_
  refine zyr (jnx (n / 16) (⟨#[114]⟩ ++ s1) (by omega)) rfl fun r hr => ?_
  obtain ⟨rk, rf, rn, rfl⟩ := hr; simp only [sD]
  refine jkh (sza hnq (sza hn16 (sza hn163 (sza hu (sza hs hm))))) ?_
  refine hK11 _ _ ?_
  refine szs hp (fun _ hZ => zm4 hZ) (hK8 _ _ ?_)
  refine za5 hp zai hc rfl fun K13 hK13 => ?_
  refine zm4 ?_
  refine hK13 _ _ ⟨_, _, _, ?_, ⟨k + 1, rs ++ [⟨⟨#[114]⟩ ++ s0, w, n / 4 % M, none, rk, rf, rn⟩], ⟨by omega, by simp [hrl], zdp hrw ⟨by show 1 ≤ w; omega, by show w ≤ 3; omega⟩⟩, rfl, rfl, rfl⟩, ?_⟩
  ·first | omega | (simp only [List.length_cons]; omega) | (dsimp only; omega)
  ·refine jg4 [0,1,2,3,4,5,11,13] ?_
   refine jg5 ?_
   refine jrh ?_; simp [rgC, exO, jb3, sD, iD, nS, oD]
 ·have hkk : k = nr := by simp at ht; omega
  have hyq : (y : Int) / 4 = ((y / 4 : Nat) : Int) := by omega
  have hyq4 : ((y / 4 : Nat) : Int) % 4 = ((y / 4 % 4 : Nat) : Int) := by omega
  obtain ⟨n2, hn2⟩ : ∃ n : Nat, byN b (i + 4) = n := ⟨(byN b (i + 4)).toNat, by have := (zjj hb (i + 4)).1; omega⟩
  have hn22 := (zjj hb (i + 4)).2
  have hnb2 := zmi b (i + 4) hb hl
  rw [hn2] at hnb2
  have ln24 : n2 / 2 % 4 < 4 := Nat.mod_lt _ (by decide)
  obtain ⟨v1, v2⟩ := jg3 2 1 4 2 ln24
  obtain ⟨wo, hwo⟩ : ∃ w, w = nth [2, 1, 4, 2] (n2 / 2 % 4) := ⟨_, rfl⟩
  rw [← hwo] at v1 v2
  have hl3 := yac (a := 2) (b := 1) (c := 4) (d := 2) ln24
  rw [show nth ([2, 1, 4, 2] : List Int) (n2 / 2 % 4) = (wo : Int) from v1] at hl3
  have hn2q : (n2 : Int) / 2 = ((n2 / 2 : Nat) : Int) := by omega
  have hn2q4 : ((n2 / 2 : Nat) : Int) % 4 = ((n2 / 2 % 4 : Nat) : Int) := by omega
  have hn2r : (n2 : Int) % 2 = ((n2 % 2 : Nat) : Int) := by omega
  have hn28 : (n2 : Int) / 8 = ((n2 / 8 : Nat) : Int) := by omega
  have hw1c : (1 : Int) + ((n2 % 2 : Nat) : Int) = ((1 + n2 % 2 : Nat) : Int) := by omega
  have ln22 : n2 % 2 < 2 := Nat.mod_lt _ (by decide)
  refine zau (hK4 _ _ ?_)
  refine zaa fun K14 hK14 => ?_
  have hJ14 : ∀ τ' H', (∃ τ1 H1, ∃ (ms : List MG), (ms.length ≤ 1 ∧ ∀ m ∈ ms, 1 ≤ m.w ∧ m.w ≤ 2 ∧ (m.words = 1 ∨ m.words = 2 ∨ m.words = 4)) ∧ H1 = [.cells (avs (zbu b i)), z81, zhk, zhl, .cells [.d (sD ⟨#[112]⟩), .d (sD ⟨#[97]⟩), .os 13 6 0 rs.length, .os 27 8 0 ms.length, .d (.val (.slice none 0 0)), .d (.val (.slice none 0 0))], .cells [.os 1 7 0 rs.length, .d (.val (.slice none 0 0)), .os 27 8 0 ms.length, .d (oD true)], .cells (avs (rs.flatMap rgC)), .cells (avs (rs.map fun r => iD r.w)), .cells (avs (ms.flatMap mgC))] ∧ τ1 = frL [(1, .op 0 0), (2, .op 1 0), (3, .op 2 0), (4, .op 3 0), (5, .d (iD y)), (6, .op 4 0), (7, .op 5 0)] ∧ Rt [] τ' H' τ1 H1) → K14 τ' H' := by
   rintro τ' H' ⟨_, _, ms, ⟨hml, hmw⟩, rfl, rfl, hrt⟩
   refine hK14 _ _ (zbg hp hrt ?_)
   clear hrt
   refine zaa fun K15 hK15 => ?_
   have ly4 : y / 16 % 4 < 4 := Nat.mod_lt _ (by decide)
   obtain ⟨q1, q2⟩ := jg3 1 0 1 2 ly4
   obtain ⟨nt, hnt⟩ : ∃ nt, nt = nth [1, 0, 1, 2] (y / 16 % 4) := ⟨_, rfl⟩
   rw [← hnt] at q1 q2
   have hl4 := jyn (a := 1) (b := 0) (c := 1) (d := 2) ly4
   rw [show nth ([1, 0, 1, 2] : List Int) (y / 16 % 4) = (nt : Int) from q1] at hl4
   have hy16 : (y : Int) / 16 = ((y / 16 : Nat) : Int) := by omega
   have hy164 : ((y / 16 : Nat) : Int) % 4 = ((y / 16 % 4 : Nat) : Int) := by omega
   refine szq hp (fun _ hZ => jp7 hZ) ?_
   refine zac ?_
   refine zan hp (fun τ' H' mm => ∃ (k : Nat) (ts : List TG), (k ≤ nt ∧ ts.length = k ∧ ∀ t ∈ ts, 1 ≤ t.w ∧ t.w ≤ 2) ∧ mm = nt - k ∧ H' = [.cells (avs (zbu b i)), z81, zhk, zhl, .cells [.d (sD ⟨#[112]⟩), .d (sD ⟨#[97]⟩), .os 13 6 0 rs.length, .os 27 8 0 ms.length, .os 9 9 0 ts.length, .d (.val (.slice none 0 0))], .cells [.os 1 7 0 rs.length, .os 1 10 0 ts.length, .os 27 8 0 ms.length, .d (oD true)], .cells (avs (rs.flatMap rgC)), .cells (avs (rs.map fun r => iD r.w)), .cells (avs (ms.flatMap mgC)), .cells (avs (ts.flatMap tgC)), .cells (avs (ts.map fun t => iD t.w))] ∧ τ' = frL [(1, .op 0 0), (2, .op 1 0), (3, .op 2 0), (4, .op 3 0), (5, .d (iD y)), (6, .op 4 0), (7, .op 5 0), (12, .d (iD k))]) (nt) ?_ ⟨0, [], ⟨Nat.zero_le _, rfl, fun r hr => by cases hr⟩, rfl, rfl, rfl⟩ ?_
   ·refine Rt.trans (Rt.nilc 4 4 9 rfl rfl) ?_
    refine Rt.trans (Rt.nilc 5 1 1 rfl rfl) ?_
    refine jg4 [0,1,2,3,4,5,6,7,8,9,10] ?_
    refine jg5 ?_
    exact jw3
   rintro τ' H' mm ⟨k, ts, ⟨hk2, htl, htw⟩, rfl, rfl, rfl⟩
   refine zaa fun K17 hK17 => ?_
   refine szq hp (fun _ hZ => zvd (sza hy16 (sza hy164 hl4)) hZ) ?_
   refine zah rfl (fun ht => ?_) (fun ht => ?_)
   ·have hlt : k < nt := by simp at ht; omega
    obtain ⟨n, hn⟩ : ∃ n : Nat, byN b (i + (5 + k)) = n := ⟨(byN b (i + (5 + k))).toNat, by have := (zjj hb (i + (5 + k))).1; omega⟩
    have hn2 := (zjj hb (i + (5 + k))).2
    have hnb := zmi b (i + (5 + k)) hb hl
    rw [hn] at hnb
    have h5k : (5 : Int) + (k : Int) = ((5 + k : Nat) : Int) := by omega
    have hnr2 : (n : Int) % 2 = ((n % 2 : Nat) : Int) := by omega
    have hw1c : (1 : Int) + ((n % 2 : Nat) : Int) = ((1 + n % 2 : Nat) : Int) := by omega
    have ln22 : n % 2 < 2 := Nat.mod_lt _ (by decide)
    refine zaf (hK17 _ _ ?_)
    refine zaa fun K19 hK19 => ?_
    refine zac ?_
    refine zcj zai hp hc za8 rfl [(0, []), (1, []), (2, []), (3, []), (4, []), (5, []), (6, [1]), (7, [1]), (8, []), (9, []), (10, []), (11, []), (12, []), (13, []), (14, [])] [[], [0], [], [], [], [4], [3, 4, 5], [3, 4, 5, 6], [3, 4, 5, 6, 7], [3, 4, 5, 6, 7, 8], [2, 3, 4, 5, 6, 7, 8, 9], [2, 3, 4, 5, 6, 7, 8, 9, 10], [0, 1, 2, 3, 4, 5, 6, 7, 8, 9, 10, 11], [0, 1, 2, 3, 4, 5, 6, 7, 8, 9, 10, 11, 12], [0, 1, 2, 3, 4, 5, 6, 7, 8, 9, 10, 11, 12, 13]] 1 (by kernel_rfl) fun K20 hK20 => ?_
    refine zve (sza h5k (sza hnr2 hw1c)) ?_
    refine zj4 (jj7 b i (5 + k) (by omega) (by omega)) rfl ?_
    refine zve (sza h5k (sza hnr2 hw1c)) ?_
    refine zj4 (hnb) rfl ?_
    refine zve (sza h5k (sza hnr2 hw1c)) ?_
    refine hK20 _ _ ?_
    refine zbg hp (τ' := frL [(1, .op 0 0), (2, .op 1 0), (3, .op 2 0), (4, .op 3 0), (5, .d (iD y)), (6, .op 4 0), (7, .op 5 0), (12, .d (iD k))]) (H' := [.cells (avs (zbu b i)), z81, zhk, zhl, .cells [.d (sD ⟨#[112]⟩), .d (sD ⟨#[97]⟩), .os 13 6 0 rs.length, .os 27 8 0 ms.length, .os 9 9 0 (ts ++ [TG.mk k (1 + n % 2) none]).length, .d (.val (.slice none 0 0))], .cells [.os 1 7 0 rs.length, .os 1 10 0 ts.length, .os 27 8 0 ms.length, .d (oD true)], .cells (avs (rs.flatMap rgC)), .cells (avs (rs.map fun r => iD r.w)), .cells (avs (ms.flatMap mgC)), .cells (avs ((ts ++ [TG.mk k (1 + n % 2) none]).flatMap tgC)), .cells (avs (ts.map fun t => iD t.w))]) ?_ ?_
    ·refine jg4 [0,1,2,3,4,5,6,7,8,13,10] ?_
     refine jg5 ?_
     refine jrh ?_; simp [tgC, exO, jb3, iD, nS, sD, oD]
    have hkt : k < (ts ++ [TG.mk k (1 + n % 2) none]).length := by simp; omega
    have hnk : nth (ts ++ [TG.mk k (1 + n % 2) none]) k = TG.mk k (1 + n % 2) none := by rw [← htl, zgn]
    refine zfj zai hc za8 rfl (q := 2) (by kernel_rfl) (by kernel_rfl) fun K21 hK21 => ?_
    simp -dsimp -implicitDefEqProofs (disch := first | assumption | omega | (simp only [r_z, zcr, zcs, zct, zco] <;> omega) | decide) only [r_r, ↓reduceIte, Nat.reduceEqDiff, Nat.reduceAdd, D.fix, Int.reduceToNat, Nat.reduceMul, Nat.reduceBNe, Nat.reduceBEq, ze8, zbu, z81, zhk, zhl, nS, sD, Int.toNat_natCast, zgj, ycz, hnk, jb4]
    refine hK21 _ _ (hK19 _ _ ?_)
    refine za5 hp zai hc rfl fun K22 hK22 => ?_
    refine zm4 ?_
    refine hK22 _ _ ⟨_, _, _, ?_, ⟨k + 1, ts ++ [TG.mk k (1 + n % 2) none], ⟨by omega, by simp [htl], zdp htw ⟨by show 1 ≤ 1 + n % 2; omega, by show 1 + n % 2 ≤ 2; omega⟩⟩, rfl, rfl, rfl⟩, ?_⟩
    ·first | omega | (simp only [List.length_cons]; omega) | (dsimp only; omega)
    ·refine jg4 [0,1,2,3,4,5,6,7,8,9,12] ?_
     refine jg5 ?_
     refine jrh ?_; simp [iD, oD, sD, nS]
   ·have hkk2 : k = nt := by simp at ht; omega
    have ly64 : y / 64 % 4 < 4 := Nat.mod_lt _ (by decide)
    obtain ⟨r1, r2⟩ := jg3 1 1 0 2 ly64
    obtain ⟨nq, hnq⟩ : ∃ nq, nq = nth [1, 1, 0, 2] (y / 64 % 4) := ⟨_, rfl⟩
    rw [← hnq] at r1 r2
    have hl5 := jyn (a := 1) (b := 1) (c := 0) (d := 2) ly64
    rw [show nth ([1, 1, 0, 2] : List Int) (y / 64 % 4) = (nq : Int) from r1] at hl5
    have hy64 : (y : Int) / 64 = ((y / 64 : Nat) : Int) := by omega
    have hy644 : ((y / 64 : Nat) : Int) % 4 = ((y / 64 % 4 : Nat) : Int) := by omega
    refine zau (hK15 _ _ ?_)
    refine zaa fun K23 hK23 => ?_
    refine szq hp (fun _ hZ => jp7 hZ) ?_
    refine zac ?_
    refine zan hp (fun τ' H' mm => ∃ (k : Nat) (qs : List QG), (k ≤ nq ∧ qs.length = k ∧ ∀ q ∈ qs, 1 ≤ q.w ∧ q.w ≤ 2) ∧ mm = nq - k ∧ H' = [.cells (avs (zbu b i)), z81, zhk, zhl, .cells [.d (sD ⟨#[112]⟩), .d (sD ⟨#[97]⟩), .os 13 6 0 rs.length, .os 27 8 0 ms.length, .os 9 9 0 ts.length, .os 16 11 0 qs.length], .cells [.os 1 7 0 rs.length, .os 1 10 0 ts.length, .os 27 8 0 ms.length, .d (oD true)], .cells (avs (rs.flatMap rgC)), .cells (avs (rs.map fun r => iD r.w)), .cells (avs (ms.flatMap mgC)), .cells (avs (ts.flatMap tgC)), .cells (avs (ts.map fun t => iD t.w)), .cells (avs (qs.flatMap qgC))] ∧ τ' = frL [(1, .op 0 0), (2, .op 1 0), (3, .op 2 0), (4, .op 3 0), (5, .d (iD y)), (6, .op 4 0), (7, .op 5 0), (13, .d (iD k))]) (nq) ?_ ⟨0, [], ⟨Nat.zero_le _, rfl, fun r hr => by cases hr⟩, rfl, rfl, rfl⟩ ?_
    ·refine Rt.trans (Rt.nilc 4 5 16 rfl rfl) ?_
     refine jg4 [0,1,2,3,4,5,6,7,8,9,10,12] ?_
     refine jg5 ?_
     exact jw3
    rintro τ' H' mm ⟨k, qs, ⟨hk3, hql, hqw⟩, rfl, rfl, rfl⟩
    refine zaa fun K25 hK25 => ?_
    refine szq hp (fun _ hZ => zvd (sza hy64 (sza hy644 hl5)) hZ) ?_
    refine zah rfl (fun ht => ?_) (fun ht => ?_)
    ·have hlt : k < nq := by simp at ht; omega
     obtain ⟨n, hn⟩ : ∃ n : Nat, byN b (i + (7 + k)) = n := ⟨(byN b (i + (7 + k))).toNat, by have := (zjj hb (i + (7 + k))).1; omega⟩
     have hn2 := (zjj hb (i + (7 + k))).2
     have hnb := zmi b (i + (7 + k)) hb hl
     rw [hn] at hnb
     have h7k : (7 : Int) + (k : Int) = ((7 + k : Nat) : Int) := by omega
     have hnr2 : (n : Int) % 2 = ((n % 2 : Nat) : Int) := by omega
     have hw1c : (1 : Int) + ((n % 2 : Nat) : Int) = ((1 + n % 2 : Nat) : Int) := by omega
     have htk : (ts.length : Int) + (k : Int) = ((ts.length + k : Nat) : Int) := by omega
     have ln22 : n % 2 < 2 := Nat.mod_lt _ (by decide)
     refine zaf (hK25 _ _ ?_)
     refine zaa fun K27 hK27 => ?_
     refine zac ?_
     refine zl7 zai hp hc za8 rfl [(0, []), (1, []), (2, []), (3, []), (4, []), (5, []), (6, []), (7, []), (8, []), (9, []), (10, [1, 3]), (11, [1, 3]), (12, []), (13, []), (14, []), (15, []), (16, []), (17, []), (18, [])] [[], [0], [], [2], [2, 3], [], [2, 3, 4, 5], [], [], [8], [7, 8, 9], [7, 8, 9, 10], [7, 8, 9, 10, 11], [7, 8, 9, 10, 11, 12], [2, 3, 4, 5, 6, 7, 8, 9, 10, 11, 12, 13], [2, 3, 4, 5, 6, 7, 8, 9, 10, 11, 12, 13, 14], [0, 1, 2, 3, 4, 5, 6, 7, 8, 9, 10, 11, 12, 13, 14, 15], [0, 1, 2, 3, 4, 5, 6, 7, 8, 9, 10, 11, 12, 13, 14, 15, 16], [0, 1, 2, 3, 4, 5, 6, 7, 8, 9, 10, 11, 12, 13, 14, 15, 16, 17]] 1 (by kernel_rfl) fun K28 hK28 => ?_
     refine zve (sza h7k (sza hnr2 (sza hw1c htk))) ?_
     refine zj4 (jj7 b i (7 + k) (by omega) (by omega)) rfl ?_
     refine zve (sza h7k (sza hnr2 (sza hw1c htk))) ?_
     refine zj4 (hnb) rfl ?_
     refine zve (sza h7k (sza hnr2 (sza hw1c htk))) ?_
     refine hK28 _ _ (hK27 _ _ ?_)
     refine za5 hp zai hc rfl fun K29 hK29 => ?_
     refine zm4 ?_
     refine hK29 _ _ ⟨_, _, _, ?_, ⟨k + 1, qs ++ [⟨ts.length + k, 1 + n % 2, none, none⟩], ⟨by omega, by simp [hql], zdp hqw ⟨by show 1 ≤ 1 + n % 2; omega, by show 1 + n % 2 ≤ 2; omega⟩⟩, rfl, rfl, rfl⟩, ?_⟩
     ·first | omega | (simp only [List.length_cons]; omega) | (dsimp only; omega)
     ·refine jg4 [0,1,2,3,4,5,6,7,8,9,10,14] ?_
      refine jg5 ?_
      refine jrh ?_; simp [qgC, exO, jb3, iD, nS, oD, sD]
    ·have hkk3 : k = nq := by simp at ht; omega
     refine zau (hK23 _ _ ?_)
     refine zcj zai hp hc za8 rfl [(0, []), (1, []), (2, []), (3, [0, 1]), (4, [1]), (5, []), (6, [])] [[], [], [], [2], [0, 2, 3], [0, 1, 2, 3, 4], [0, 1, 2, 3, 4, 5]] 0 (by kernel_rfl) fun K30 hK30 => ?_
     refine jw2 ?_
     refine zj4 (jj7 b i 9 (by omega) (by omega)) rfl ?_
     refine jw2 ?_
     refine hK30 _ _ ?_
     refine zbg hp (τ' := frL [(2, .op 6 0), (3, .op 7 0), (4, .op 8 0)]) (H' := [.cells (avs (rs.flatMap rgC)), .cells (avs (rs.map fun r => iD r.w)), .cells (avs (ms.flatMap mgC)), .cells (avs (ts.flatMap tgC)), .cells (avs (ts.map fun t => iD t.w)), .cells (avs (qs.flatMap qgC)), .cells [.d (sD ⟨#[112]⟩), .d (sD ⟨#[97]⟩), .os 13 0 0 rs.length, .os 27 2 0 ms.length, .os 9 3 0 ts.length, .os 16 5 0 qs.length], .cells [.os 1 1 0 rs.length, .os 1 4 0 ts.length, .os 27 2 0 ms.length, .d (oD true)], .cells [.d (bytesD b), .d (iD (i + 9 : Nat))]]) ?_ ?_
     ·refine jg4 [6,7,8,9,10,11,1,2,3] ?_
      refine jg5 ?_
      refine jrh ?_; simp [bytesD, iD, oD, sD]
     refine zal ?_
     try dsimp only [zbm, zaq]
     refine jb1 rfl ?_
     simp -dsimp -implicitDefEqProofs (disch := first | assumption | omega | (simp only [r_z, zcr, zcs, zct, zco] <;> omega) | decide) only [r_r, ↓reduceIte, Nat.reduceEqDiff, Nat.reduceAdd, D.fix, Int.reduceToNat, Nat.reduceMul, Nat.reduceBNe, Nat.reduceBEq, ze8, zbu, z81, zhk, zhl, nS, sD, Int.toNat_natCast, zgj, zpz, zp0, zg0, zg1, zgb, zgc]
     show ∃ _, _
     refine ⟨rs, ms, ts, qs, ⟨by omega, by omega, hrw, hml, hmw, by omega, htw, by omega, hqw⟩, ?_, _, _, _, rfl⟩
     simp [bytesD, iD, oD, sD]
  refine szq hp (fun _ hZ => zvd (sza hyq hyq4) hZ) ?_
  refine zah rfl (fun ht => ?_) (fun ht => ?_)
  ·refine zag hp zai hc rfl fun K32 hK32 => ?_
   refine zm4 ?_
   refine za1 (jj7 b i 4 (by omega) (by omega)) rfl ?_
   refine zm4 ?_
   refine za1 (hnb2) rfl ?_
   refine zm4 ?_
   refine hK32 _ _ ?_
   refine zbg hp (τ' := frL [(1, .op 0 0), (2, .op 1 0), (3, .op 2 0), (4, .op 3 0), (5, .d (iD y)), (6, .op 4 0), (7, .op 5 0), (11, .d (iD n2))]) (H' := [.cells (avs (zbu b i)), z81, zhk, zhl, .cells [.d (sD ⟨#[112]⟩), .d (sD ⟨#[97]⟩), .os 13 6 0 rs.length, .os 27 8 0 0, .d (.val (.slice none 0 0)), .d (.val (.slice none 0 0))], .cells [.os 1 7 0 rs.length, .d (.val (.slice none 0 0)), .d (.val (.slice none 0 0)), .d (oD true)], .cells (avs (rs.flatMap rgC)), .cells (avs (rs.map fun r => iD r.w)), .cells []]) ?_ ?_
   ·refine Rt.trans (Rt.nilc 4 3 27 rfl rfl) ?_
    refine jg4 [0,1,2,3,4,5,6,7,9] ?_
    refine jg5 ?_
    exact jw3
   refine zcj zai hp hc za8 rfl [(0, []), (1, []), (2, []), (3, []), (4, []), (5, []), (6, []), (7, []), (8, []), (9, []), (10, []), (11, []), (12, []), (13, [1, 10]), (14, []), (15, []), (16, []), (17, []), (18, [])] [[], [0], [], [2], [2, 3], [], [], [6], [6, 7], [5, 6, 7, 8], [5, 6, 7, 8, 9], [], [11], [11, 12], [2, 3, 4, 5, 6, 7, 8, 9, 10, 11, 12, 13], [2, 3, 4, 5, 6, 7, 8, 9, 10, 11, 12, 13, 14], [0, 1, 2, 3, 4, 5, 6, 7, 8, 9, 10, 11, 12, 13, 14, 15], [0, 1, 2, 3, 4, 5, 6, 7, 8, 9, 10, 11, 12, 13, 14, 15, 16], [0, 1, 2, 3, 4, 5, 6, 7, 8, 9, 10, 11, 12, 13, 14, 15, 16, 17]] 2 (by kernel_rfl) fun K33 hK33 => ?_
   refine zve (sza hn2q (sza hn2q4 (sza hn2r (sza hn28 (sza hw1c hl3))))) ?_
   refine zyr (jnx (n2 / 8) ⟨#[109, 101, 109, 48]⟩ (by omega)) rfl fun r hr => ?_
   obtain ⟨rk, rf, rn, rfl⟩ := hr; simp only [sD]
   refine zve (sza hn2q (sza hn2q4 (sza hn2r (sza hn28 (sza hw1c hl3))))) ?_
   refine hK33 _ _ ?_
   refine za5 hp zai hc rfl fun K34 hK34 => ?_
   refine zm4 ?_
   refine hK34 _ _ (hJ14 _ _ ⟨_, _, [⟨⟨#[109, 101, 109, 48]⟩, 1 + n2 % 2, wo, none, none, none, rk, rf, rn⟩], ⟨Nat.le_refl _, fun m hm => by rw [List.mem_singleton.1 hm]; exact ⟨by show 1 ≤ 1 + n2 % 2; omega, by show 1 + n2 % 2 ≤ 2; omega, by show wo = 1 ∨ wo = 2 ∨ wo = 4; omega⟩⟩, rfl, rfl, ?_⟩)
   refine jg4 [0,1,2,3,4,5,6,7,11] ?_
   refine jg5 ?_
   refine jrh ?_; simp [mgC, exO, jb3, sD, iD, nS, oD, avs]
  ·refine zaf (hJ14 _ _ ⟨_, _, [], ⟨Nat.zero_le _, fun m hm => by cases hm⟩, rfl, rfl, ?_⟩)
   refine Rt.trans (Rt.nilc 4 3 27 rfl rfl) ?_
   refine Rt.trans (Rt.cell (id := 5) (j := 2) rfl rfl (Imp.nil 27 9 0)) ?_
   refine jg4 [0,1,2,3,4,5,6,7,9] ?_
   refine jg5 ?_
   exact jw3
end Go.Proofs.Ytapjobndmmkanaa
