/- netlist's builder: the bits of an expression. -/
import Derived.Test.YtapjobndmmkanaaQr
import Derived.Test.YtapjobndmmkanaaYm
set_option linter.unusedVariables false
set_option linter.unusedSimpArgs false
set_option maxRecDepth 100000
set_option maxHeartbeats 4000000
namespace Go.Proofs.Ytapjobndmmkanaa
open Go Go.RowKit
theorem zug : ((((((type_of% @zge) ∧ (type_of% @zgf)) ∧ ((type_of% @zdj) ∧ ((type_of% @zdz) ∧ (type_of% @jbk)))) ∧ (((type_of% @jbl) ∧ (type_of% @jbm)) ∧ ((type_of% @jvn) ∧ ((type_of% @zng) ∧ (type_of% @jjv))))) ∧ ((((type_of% @jjw) ∧ (type_of% @jjx)) ∧ ((type_of% @zew) ∧ ((type_of% @zex) ∧ (type_of% @zhv)))) ∧ (((type_of% @jjn) ∧ ((type_of% @zyo) ∧ (type_of% @jf0))) ∧ ((type_of% @zyp) ∧ ((type_of% @jsq) ∧ (type_of% @znf)))))) ∧ (((((type_of% @zz1) ∧ (type_of% @jnx)) ∧ ((type_of% @zd1) ∧ ((type_of% @zey) ∧ (type_of% @zc2)))) ∧ (((type_of% @zee) ∧ (type_of% @zji)) ∧ ((type_of% @zdl) ∧ ((type_of% @zjp) ∧ (type_of% @zjq))))) ∧ ((((type_of% @zmr) ∧ (type_of% @zeo)) ∧ ((type_of% @znx) ∧ ((type_of% @zfb) ∧ (type_of% @zk1)))) ∧ (((type_of% @zk2) ∧ ((type_of% @zms) ∧ (type_of% @znk))) ∧ ((type_of% @ztu) ∧ ((type_of% @zzu) ∧ (type_of% @zga))))))) := ⟨⟨⟨⟨⟨@zge, @zgf⟩, ⟨@zdj, ⟨@zdz, @jbk⟩⟩⟩, ⟨⟨@jbl, @jbm⟩, ⟨@jvn, ⟨@zng, @jjv⟩⟩⟩⟩, ⟨⟨⟨@jjw, @jjx⟩, ⟨@zew, ⟨@zex, @zhv⟩⟩⟩, ⟨⟨@jjn, ⟨@zyo, @jf0⟩⟩, ⟨@zyp, ⟨@jsq, @znf⟩⟩⟩⟩⟩, ⟨⟨⟨⟨@zz1, @jnx⟩, ⟨@zd1, ⟨@zey, @zc2⟩⟩⟩, ⟨⟨@zee, @zji⟩, ⟨@zdl, ⟨@zjp, @zjq⟩⟩⟩⟩, ⟨⟨⟨@zmr, @zeo⟩, ⟨@znx, ⟨@zfb, @zk1⟩⟩⟩, ⟨⟨@zk2, ⟨@zms, @znk⟩⟩, ⟨@ztu, ⟨@zzu, @zga⟩⟩⟩⟩⟩⟩
theorem ydi {t et : TypeId} (h0 : zkq Try.prog t = some (3, et)) {a : Int} (ha : I64 a) : zsa Try.prog t (.int .i64 a) := by
 refine ⟨rfl, fun kt et' hm => ?_⟩
 rw [h0] at hm; cases hm
 exact jfd Try.underlying3 ha
structure BEOk (e : BE) : Prop where
 i : e.ins = zfi e.p
 m : InM e.ins e.mi
 l : e.ins.length ≤ 1000
 k : PrOk e.p
 rl : e.p.regs.length ≤ 100
theorem BEOk.mp {e : BE} (h : BEOk e) : mP e.p = mE2 e := by unfold mP mE2; rw [h.i]
def zfj (e : BE) (gs : Gs) (ex : Ex) : Gs × List Int := zbz (ctP e.p) (inp e.p) (mE2 e) e.dat gs ex
theorem zwj {e : BE} (h : BEOk e) (gs : Gs) (ex : Ex) : zfj e gs ex = zcp e.p e.dat gs ex := by unfold zfj zcp; rw [h.mp]
def jyc (e : BE) (q : Bool) (ex : Ex) : Prop := ∀ (gs : Gs) (μ : Mp), BOk e gs μ → DaOk (ctP e.p) q (mE2 e) gs e.dat → WT (ctP e.p) q ex → gs.length + za0 (ctP e.p) ex ≤ 90000 →
 ScS Try.prog [0, 1, 3, 4, 5, 6, 7] 99 [.op 0 0, .agg ((exS ex).map .d)] (bH e gs μ) (jxg e (zfj e gs ex))
abbrev tPm : TypeId := 220
theorem zfc {l : List Ex} {k : Nat} (h : k < l.length) : zbv (l.flatMap exC) (k * 7) 7 = some (exS (nth l k)) := by rw [← zho]; exact jwc h
theorem ydj {f : Fn} {x y : Array Value} : zch (.d (.val (.func f x y))) = some [.d (.val (.func f x y))] := rfl
theorem ydk : zch (.d (.val .nilFunc)) = some [.d (.val .nilFunc)] := rfl
theorem jyd {c : Ct} {q : Bool} {e : Ex} (h : WT c q e) : 1 ≤ zdg e ∧ zdg e ≤ 18 := by
 cases e with
 | two o a b => rcases h.1 with rfl | rfl | rfl <;> simp [zdg]
 | _ => simp [zdg]
theorem ya5 : mtB Try.prog KT tPm = some .nilFunc := by kernel_rfl
theorem zow {a : Int} (h0 : -1000000 ≤ a) (h1 : a ≤ 1000000) : zsa Try.prog tPm (.int .i64 a) := ydi (et := 219) (by kernel_rfl) (zpp (by omega) (by omega))
theorem ya6 (o : Int) : zr9 (.int .i64 o) (zyi (.int .i64 5) (.func (.func 124) #[] #[]) (zyi (.int .i64 4) (.func (.func 122) #[] #[]) (zyi (.int .i64 3) (.func (.func 102) #[] #[]) ([], 0)))) =
  if o = 5 then some (.func (.func 124) #[] #[]) else if o = 4 then some (.func (.func 122) #[] #[]) else if o = 3 then some (.func (.func 102) #[] #[]) else none := by
 classical
 rw [zk0 rfl rfl, zk0 rfl rfl, zk0 rfl rfl]
 simp only [Value.int.injEq, true_and]
 rfl
theorem ya7 {l : List (List Int)} (h : l.length = 1) : l = [nth l 0] := by
 match l, h with
 | [a], _ => rfl
theorem jox {l : List (List Int)} (h : l.length = 2) : l = [nth l 0, nth l 1] := by
 match l, h with
 | [a, b], _ => rfl
theorem yhe {l : List (List Int)} (h : l.length = 3) : l = [nth l 0, nth l 1, nth l 2] := by
 match l, h with
 | [a, b, d], _ => rfl
theorem zdm {p q : Prop} (hq : q) (h : p = q := by
 conv => lhs; simp -dsimp -implicitDefEqProofs (disch := first | assumption | omega | (simp only [r_z, zab, zac, zbt] <;> omega) | decide) only [r_r, ↓reduceIte, Nat.reduceEqDiff, Nat.reduceAdd, D.fix, Int.reduceToNat, Nat.reduceMul, Nat.reduceBNe, Nat.reduceBEq, r_m, bH, bO, zar, zav, bP, exS, exR, nS, zfc, zv4, intssD, List.cons_append, List.nil_append, zug]) : p := h.mpr hq
theorem zh6 (k : List Nat) {m : List Nat} {τ τ1 : Fr} {H H1 : zae} (h : Rt m (fun t => gcV k (τ t)) (gcH k H) τ1 H1) (a : ∀ i ∈ m, k[i]? = some i := by decide) (b : k.Nodup := by decide) (c : ∀ i ∈ k, i < H.length := by
 simp [fzH, gcH]) : Rt m τ H τ1 H1 := Rt.trans (Rt.gc a b c) h
theorem zh7 {m : List Nat} {τ τ' : Fr} {H H' : zae} (h2 : H = H') (h : zfq τ τ' := by
 repeat (first | exact zas _ | refine zao ?_ (by first | rfl | (simp [r_f, zab, zac, zbt]; done) | simp [r_f, zab, zac, zbt, *]))) : Rt m τ H τ' H' := Rt.end h h2
theorem zl2 {p q : Prop} (hq : q) (h : p = q := by
 conv => lhs; simp -dsimp -implicitDefEqProofs (disch := first | assumption | omega | (simp only [r_z, zab, zac, zbt] <;> omega) | decide) only [r_r, ↓reduceIte, Nat.reduceEqDiff, Nat.reduceAdd, D.fix, Int.reduceToNat, Nat.reduceMul, Nat.reduceBNe, Nat.reduceBEq, r_w, r_m, bH, bO, zar, zav, bP, exS, exR, nS, zfc, zv4, intssD, List.cons_append, List.nil_append, zug]) : p := h.mpr hq
theorem jk3 {P : Program} {sm : List Nat} {N : Nat} {τ0 τ : Fr} {H : zae} {f : FuncId} {args : List AV} {K0 KK : AV → zae → Prop} {ks : List Nat} (S T : zae) (h : ScS P ks f args S K0) (hK : ∀ x S', K0 x S' → S'.length = S.length ∧ KK x (S' ++ T)) (hH : H = S ++ T := by
 rfl) (hN : S.length ≤ N := by
 exact Nat.le_of_ble_eq_true rfl) (hm : sm.all (okI ks S.length) = true := by
 first | rfl | (simp [AV.allIs, AV.allI, zaq, zah, zai, okI, ltI, zad, zax, bH, bO, bP, exS, exR]; done) | (intro o ho; simp at ho; done)) (hτ : ∀ t, (τ t).allI (okI ks S.length) = true := by
 exact fun t => zbi (by first | rfl | (simp [AV.allIs, AV.allI, zaq, zah, zai, okI, ltI, zad, zax, bH, bO, bP, exS, exR]; done) | (intro o ho; simp at ho; done)) t) (h0 : ∀ t, (τ0 t).allI (okI ks S.length) = true := by
 exact fun t => zbi (by first | rfl | (simp [AV.allIs, AV.allI, zaq, zah, zai, okI, ltI, zad, zax, bH, bO, bP, exS, exR]; done) | (intro o ho; simp at ho; done)) t) (ha : AV.allIs (ltI S.length) args = true := by
 first | rfl | (simp [AV.allIs, AV.allI, zaq, zah, zai, okI, ltI, zad, zax, bH, bO, bP, exS, exR]; done) | (intro o ho; simp at ho; done)) (hS : ∀ o ∈ S, o.allI (ltI S.length) = true := by
 first | rfl | (simp [AV.allIs, AV.allI, zaq, zah, zai, okI, ltI, zad, zax, bH, bO, bP, exS, exR]; done) | (intro o ho; simp at ho; done)) (hT : ∀ o ∈ T, o.allI (okI ks S.length) = true := by
 first | rfl | (simp [AV.allIs, AV.allI, zaq, zah, zai, okI, ltI, zad, zax, bH, bO, bP, exS, exR]; done) | (intro o ho; simp at ho; done)) : kE P sm N τ0 τ H (.d (.val (.func (.func f) #[] #[]))) args (tg KK) := zlu h hH hN hm hτ h0 ha hS hT hK
theorem jk4 {p q r : Prop} (e : r) (hq : q) (h : r → p = q := by
 intro hY
 conv => lhs; simp -dsimp -implicitDefEqProofs (disch := first | assumption | omega | (simp only [r_z, zab, zac, zbt] <;> omega) | decide) only [r_r, ↓reduceIte, Nat.reduceEqDiff, Nat.reduceAdd, D.fix, Int.reduceToNat, Nat.reduceMul, Nat.reduceBNe, Nat.reduceBEq, r_m, bH, bO, zar, zav, bP, exS, exR, nS, zfc, zv4, intssD, List.cons_append, List.nil_append, ydj, ydk, ztn, jvi ya5 hko o3, Option.getD_some, Option.getD_none, Option.isSome_some, Option.isSome_none, zug, hY]) : p := (h e).mpr hq
theorem jk5 {p q : Prop} (hq : q) (h : p = q := by
 conv => lhs; simp -dsimp -implicitDefEqProofs (disch := first | assumption | omega | (simp only [r_z, zab, zac, zbt] <;> omega) | decide) only [r_r, ↓reduceIte, Nat.reduceEqDiff, Nat.reduceAdd, D.fix, Int.reduceToNat, Nat.reduceMul, Nat.reduceBNe, Nat.reduceBEq, r_m, bH, bO, zar, zav, bP, exS, exR, nS, zfc, zv4, intssD, List.cons_append, List.nil_append]) : p := h.mpr hq
theorem jye {P : Program} {sm : List Nat} {N : Nat} {τ : Fr} {H : zae} {f : FuncId} {args : List AV} {K0 KK : AV → zae → Prop} {ks : List Nat} (S T : zae) (h : ScS P ks f args S K0) (hK : ∀ x S', K0 x S' → S'.length = S.length ∧ KK x (S' ++ T)) (hH : H = S ++ T := by
 rfl) (hm : sm.all (okI ks S.length) = true := by
 first | rfl | (simp [AV.allIs, AV.allI, zaq, zah, zai, okI, ltI, zad, zax, bH, bO, bP, exS, exR]; done) | (intro o ho; simp at ho; done)) (hτ : ∀ t, (τ t).allI (okI ks S.length) = true := by
 exact fun t => zbi (by first | rfl | (simp [AV.allIs, AV.allI, zaq, zah, zai, okI, ltI, zad, zax, bH, bO, bP, exS, exR]; done) | (intro o ho; simp at ho; done)) t) (ha : AV.allIs (ltI S.length) args = true := by
 first | rfl | (simp [AV.allIs, AV.allI, zaq, zah, zai, okI, ltI, zad, zax, bH, bO, bP, exS, exR]; done) | (intro o ho; simp at ho; done)) (hS : ∀ o ∈ S, o.allI (ltI S.length) = true := by
 first | rfl | (simp [AV.allIs, AV.allI, zaq, zah, zai, okI, ltI, zad, zax, bH, bO, bP, exS, exR]; done) | (intro o ho; simp at ho; done)) (hT : ∀ o ∈ T, o.allI (okI ks S.length) = true := by
 first | rfl | (simp [AV.allIs, AV.allI, zaq, zah, zai, okI, ltI, zad, zax, bH, bO, bP, exS, exR]; done) | (intro o ho; simp at ho; done)) : kC P sm N H τ (.d (.val (.func (.func f) #[] #[]))) args true (tg KK) := zjo h hH hm hτ ha hS hT hK
theorem jk6 {p q r : Prop} (e : r) (hq : q) (h : r → p = q := by
 intro hY
 conv => lhs; simp -dsimp -implicitDefEqProofs (disch := first | assumption | omega | (simp only [r_z, zab, zac, zbt] <;> omega) | decide) only [r_r, ↓reduceIte, Nat.reduceEqDiff, Nat.reduceAdd, D.fix, Int.reduceToNat, Nat.reduceMul, Nat.reduceBNe, Nat.reduceBEq, r_w, r_m, bH, bO, zar, zav, bP, exS, exR, nS, zfc, zv4, intssD, List.cons_append, List.nil_append, zug, hY]) : p := (h e).mpr hq
theorem jk7 {p q r : Prop} (e : r) (hq : q) (h : r → p = q := by
 intro hY
 conv => lhs; simp -dsimp -implicitDefEqProofs (disch := first | assumption | omega | (simp only [r_z, zab, zac, zbt] <;> omega) | decide) only [r_r, ↓reduceIte, Nat.reduceEqDiff, Nat.reduceAdd, D.fix, Int.reduceToNat, Nat.reduceMul, Nat.reduceBNe, Nat.reduceBEq, r_m, bH, bO, zar, zav, bP, exS, exR, nS, zfc, zv4, intssD, List.cons_append, List.nil_append, false_and, zug, hY]) : p := (h e).mpr hq
theorem jyf {p q r : Prop} (e : r) (hq : q) (h : r → p = q := by
 intro hY
 conv => lhs; simp -dsimp -implicitDefEqProofs (disch := first | assumption | omega | (simp only [r_z, zab, zac, zbt] <;> omega) | decide) only [r_r, ↓reduceIte, Nat.reduceEqDiff, Nat.reduceAdd, D.fix, Int.reduceToNat, Nat.reduceMul, Nat.reduceBNe, Nat.reduceBEq, r_m, bH, bO, zar, zav, bP, exS, exR, nS, zfc, zv4, intssD, List.cons_append, List.nil_append, zug, hY]) : p := (h e).mpr hq
theorem ydl {p q : Prop} (hq : q) (h : p = q := by
 conv => lhs; simp only [r_g, Nat.reduceAdd, ↓reduceIte, Nat.reduceEqDiff, r_m, bH, bO, zar, zav, bP, exS, exR, nS, zfc, zv4, intssD, List.cons_append, List.nil_append]) : p := h.mpr hq
theorem zjm {p : Prop} (h : p := by
 first | rfl | (simp only [r_g, Nat.reduceAdd, ↓reduceIte, Nat.reduceEqDiff, r_m, bH, bO, zar, zav, bP, exS, exR, nS, zfc, zv4, intssD, List.cons_append, List.nil_append]; first | done | rfl)) : p := h
theorem jyg (e : BE) (he : BEOk e) (q : Bool) (ex : Ex) (ih : ∀ k, k < (zbk ex).length → jyc e q (nth (zbk ex) k)) (gs : Gs) (μ : Mp) (h : BOk e gs μ) (hda : DaOk (ctP e.p) q (mE2 e) gs e.dat) (hwt : WT (ctP e.p) q ex) (hcl : gs.length + za0 (ctP e.p) ex ≤ 90000) : ScS Try.prog [0, 1, 3, 4, 5, 6, 7] 99 [.op 0 0, .agg ((exS ex).map .d)] (bH e gs μ) (jxg e (zfj e gs ex)) := by
 refine zbh (fn := Try.f99) (by kernel_rfl) Try.func99 rfl (Nat.le_of_ble_eq_true rfl) fun c hc hp => ?_
 refine zc1 ?_
 obtain ⟨S, hS⟩ : ∃ S : Nat → Gs × List (List Int), S = joi (zfj e) gs (zbk ex) := ⟨_, rfl⟩
 have hso : ∀ k, k ≤ (zbk ex).length → ArgOk (ctP e.p) (mE2 e) gs (zbk ex) k (S k) := by
  rw [hS]; exact joj (q := q) zf2 he.k.ct (by rw [← he.mp]; exact yar he.k) h.g hda (zce hwt)
 have hcs := jkf (c := ctP e.p) (e := ex)
 have hsl : (zbk ex).length ≤ 3 := by cases ex <;> simp [zbk]
 have i1 := h.i; have l1 := h.l
 refine szq hp (fun _ hZ => zdm hZ) ?_
 refine szq hp (fun _ hZ => zdm hZ) ?_
 refine zaa fun K3 hK3 => ?_
 refine szq hp (fun _ hZ => zdm hZ) ?_
 refine zaf ?_
 refine zan hp (fun τ' H' mm => ∃ (k : Nat) (μ1 : Mp), (k ≤ (zbk ex).length ∧ NdM (mE2 e) (S k).1 μ1) ∧ mm = (zbk ex).length - k ∧ H' = bH e (S k).1 μ1 ++ [bP, .cells (avs (exS ex)), .cells [.os 1 11 0 k], .cells (avs ((S k).2.map intsD))] ∧ τ' = frL [(2, .op 8 0), (3, .op 9 0), (5, .op 10 0), (15, .d (.fs ((zbk ex).flatMap exC) (zbk ex).length)), (16, .d (iD (zbk ex).length)), (17, .d (iD k))]) ((zbk ex).length) ?_ ⟨0, μ, ⟨Nat.zero_le _, by rw [hS]; exact h.n⟩, rfl, rfl, rfl⟩ ?_
 ·refine Rt.trans (Rt.nilc 10 0 1 rfl rfl) ?_
  refine zh6 [0,1,2,3,4,5,6,7,8,9,10,11] ?_
  refine zh7 ?_
  refine ydl ?_; rw [hS]; simp [joi, bH, bO, bP, avs, exS, exR, iD]
 rintro τ' H' mm ⟨k, μ1, ⟨hk, hn1⟩, rfl, rfl, rfl⟩
 refine szq hp (fun _ hZ => zdm hZ) ?_
 refine zaa fun K6 hK6 => ?_
 refine zal rfl (fun ht => ?_) (fun ht => ?_)
 ·have hlt : k < (zbk ex).length := by simp at ht; omega
  have ha := hso k hk
  have hln := ha.ln
  have hcm := jac (c := ctP e.p) (l := zbk ex) (show k + 1 ≤ (zbk ex).length by omega)
  have hle := ha.len
  rw [zld] at hcm
  have h1 : BOk e (S k).1 μ1 := ⟨hn1, ha.gi, h.i, by omega⟩
  have hcall := ih k hlt (S k).1 μ1 h1 (hda.pre ha.pre) (zce hwt k hlt) (by omega)
  have es : S (k + 1) = ((zfj e (S k).1 (nth (zbk ex) k)).1, (S k).2 ++ [(zfj e (S k).1 (nth (zbk ex) k)).2]) := by rw [hS, joi]
  clear hS
  refine zaj (hK6 _ _ ?_)
  refine zaa fun K7 hK7 => ?_
  refine zaf ?_
  refine szq hp (fun _ hZ => zdm hZ) ?_
  refine zkz zak hp hc mixed rfl [(0, []), (1, []), (2, []), (3, [0]), (4, []), (5, []), (6, [])] [[], [], [], [1, 2], [1, 2, 3], [0, 1, 2, 3, 4], [0, 1, 2, 3, 4, 5]] 1 (by kernel_rfl) fun K9 hK9 => ?_
  refine zl2 ?_
  refine jk3 (bH e (S k).1 μ1) ([bP, .cells (avs (exS ex)), .cells [.os 1 11 0 k], .cells (avs ((S k).2.map intsD)), .cells (avs (exS (nth (zbk ex) k))), .free]) (hcall) ?_
  rintro _ _ ⟨μ2, hn2, rfl, rfl⟩
  refine ⟨rfl, ?_⟩
  refine zl2 ?_
  refine hK9 _ _ (hK7 _ _ ?_)
  refine za1 hp zak hc rfl fun K10 hK10 => ?_
  refine zdm ?_
  refine hK10 _ _ ⟨_, _, _, ?_, ⟨k + 1, μ2, ⟨by omega, by rw [es]; exact hn2⟩, rfl, rfl, rfl⟩, ?_⟩
  ·first | omega | (simp only [List.length_cons]; omega) | (dsimp only; omega)
  ·refine zh6 [0,1,2,3,4,5,6,7,8,9,10,14] ?_
   refine zh7 ?_
   refine ydl ?_; simp [es, iD, intsD, bH, bO, bP, avs, exS, exR, zar]
 ·have hkk : k = (zbk ex).length := by simp at ht; omega
  subst hkk
  have ha := hso _ (Nat.le_refl _)
  have hle := ha.len
  have hln := ha.ln
  obtain ⟨T, hT⟩ : ∃ T, T = S (zbk ex).length := ⟨_, rfl⟩
  rw [← hT] at ha hle hn1 hln
  rw [← hT]
  have h1 : BOk e T.1 μ1 := ⟨hn1, ha.gi, h.i, by omega⟩
  have hd1 := hda.pre ha.pre
  have htk : zbv (T.2.map intsD) 0 (zbk ex).length = some (T.2.map intsD) := zbf (by simp [hln])
  refine zau (hK3 _ _ ?_)
  refine zat hp (τ' := frL [(2, .op 8 0), (3, .op 9 0), (5, .op 10 0)]) (H' := bH e T.1 μ1 ++ [bP, .cells (avs (exS ex)), .cells [.d (.fs (T.2.map intsD) (zbk ex).length)]]) ?_ ?_
  ·refine Rt.trans (Rt.fz (id := 11) (l := (T.2.map intsD)) rfl) ?_
   refine zh6 [0,1,2,3,4,5,6,7,8,9,10] ?_
   refine zh7 ?_
   refine ydl ?_; simp only [bH, bO, bP, exS, exR, nS, iD, List.cons_append, List.nil_append, htk]; rfl
  refine za5 zak hc mixed rfl (q := 1) (by kernel_rfl) (by kernel_rfl) fun K11 hK11 => ?_
  refine zdm ?_
  refine hK11 _ _ ?_
  have k3 := zow (a := 3) (by decide) (by decide)
  have k4 := zow (a := 4) (by decide) (by decide)
  have k5 := zow (a := 5) (by decide) (by decide)
  have o1 : OkM Try.prog tPm (zyi (.int .i64 3) (.func (.func 102) #[] #[]) ([], 0)) := (OkM.nil _ _).put k3
  have o2 := o1.put (v := .func (.func 122) #[] #[]) k4
  have o3 := o2.put (v := .func (.func 124) #[] #[]) k5
  refine zag hp zak hc rfl fun K12 hK12 => ?_
  simp -dsimp -implicitDefEqProofs (disch := first | assumption | omega | (simp only [r_z, zab, zac, zbt] <;> omega) | decide) only [r_r, ↓reduceIte, Nat.reduceEqDiff, Nat.reduceAdd, D.fix, Int.reduceToNat, Nat.reduceMul, Nat.reduceBNe, Nat.reduceBEq, r_m, bH, bO, zar, zav, bP, exS, exR, nS, zfc, zv4, intssD, List.cons_append, List.nil_append, jfh ya5 k3 (OkM.nil _ _), jfh ya5 k4 o1, jfh ya5 k5 o2, zug]
  refine hK12 _ _ ?_
  refine zaa fun K13 hK13 => ?_
  refine zag hp zak hc rfl fun K14 hK14 => ?_
  rcases (show zdg ex = 3 ∨ zdg ex = 4 ∨ zdg ex = 5 ∨ (zdg ex ≠ 3 ∧ zdg ex ≠ 4 ∧ zdg ex ≠ 5) by omega) with ho | ho | ho | ho
  ·have hko := zow (a := zdg ex) (by omega) (by omega)
   have hgm := ya6 (zdg ex)
   rw [if_neg (by omega), if_neg (by omega), if_pos ho] at hgm
   refine jk4 hgm ?_
   refine hK14 _ _ ?_
   refine szq hp (fun _ hZ => jk5 hZ) ?_
   refine szt ?_
   obtain ⟨a, b, hform⟩ : ∃ a b, ex = .two 3 a b := by
    have hv : zdg ex = 3 := ho
    rcases zcx hwt with ⟨v, w, rfl⟩ | ⟨i, rfl⟩ | ⟨i, rfl⟩ | ⟨a, rfl⟩ | ⟨a, b, rfl⟩ | ⟨a, b, rfl⟩ | ⟨a, b, rfl⟩ | ⟨a, b, rfl⟩ | ⟨a, b, rfl⟩ | ⟨a, b, rfl⟩ | ⟨a, b, rfl⟩ | ⟨a, b, d, rfl⟩ | ⟨a, b, rfl⟩ | ⟨i, w, a, rfl⟩ | ⟨w, a, rfl⟩ | ⟨i, a, rfl⟩ <;> first | exact ⟨_, _, rfl⟩ | (exfalso; revert hv; simp [zdg]; done)
   subst hform
   obtain ⟨X, hX⟩ : ∃ X, X = nth T.2 0 := ⟨_, rfl⟩
   have wX : X.length = zb4 (ctP e.p) a := by rw [hX]; exact ha.wid 0 (by simp [zbk])
   have nX : NdL (mE2 e) T.1 X X.length := fun i hi => by rw [hX]; exact ha.nd 0 (by simp [zbk]) i (by rw [wX] at hi; exact hi)
   have bX := zcn he.k.ct (zce hwt 0 (by simp [zbk]))
   simp only [zbk, nth, List.getD_cons_zero, List.getD_cons_succ] at bX
   obtain ⟨Y, hY⟩ : ∃ Y, Y = nth T.2 1 := ⟨_, rfl⟩
   have wY : Y.length = zb4 (ctP e.p) b := by rw [hY]; exact ha.wid 1 (by simp [zbk])
   have nY : NdL (mE2 e) T.1 Y Y.length := fun i hi => by rw [hY]; exact ha.nd 1 (by simp [zbk]) i (by rw [wY] at hi; exact hi)
   have bY := zcn he.k.ct (zce hwt 1 (by simp [zbk]))
   simp only [zbk, nth, List.getD_cons_zero, List.getD_cons_succ] at bY
   have hL : T.2 = [X, Y] := by rw [hX]; rw [hY]; exact jox ha.ln
   have wt2 := hwt.2.2.2
   have lXY : Y.length = X.length := by rw [wX, wY]; exact wt2.symm
   have nYX : NdL (mE2 e) T.1 Y X.length := by rw [← lXY]; exact nY
   have hres : zfj e gs (.two 3 a b) = zu2 (mE2 e) T.1 X Y X.length := by rw [hX, hY, hT, hS]; rfl
   have hwx : za0 (ctP e.p) (.two 3 a b) = za0 (ctP e.p) a + za0 (ctP e.p) b + zb4 (ctP e.p) a := rfl
   have hcx : zld (ctP e.p) (zbk (.two 3 a b)) (zbk (.two 3 a b)).length = za0 (ctP e.p) a + za0 (ctP e.p) b := by simp [zbk, zld, nth]
   rw [hL]
   refine zat hp (τ' := frL [(2, .op 8 0), (5, .op 9 0), (11, .op 10 0)]) (H' := bH e T.1 μ1 ++ [bP, .cells [.d (intssD [X, Y])], .cells [.d (.val (.func (.func 102) #[] #[]))]]) ?_ ?_
   ·refine zh6 [0,1,2,3,4,5,6,7,8,10,13] ?_
    refine zh7 ?_
    exact zjm
   refine zag hp zak hc rfl fun K16 hK16 => ?_
   refine zdm ?_
   refine jye (bH e T.1 μ1 ++ [bP, .cells [.d (intssD [X, Y])], .cells [.d (.val (.func (.func 102) #[] #[]))]]) ([]) (jkw e T.1 μ1 X Y h1 nX nYX lXY (by omega) (by omega)) ?_
   rintro _ _ ⟨μ2, hn2, rfl, rfl⟩
   refine ⟨rfl, ?_⟩
   refine zdm ?_
   refine hK16 _ _ ?_
   refine zat hp (τ' := frL [(4, .d (intsD (zu2 (mE2 e) T.1 X Y X.length).2))]) (H' := bH e (zu2 (mE2 e) T.1 X Y X.length).1 μ2) ?_ ?_
   ·refine zh6 [0,1,2,3,4,5,6,7] ?_
    refine zh7 ?_
    exact zjm
   refine zam ?_
   refine zap (t := 4) rfl ?_
   show ∃ _, _
   rw [hres]; exact ⟨μ2, hn2, rfl, rfl⟩
  ·have hko := zow (a := zdg ex) (by omega) (by omega)
   have hgm := ya6 (zdg ex)
   rw [if_neg (by omega), if_pos ho] at hgm
   refine jk4 hgm ?_
   refine hK14 _ _ ?_
   refine szq hp (fun _ hZ => jk5 hZ) ?_
   refine szt ?_
   obtain ⟨a, b, hform⟩ : ∃ a b, ex = .two 4 a b := by
    have hv : zdg ex = 4 := ho
    rcases zcx hwt with ⟨v, w, rfl⟩ | ⟨i, rfl⟩ | ⟨i, rfl⟩ | ⟨a, rfl⟩ | ⟨a, b, rfl⟩ | ⟨a, b, rfl⟩ | ⟨a, b, rfl⟩ | ⟨a, b, rfl⟩ | ⟨a, b, rfl⟩ | ⟨a, b, rfl⟩ | ⟨a, b, rfl⟩ | ⟨a, b, d, rfl⟩ | ⟨a, b, rfl⟩ | ⟨i, w, a, rfl⟩ | ⟨w, a, rfl⟩ | ⟨i, a, rfl⟩ <;> first | exact ⟨_, _, rfl⟩ | (exfalso; revert hv; simp [zdg]; done)
   subst hform
   obtain ⟨X, hX⟩ : ∃ X, X = nth T.2 0 := ⟨_, rfl⟩
   have wX : X.length = zb4 (ctP e.p) a := by rw [hX]; exact ha.wid 0 (by simp [zbk])
   have nX : NdL (mE2 e) T.1 X X.length := fun i hi => by rw [hX]; exact ha.nd 0 (by simp [zbk]) i (by rw [wX] at hi; exact hi)
   have bX := zcn he.k.ct (zce hwt 0 (by simp [zbk]))
   simp only [zbk, nth, List.getD_cons_zero, List.getD_cons_succ] at bX
   obtain ⟨Y, hY⟩ : ∃ Y, Y = nth T.2 1 := ⟨_, rfl⟩
   have wY : Y.length = zb4 (ctP e.p) b := by rw [hY]; exact ha.wid 1 (by simp [zbk])
   have nY : NdL (mE2 e) T.1 Y Y.length := fun i hi => by rw [hY]; exact ha.nd 1 (by simp [zbk]) i (by rw [wY] at hi; exact hi)
   have bY := zcn he.k.ct (zce hwt 1 (by simp [zbk]))
   simp only [zbk, nth, List.getD_cons_zero, List.getD_cons_succ] at bY
   have hL : T.2 = [X, Y] := by rw [hX]; rw [hY]; exact jox ha.ln
   have wt2 := hwt.2.2.2
   have lXY : Y.length = X.length := by rw [wX, wY]; exact wt2.symm
   have nYX : NdL (mE2 e) T.1 Y X.length := by rw [← lXY]; exact nY
   have hres : zfj e gs (.two 4 a b) = orW (mE2 e) T.1 X Y X.length := by rw [hX, hY, hT, hS]; rfl
   have hwx : za0 (ctP e.p) (.two 4 a b) = za0 (ctP e.p) a + za0 (ctP e.p) b + zb4 (ctP e.p) a := rfl
   have hcx : zld (ctP e.p) (zbk (.two 4 a b)) (zbk (.two 4 a b)).length = za0 (ctP e.p) a + za0 (ctP e.p) b := by simp [zbk, zld, nth]
   rw [hL]
   refine zat hp (τ' := frL [(2, .op 8 0), (5, .op 9 0), (11, .op 10 0)]) (H' := bH e T.1 μ1 ++ [bP, .cells [.d (intssD [X, Y])], .cells [.d (.val (.func (.func 122) #[] #[]))]]) ?_ ?_
   ·refine zh6 [0,1,2,3,4,5,6,7,8,10,13] ?_
    refine zh7 ?_
    exact zjm
   refine zag hp zak hc rfl fun K18 hK18 => ?_
   refine zdm ?_
   refine jye (bH e T.1 μ1 ++ [bP, .cells [.d (intssD [X, Y])], .cells [.d (.val (.func (.func 122) #[] #[]))]]) ([]) (jq8 e T.1 μ1 X Y h1 nX nYX lXY (by omega) (by omega)) ?_
   rintro _ _ ⟨μ2, hn2, rfl, rfl⟩
   refine ⟨rfl, ?_⟩
   refine zdm ?_
   refine hK18 _ _ ?_
   refine zat hp (τ' := frL [(4, .d (intsD (orW (mE2 e) T.1 X Y X.length).2))]) (H' := bH e (orW (mE2 e) T.1 X Y X.length).1 μ2) ?_ ?_
   ·refine zh6 [0,1,2,3,4,5,6,7] ?_
    refine zh7 ?_
    exact zjm
   refine zam ?_
   refine zap (t := 4) rfl ?_
   show ∃ _, _
   rw [hres]; exact ⟨μ2, hn2, rfl, rfl⟩
  ·have hko := zow (a := zdg ex) (by omega) (by omega)
   have hgm := ya6 (zdg ex)
   rw [if_pos ho] at hgm
   refine jk4 hgm ?_
   refine hK14 _ _ ?_
   refine szq hp (fun _ hZ => jk5 hZ) ?_
   refine szt ?_
   obtain ⟨a, b, hform⟩ : ∃ a b, ex = .two 5 a b := by
    have hv : zdg ex = 5 := ho
    rcases zcx hwt with ⟨v, w, rfl⟩ | ⟨i, rfl⟩ | ⟨i, rfl⟩ | ⟨a, rfl⟩ | ⟨a, b, rfl⟩ | ⟨a, b, rfl⟩ | ⟨a, b, rfl⟩ | ⟨a, b, rfl⟩ | ⟨a, b, rfl⟩ | ⟨a, b, rfl⟩ | ⟨a, b, rfl⟩ | ⟨a, b, d, rfl⟩ | ⟨a, b, rfl⟩ | ⟨i, w, a, rfl⟩ | ⟨w, a, rfl⟩ | ⟨i, a, rfl⟩ <;> first | exact ⟨_, _, rfl⟩ | (exfalso; revert hv; simp [zdg]; done)
   subst hform
   obtain ⟨X, hX⟩ : ∃ X, X = nth T.2 0 := ⟨_, rfl⟩
   have wX : X.length = zb4 (ctP e.p) a := by rw [hX]; exact ha.wid 0 (by simp [zbk])
   have nX : NdL (mE2 e) T.1 X X.length := fun i hi => by rw [hX]; exact ha.nd 0 (by simp [zbk]) i (by rw [wX] at hi; exact hi)
   have bX := zcn he.k.ct (zce hwt 0 (by simp [zbk]))
   simp only [zbk, nth, List.getD_cons_zero, List.getD_cons_succ] at bX
   obtain ⟨Y, hY⟩ : ∃ Y, Y = nth T.2 1 := ⟨_, rfl⟩
   have wY : Y.length = zb4 (ctP e.p) b := by rw [hY]; exact ha.wid 1 (by simp [zbk])
   have nY : NdL (mE2 e) T.1 Y Y.length := fun i hi => by rw [hY]; exact ha.nd 1 (by simp [zbk]) i (by rw [wY] at hi; exact hi)
   have bY := zcn he.k.ct (zce hwt 1 (by simp [zbk]))
   simp only [zbk, nth, List.getD_cons_zero, List.getD_cons_succ] at bY
   have hL : T.2 = [X, Y] := by rw [hX]; rw [hY]; exact jox ha.ln
   have wt2 := hwt.2.2.2
   have lXY : Y.length = X.length := by rw [wX, wY]; exact wt2.symm
   have nYX : NdL (mE2 e) T.1 Y X.length := by rw [← lXY]; exact nY
   have hres : zfj e gs (.two 5 a b) = zu3 (mE2 e) T.1 X Y X.length := by rw [hX, hY, hT, hS]; rfl
   have hwx : za0 (ctP e.p) (.two 5 a b) = za0 (ctP e.p) a + za0 (ctP e.p) b + zb4 (ctP e.p) a := rfl
   have hcx : zld (ctP e.p) (zbk (.two 5 a b)) (zbk (.two 5 a b)).length = za0 (ctP e.p) a + za0 (ctP e.p) b := by simp [zbk, zld, nth]
   rw [hL]
   refine zat hp (τ' := frL [(2, .op 8 0), (5, .op 9 0), (11, .op 10 0)]) (H' := bH e T.1 μ1 ++ [bP, .cells [.d (intssD [X, Y])], .cells [.d (.val (.func (.func 124) #[] #[]))]]) ?_ ?_
   ·refine zh6 [0,1,2,3,4,5,6,7,8,10,13] ?_
    refine zh7 ?_
    exact zjm
   refine zag hp zak hc rfl fun K20 hK20 => ?_
   refine zdm ?_
   refine jye (bH e T.1 μ1 ++ [bP, .cells [.d (intssD [X, Y])], .cells [.d (.val (.func (.func 124) #[] #[]))]]) ([]) (jky e T.1 μ1 X Y h1 nX nYX lXY (by omega) (by omega)) ?_
   rintro _ _ ⟨μ2, hn2, rfl, rfl⟩
   refine ⟨rfl, ?_⟩
   refine zdm ?_
   refine hK20 _ _ ?_
   refine zat hp (τ' := frL [(4, .d (intsD (zu3 (mE2 e) T.1 X Y X.length).2))]) (H' := bH e (zu3 (mE2 e) T.1 X Y X.length).1 μ2) ?_ ?_
   ·refine zh6 [0,1,2,3,4,5,6,7] ?_
    refine zh7 ?_
    exact zjm
   refine zam ?_
   refine zap (t := 4) rfl ?_
   show ∃ _, _
   rw [hres]; exact ⟨μ2, hn2, rfl, rfl⟩
  ·have hko := zow (a := zdg ex) (by have := jyd hwt; omega) (by have := jyd hwt; omega)
   have hgm := ya6 (zdg ex)
   rw [if_neg (by omega), if_neg (by omega), if_neg (by omega)] at hgm
   refine jk4 hgm ?_
   refine hK14 _ _ ?_
   refine szq hp (fun _ hZ => jk5 hZ) ?_
   refine szf ?_
   refine zaj (hK13 _ _ ?_)
   refine zaa fun K22 hK22 => ?_
   refine szq hp (fun _ hZ => zdm hZ) ?_
   refine zaf ?_
   refine szq hp (fun _ hZ => zdm hZ) ?_
   refine zal rfl (fun ht => ?_) (fun ht => ?_)
   ·obtain ⟨v, w, hform⟩ : ∃ v w, ex = .con v w := by
     have hv : zdg ex = 1 := by simpa using ht
     rcases zcx hwt with ⟨v, w, rfl⟩ | ⟨i, rfl⟩ | ⟨i, rfl⟩ | ⟨a, rfl⟩ | ⟨a, b, rfl⟩ | ⟨a, b, rfl⟩ | ⟨a, b, rfl⟩ | ⟨a, b, rfl⟩ | ⟨a, b, rfl⟩ | ⟨a, b, rfl⟩ | ⟨a, b, rfl⟩ | ⟨a, b, d, rfl⟩ | ⟨a, b, rfl⟩ | ⟨i, w, a, rfl⟩ | ⟨w, a, rfl⟩ | ⟨i, a, rfl⟩ <;> first | exact ⟨_, _, rfl⟩ | (exfalso; revert hv; simp [zdg]; done)
    subst hform
    have hw8 := hwt.2.1
    have hv := hwt.2.2
    have hv62 : v < 2 ^ 62 := Nat.lt_of_lt_of_le hv (Nat.pow_le_pow_right (by decide) (by omega))
    have hres : zfj e gs (.con v w) = zu5 T.1 v w := by rw [zu5, zrp, hT, hS]; rfl
    refine zat hp (τ' := frL [(8, .op 8 0), (9, .d (iD w))]) (H' := bH e T.1 μ1 ++ [.cells [.d (iD v)]]) ?_ ?_
    ·refine zh6 [0,1,2,3,4,5,6,7,11] ?_
     refine zh7 ?_
     exact zjm
    refine zag hp zak hc rfl fun K25 hK25 => ?_
    refine zdm ?_
    refine jye (bH e T.1 μ1 ++ [.cells [.d (iD v)], .cells (avs (List.replicate w (iD 0)))]) ([]) (jk0 e T.1 μ1 v w h1 hv62 (by omega)) ?_
    rintro _ _ ⟨μ2, hn2, rfl, rfl⟩
    refine ⟨rfl, ?_⟩
    refine zdm ?_
    refine hK25 _ _ ?_
    refine zat hp (τ' := frL [(4, .d (intsD (zu5 T.1 v w).2))]) (H' := bH e (zu5 T.1 v w).1 μ2) ?_ ?_
    ·refine zh6 [0,1,2,3,4,5,6,7] ?_
     refine zh7 ?_
     exact zjm
    refine zam ?_
    refine zap (t := 4) rfl ?_
    show ∃ _, _
    rw [hres]; exact ⟨μ2, hn2, rfl, rfl⟩
   ·have m2 : zdg ex ≠ 1 := by simpa using ht
    refine szq hp (fun _ hZ => zdm hZ) ?_
    refine zal rfl (fun ht => ?_) (fun ht => ?_)
    ·obtain ⟨i, hform⟩ : ∃ i, ex = .reg i := by
      have hv : zdg ex = 16 := by simpa using ht
      rcases zcx hwt with ⟨v, w, rfl⟩ | ⟨i, rfl⟩ | ⟨i, rfl⟩ | ⟨a, rfl⟩ | ⟨a, b, rfl⟩ | ⟨a, b, rfl⟩ | ⟨a, b, rfl⟩ | ⟨a, b, rfl⟩ | ⟨a, b, rfl⟩ | ⟨a, b, rfl⟩ | ⟨a, b, rfl⟩ | ⟨a, b, d, rfl⟩ | ⟨a, b, rfl⟩ | ⟨i, w, a, rfl⟩ | ⟨w, a, rfl⟩ | ⟨i, a, rfl⟩ <;> first | exact ⟨_, rfl⟩ | (exfalso; revert hv; simp [zdg]; done)
     subst hform
     have hil : i < e.p.regs.length := by have := hwt; simpa [WT, ctP] using this
     have em : nth (ctP e.p).regs i = (nth e.p.regs i).w := jbx hil
     have hr8 := he.k.ct.r i hwt
     rw [em] at hr8
     have hrl := he.rl
     have m1 := ycx hil
     have hwi : ∀ k, k < (nth e.p.regs i).w → (⟨1, (i : Int), (k : Int)⟩ : Wire) ∈ e.ins := fun k hk => by rw [he.i]; exact in1 hil hk
     have hres : zfj e gs (.reg i) = zu6 e.ins T.1 i (nth e.p.regs i).w := by rw [zu6, zrp, he.i, ← em, hT, hS]; rfl
     have hz0 : (0 < (nth e.p.regs i).w) = True := by simp; omega
     refine zat hp (τ' := frL [(2, .op 8 0), (8, .op 9 0)]) (H' := bH e T.1 μ1 ++ [bP, .cells [.d (iD i)]]) ?_ ?_
     ·refine zh6 [0,1,2,3,4,5,6,7,8,11] ?_
      refine zh7 ?_
      exact zjm
     refine za6 zak hp hc mixed rfl [(0, []), (1, []), (2, []), (3, []), (4, []), (5, []), (6, []), (7, []), (8, []), (9, []), (10, []), (11, []), (12, [])] [[], [0], [0, 1], [0, 1, 2], [0, 1, 2, 3], [], [0, 1, 2, 3, 4, 5], [0, 1, 2, 3, 4, 5, 6], [0, 1, 2, 3, 4, 5, 6, 7], [0, 1, 2, 3, 4, 5, 6, 7, 8], [], [0, 1, 2, 3, 4, 5, 6, 7, 8, 9, 10], [0, 1, 2, 3, 4, 5, 6, 7, 8, 9, 10, 11]] 1 (by kernel_rfl) fun K27 hK27 => ?_
     refine jk6 (sza m1 hz0) ?_
     refine jk3 (bH e T.1 μ1 ++ [bP, .cells [.d (iD i)]]) ([.dead]) (jk1 e T.1 μ1 i (nth e.p.regs i).w h1 he.m hwi (by omega) (by omega)) ?_
     rintro _ _ ⟨μ2, hn2, rfl, rfl⟩
     refine ⟨rfl, ?_⟩
     refine jk6 (sza m1 hz0) ?_
     refine hK27 _ _ ?_
     refine zat hp (τ' := frL [(4, .d (intsD (zu6 e.ins T.1 i (nth e.p.regs i).w).2))]) (H' := bH e (zu6 e.ins T.1 i (nth e.p.regs i).w).1 μ2) ?_ ?_
     ·refine zh6 [0,1,2,3,4,5,6,7] ?_
      refine zh7 ?_
      exact zjm
     refine zam ?_
     refine zap (t := 4) rfl ?_
     show ∃ _, _
     rw [hres]; exact ⟨μ2, hn2, rfl, rfl⟩
    ·have m3 : zdg ex ≠ 16 := by simpa using ht
     refine szq hp (fun _ hZ => zdm hZ) ?_
     refine zal rfl (fun ht => ?_) (fun ht => ?_)
     ·obtain ⟨i, hform⟩ : ∃ i, ex = .dat i := by
       have hv : zdg ex = 18 := by simpa using ht
       rcases zcx hwt with ⟨v, w, rfl⟩ | ⟨i, rfl⟩ | ⟨i, rfl⟩ | ⟨a, rfl⟩ | ⟨a, b, rfl⟩ | ⟨a, b, rfl⟩ | ⟨a, b, rfl⟩ | ⟨a, b, rfl⟩ | ⟨a, b, rfl⟩ | ⟨a, b, rfl⟩ | ⟨a, b, rfl⟩ | ⟨a, b, d, rfl⟩ | ⟨a, b, rfl⟩ | ⟨i, w, a, rfl⟩ | ⟨w, a, rfl⟩ | ⟨i, a, rfl⟩ <;> first | exact ⟨_, rfl⟩ | (exfalso; revert hv; simp [zdg]; done)
      subst hform
      have hil : i < e.dat.length := by rw [hda.l hwt.1]; exact hwt.2
      have gd : (e.dat.map intsD)[i]? = some (intsD (nth e.dat i)) := zbj hil
      have hres : zfj e gs (.dat i) = (T.1, nth e.dat i) := by rw [hT, hS]; rfl
      refine zat hp (τ' := frL [(2, .op 8 0), (8, .op 9 0)]) (H' := bH e T.1 μ1 ++ [bP, .cells [.d (iD i)]]) ?_ ?_
      ·refine zh6 [0,1,2,3,4,5,6,7,8,11] ?_
       refine zh7 ?_
       exact zjm
      refine za5 zak hc mixed rfl (q := 0) (by kernel_rfl) (by kernel_rfl) fun K29 hK29 => ?_
      simp -dsimp -implicitDefEqProofs (disch := first | assumption | omega | (simp only [r_z, zab, zac, zbt] <;> omega) | decide) only [r_r, ↓reduceIte, Nat.reduceEqDiff, Nat.reduceAdd, D.fix, Int.reduceToNat, Nat.reduceMul, Nat.reduceBNe, Nat.reduceBEq, r_m, bH, bO, zar, zav, bP, exS, exR, nS, zfc, zv4, intssD, List.cons_append, List.nil_append, zke, gd, Option.map_some, zug]
      refine hK29 _ _ ?_
      refine zat hp (τ' := frL [(4, .d (intsD (nth e.dat i)))]) (H' := bH e T.1 μ1) ?_ ?_
      ·refine zh6 [0,1,2,3,4,5,6,7] ?_
       refine zh7 ?_
       exact zjm
      refine zam ?_
      refine zap (t := 4) rfl ?_
      show ∃ _, _
      rw [hres]; exact ⟨μ1, hn1, rfl, rfl⟩
     ·have m4 : zdg ex ≠ 18 := by simpa using ht
      refine szq hp (fun _ hZ => zdm hZ) ?_
      refine zal rfl (fun ht => ?_) (fun ht => ?_)
      ·obtain ⟨a, hform⟩ : ∃ a, ex = .not a := by
        have hv : zdg ex = 2 := by simpa using ht
        rcases zcx hwt with ⟨v, w, rfl⟩ | ⟨i, rfl⟩ | ⟨i, rfl⟩ | ⟨a, rfl⟩ | ⟨a, b, rfl⟩ | ⟨a, b, rfl⟩ | ⟨a, b, rfl⟩ | ⟨a, b, rfl⟩ | ⟨a, b, rfl⟩ | ⟨a, b, rfl⟩ | ⟨a, b, rfl⟩ | ⟨a, b, d, rfl⟩ | ⟨a, b, rfl⟩ | ⟨i, w, a, rfl⟩ | ⟨w, a, rfl⟩ | ⟨i, a, rfl⟩ <;> first | exact ⟨_, rfl⟩ | (exfalso; revert hv; simp [zdg]; done)
       subst hform
       obtain ⟨X, hX⟩ : ∃ X, X = nth T.2 0 := ⟨_, rfl⟩
       have wX : X.length = zb4 (ctP e.p) a := by rw [hX]; exact ha.wid 0 (by simp [zbk])
       have nX : NdL (mE2 e) T.1 X X.length := fun i hi => by rw [hX]; exact ha.nd 0 (by simp [zbk]) i (by rw [wX] at hi; exact hi)
       have bX := zcn he.k.ct (zce hwt 0 (by simp [zbk]))
       simp only [zbk, nth, List.getD_cons_zero, List.getD_cons_succ] at bX
       have hL : T.2 = [X] := by rw [hX]; exact ya7 ha.ln
       have hwx : za0 (ctP e.p) (.not a) = za0 (ctP e.p) a + zb4 (ctP e.p) a := rfl
       have hcx : zld (ctP e.p) (zbk (.not a)) (zbk (.not a)).length = za0 (ctP e.p) a := by simp [zbk, zld, nth]
       have hres : zfj e gs (.not a) = zg2 (mE2 e) T.1 X X.length := by rw [hX, hT, hS]; rfl
       rw [hL]
       refine zat hp (τ' := frL [(2, .op 8 0), (5, .op 9 0)]) (H' := bH e T.1 μ1 ++ [bP, .cells [.d (intssD [X])]]) ?_ ?_
       ·refine zh6 [0,1,2,3,4,5,6,7,8,10] ?_
        refine zh7 ?_
        exact zjm
       refine za6 zak hp hc mixed rfl [(0, []), (1, []), (2, []), (3, []), (4, []), (5, [])] [[], [], [1], [1, 2], [0, 1, 2, 3], [0, 1, 2, 3, 4]] 0 (by kernel_rfl) fun K31 hK31 => ?_
       refine zl2 ?_
       refine jk3 (bH e T.1 μ1) ([bP, .cells [.d (intssD [X])]]) (jaf e T.1 μ1 X h1 nX (by omega) (by omega)) ?_
       rintro _ _ ⟨μ2, hn2, rfl, rfl⟩
       refine ⟨rfl, ?_⟩
       refine zl2 ?_
       refine hK31 _ _ ?_
       refine zat hp (τ' := frL [(4, .d (intsD (zg2 (mE2 e) T.1 X X.length).2))]) (H' := bH e (zg2 (mE2 e) T.1 X X.length).1 μ2) ?_ ?_
       ·refine zh6 [0,1,2,3,4,5,6,7] ?_
        refine zh7 ?_
        exact zjm
       refine zam ?_
       refine zap (t := 4) rfl ?_
       show ∃ _, _
       rw [hres]; exact ⟨μ2, hn2, rfl, rfl⟩
      ·have m5 : zdg ex ≠ 2 := by simpa using ht
       refine szq hp (fun _ hZ => zdm hZ) ?_
       refine zal rfl (fun ht => ?_) (fun ht => ?_)
       ·obtain ⟨a, b, hform⟩ : ∃ a b, ex = .add a b := by
         have hv : zdg ex = 6 := by simpa using ht
         rcases zcx hwt with ⟨v, w, rfl⟩ | ⟨i, rfl⟩ | ⟨i, rfl⟩ | ⟨a, rfl⟩ | ⟨a, b, rfl⟩ | ⟨a, b, rfl⟩ | ⟨a, b, rfl⟩ | ⟨a, b, rfl⟩ | ⟨a, b, rfl⟩ | ⟨a, b, rfl⟩ | ⟨a, b, rfl⟩ | ⟨a, b, d, rfl⟩ | ⟨a, b, rfl⟩ | ⟨i, w, a, rfl⟩ | ⟨w, a, rfl⟩ | ⟨i, a, rfl⟩ <;> first | exact ⟨_, _, rfl⟩ | (exfalso; revert hv; simp [zdg]; done)
        subst hform
        obtain ⟨X, hX⟩ : ∃ X, X = nth T.2 0 := ⟨_, rfl⟩
        have wX : X.length = zb4 (ctP e.p) a := by rw [hX]; exact ha.wid 0 (by simp [zbk])
        have nX : NdL (mE2 e) T.1 X X.length := fun i hi => by rw [hX]; exact ha.nd 0 (by simp [zbk]) i (by rw [wX] at hi; exact hi)
        have bX := zcn he.k.ct (zce hwt 0 (by simp [zbk]))
        simp only [zbk, nth, List.getD_cons_zero, List.getD_cons_succ] at bX
        obtain ⟨Y, hY⟩ : ∃ Y, Y = nth T.2 1 := ⟨_, rfl⟩
        have wY : Y.length = zb4 (ctP e.p) b := by rw [hY]; exact ha.wid 1 (by simp [zbk])
        have nY : NdL (mE2 e) T.1 Y Y.length := fun i hi => by rw [hY]; exact ha.nd 1 (by simp [zbk]) i (by rw [wY] at hi; exact hi)
        have bY := zcn he.k.ct (zce hwt 1 (by simp [zbk]))
        simp only [zbk, nth, List.getD_cons_zero, List.getD_cons_succ] at bY
        have hL : T.2 = [X, Y] := by rw [hX]; rw [hY]; exact jox ha.ln
        have hwx : za0 (ctP e.p) (.add a b) = za0 (ctP e.p) a + za0 (ctP e.p) b + 3 * zb4 (ctP e.p) a := rfl
        have hcx : zld (ctP e.p) (zbk (.add a b)) (zbk (.add a b)).length = za0 (ctP e.p) a + za0 (ctP e.p) b := by simp [zbk, zld, nth]
        have lXY : Y.length = X.length := by rw [wX, wY]; exact hwt.2.2.symm
        have nYX : NdL (mE2 e) T.1 Y X.length := by rw [← lXY]; exact nY
        have hres : zfj e gs (.add a b) = ((zfk (mE2 e) T.1 X Y 0 X.length).gs, (zfk (mE2 e) T.1 X Y 0 X.length).l) := by rw [hX, hY, hT, hS]; rfl
        rw [hL]
        refine zat hp (τ' := frL [(2, .op 8 0), (5, .op 9 0)]) (H' := bH e T.1 μ1 ++ [bP, .cells [.d (intssD [X, Y])]]) ?_ ?_
        ·refine zh6 [0,1,2,3,4,5,6,7,8,10] ?_
         refine zh7 ?_
         exact zjm
        refine za6 zak hp hc mixed rfl [(0, []), (1, []), (2, []), (3, []), (4, []), (5, []), (6, []), (7, []), (8, [])] [[], [], [1], [1, 2], [], [4], [4, 5], [0, 1, 2, 3, 4, 5, 6], [0, 1, 2, 3, 4, 5, 6, 7]] 0 (by kernel_rfl) fun K33 hK33 => ?_
        refine zl2 ?_
        refine jk3 (bH e T.1 μ1) ([bP, .cells [.d (intssD [X, Y])]]) (jot e T.1 μ1 X Y 0 h1 nX nYX lXY h1.z (by omega) (by omega)) ?_
        rintro _ _ ⟨μ2, hn2, rfl, rfl⟩
        refine ⟨rfl, ?_⟩
        refine zl2 ?_
        refine hK33 _ _ ?_
        refine zat hp (τ' := frL [(4, .d (intsD (((zfk (mE2 e) T.1 X Y 0 X.length).gs, (zfk (mE2 e) T.1 X Y 0 X.length).l)).2))]) (H' := bH e (((zfk (mE2 e) T.1 X Y 0 X.length).gs, (zfk (mE2 e) T.1 X Y 0 X.length).l)).1 μ2) ?_ ?_
        ·refine zh6 [0,1,2,3,4,5,6,7] ?_
         refine zh7 ?_
         exact zjm
        refine zam ?_
        refine zap (t := 4) rfl ?_
        show ∃ _, _
        rw [hres]; exact ⟨μ2, hn2, rfl, rfl⟩
       ·have m6 : zdg ex ≠ 6 := by simpa using ht
        refine szq hp (fun _ hZ => zdm hZ) ?_
        refine zal rfl (fun ht => ?_) (fun ht => ?_)
        ·obtain ⟨a, b, hform⟩ : ∃ a b, ex = .sub a b := by
          have hv : zdg ex = 7 := by simpa using ht
          rcases zcx hwt with ⟨v, w, rfl⟩ | ⟨i, rfl⟩ | ⟨i, rfl⟩ | ⟨a, rfl⟩ | ⟨a, b, rfl⟩ | ⟨a, b, rfl⟩ | ⟨a, b, rfl⟩ | ⟨a, b, rfl⟩ | ⟨a, b, rfl⟩ | ⟨a, b, rfl⟩ | ⟨a, b, rfl⟩ | ⟨a, b, d, rfl⟩ | ⟨a, b, rfl⟩ | ⟨i, w, a, rfl⟩ | ⟨w, a, rfl⟩ | ⟨i, a, rfl⟩ <;> first | exact ⟨_, _, rfl⟩ | (exfalso; revert hv; simp [zdg]; done)
         subst hform
         obtain ⟨X, hX⟩ : ∃ X, X = nth T.2 0 := ⟨_, rfl⟩
         have wX : X.length = zb4 (ctP e.p) a := by rw [hX]; exact ha.wid 0 (by simp [zbk])
         have nX : NdL (mE2 e) T.1 X X.length := fun i hi => by rw [hX]; exact ha.nd 0 (by simp [zbk]) i (by rw [wX] at hi; exact hi)
         have bX := zcn he.k.ct (zce hwt 0 (by simp [zbk]))
         simp only [zbk, nth, List.getD_cons_zero, List.getD_cons_succ] at bX
         obtain ⟨Y, hY⟩ : ∃ Y, Y = nth T.2 1 := ⟨_, rfl⟩
         have wY : Y.length = zb4 (ctP e.p) b := by rw [hY]; exact ha.wid 1 (by simp [zbk])
         have nY : NdL (mE2 e) T.1 Y Y.length := fun i hi => by rw [hY]; exact ha.nd 1 (by simp [zbk]) i (by rw [wY] at hi; exact hi)
         have bY := zcn he.k.ct (zce hwt 1 (by simp [zbk]))
         simp only [zbk, nth, List.getD_cons_zero, List.getD_cons_succ] at bY
         have hL : T.2 = [X, Y] := by rw [hX]; rw [hY]; exact jox ha.ln
         have hwx : za0 (ctP e.p) (.sub a b) = za0 (ctP e.p) a + za0 (ctP e.p) b + 4 * zb4 (ctP e.p) a := rfl
         have hcx : zld (ctP e.p) (zbk (.sub a b)) (zbk (.sub a b)).length = za0 (ctP e.p) a + za0 (ctP e.p) b := by simp [zbk, zld, nth]
         have lXY : Y.length = X.length := by rw [wX, wY]; exact hwt.2.2.symm
         have nYX : NdL (mE2 e) T.1 Y X.length := by rw [← lXY]; exact nY
         obtain ⟨Z, hZ⟩ : ∃ Z, Z = zg2 (mE2 e) T.1 Y Y.length := ⟨_, rfl⟩
         have hzb := jg1 zf2 h1.g nY (Nat.le_refl _)
         have hcc := jaf e T.1 μ1 Y h1 nY (by omega) (by omega)
         rw [← hZ] at hzb hcc
         have hzl := hzb.len
         have hzw := hzb.wid
         have hres : zfj e gs (.sub a b) = ((zfk (mE2 e) Z.1 X Z.2 1 X.length).gs, (zfk (mE2 e) Z.1 X Z.2 1 X.length).l) := by rw [hZ, hX, hY, hT, hS]; rfl
         rw [hL]
         refine zat hp (τ' := frL [(2, .op 8 0), (5, .op 9 0)]) (H' := bH e T.1 μ1 ++ [bP, .cells [.d (intssD [X, Y])]]) ?_ ?_
         ·refine zh6 [0,1,2,3,4,5,6,7,8,10] ?_
          refine zh7 ?_
          exact zjm
         refine za6 zak hp hc mixed rfl [(0, []), (1, []), (2, []), (3, []), (4, []), (5, []), (6, []), (7, []), (8, [0, 1, 3]), (9, []), (10, [])] [[], [], [1], [1, 2], [], [], [5], [5, 6], [4, 5, 6, 7], [0, 1, 2, 3, 4, 5, 6, 7, 8], [0, 1, 2, 3, 4, 5, 6, 7, 8, 9]] 0 (by kernel_rfl) fun K35 hK35 => ?_
         refine zl2 ?_
         refine jk3 (bH e T.1 μ1) ([bP, .cells [.d (intssD [X, Y])]]) (hcc) ?_
         rintro _ _ ⟨μ3, hn3, rfl, rfl⟩
         refine ⟨rfl, ?_⟩
         have h3 : BOk e Z.1 μ3 := ⟨hn3, hzb.gi, h.i, by omega⟩
         refine zl2 ?_
         refine jk3 (bH e Z.1 μ3) ([bP, .cells [.d (intssD [X, Y])]]) (jot e Z.1 μ3 X Z.2 1 h3 (nX.pre hzb.pre) (fun k hk => hzb.nd k (by omega)) (by omega) ⟨by omega, by unfold mE2; omega⟩ (by omega) (by omega)) ?_
         rintro _ _ ⟨μ2, hn2, rfl, rfl⟩
         refine ⟨rfl, ?_⟩
         refine zl2 ?_
         refine hK35 _ _ ?_
         refine zat hp (τ' := frL [(4, .d (intsD (((zfk (mE2 e) Z.1 X Z.2 1 X.length).gs, (zfk (mE2 e) Z.1 X Z.2 1 X.length).l)).2))]) (H' := bH e (((zfk (mE2 e) Z.1 X Z.2 1 X.length).gs, (zfk (mE2 e) Z.1 X Z.2 1 X.length).l)).1 μ2) ?_ ?_
         ·refine zh6 [0,1,2,3,4,5,6,7] ?_
          refine zh7 ?_
          exact zjm
         refine zam ?_
         refine zap (t := 4) rfl ?_
         show ∃ _, _
         rw [hres]; exact ⟨μ2, hn2, rfl, rfl⟩
        ·have m7 : zdg ex ≠ 7 := by simpa using ht
         refine szq hp (fun _ hZ => zdm hZ) ?_
         refine zal rfl (fun ht => ?_) (fun ht => ?_)
         ·obtain ⟨a, b, hform⟩ : ∃ a b, ex = .eq a b := by
           have hv : zdg ex = 8 := by simpa using ht
           rcases zcx hwt with ⟨v, w, rfl⟩ | ⟨i, rfl⟩ | ⟨i, rfl⟩ | ⟨a, rfl⟩ | ⟨a, b, rfl⟩ | ⟨a, b, rfl⟩ | ⟨a, b, rfl⟩ | ⟨a, b, rfl⟩ | ⟨a, b, rfl⟩ | ⟨a, b, rfl⟩ | ⟨a, b, rfl⟩ | ⟨a, b, d, rfl⟩ | ⟨a, b, rfl⟩ | ⟨i, w, a, rfl⟩ | ⟨w, a, rfl⟩ | ⟨i, a, rfl⟩ <;> first | exact ⟨_, _, rfl⟩ | (exfalso; revert hv; simp [zdg]; done)
          subst hform
          obtain ⟨X, hX⟩ : ∃ X, X = nth T.2 0 := ⟨_, rfl⟩
          have wX : X.length = zb4 (ctP e.p) a := by rw [hX]; exact ha.wid 0 (by simp [zbk])
          have nX : NdL (mE2 e) T.1 X X.length := fun i hi => by rw [hX]; exact ha.nd 0 (by simp [zbk]) i (by rw [wX] at hi; exact hi)
          have bX := zcn he.k.ct (zce hwt 0 (by simp [zbk]))
          simp only [zbk, nth, List.getD_cons_zero, List.getD_cons_succ] at bX
          obtain ⟨Y, hY⟩ : ∃ Y, Y = nth T.2 1 := ⟨_, rfl⟩
          have wY : Y.length = zb4 (ctP e.p) b := by rw [hY]; exact ha.wid 1 (by simp [zbk])
          have nY : NdL (mE2 e) T.1 Y Y.length := fun i hi => by rw [hY]; exact ha.nd 1 (by simp [zbk]) i (by rw [wY] at hi; exact hi)
          have bY := zcn he.k.ct (zce hwt 1 (by simp [zbk]))
          simp only [zbk, nth, List.getD_cons_zero, List.getD_cons_succ] at bY
          have hL : T.2 = [X, Y] := by rw [hX]; rw [hY]; exact jox ha.ln
          have hwx : za0 (ctP e.p) (.eq a b) = za0 (ctP e.p) a + za0 (ctP e.p) b + 3 * zb4 (ctP e.p) a := rfl
          have hcx : zld (ctP e.p) (zbk (.eq a b)) (zbk (.eq a b)).length = za0 (ctP e.p) a + za0 (ctP e.p) b := by simp [zbk, zld, nth]
          have lXY : Y.length = X.length := by rw [wX, wY]; exact hwt.2.2.symm
          have nYX : NdL (mE2 e) T.1 Y X.length := by rw [← lXY]; exact nY
          obtain ⟨Q, hQ⟩ : ∃ Q, Q = ztv (mE2 e) T.1 X Y X.length := ⟨_, rfl⟩
          have hcc := jkm e T.1 μ1 X Y h1 nX nYX lXY (by omega)
          rw [← hQ] at hcc
          have hres : zfj e gs (.eq a b) = (Q.1, [Q.2]) := by rw [hQ, hX, hY, hT, hS]; rfl
          rw [hL]
          refine zat hp (τ' := frL [(2, .op 8 0), (5, .op 9 0)]) (H' := bH e T.1 μ1 ++ [bP, .cells [.d (intssD [X, Y])]]) ?_ ?_
          ·refine zh6 [0,1,2,3,4,5,6,7,8,10] ?_
           refine zh7 ?_
           exact zjm
          refine za6 zak hp hc mixed rfl [(0, []), (1, []), (2, []), (3, []), (4, []), (5, []), (6, []), (7, []), (8, []), (9, [])] [[], [], [1], [1, 2], [], [4], [4, 5], [0, 1, 2, 3, 4, 5, 6], [0, 1, 2, 3, 4, 5, 6, 7], [0, 1, 2, 3, 4, 5, 6, 7, 8]] 1 (by kernel_rfl) fun K37 hK37 => ?_
          refine zl2 ?_
          refine jk3 (bH e T.1 μ1) ([bP, .cells [.d (intssD [X, Y])], .free]) (hcc) ?_
          rintro _ _ ⟨μ2, hn2, rfl, rfl⟩
          refine ⟨rfl, ?_⟩
          refine zl2 ?_
          refine hK37 _ _ ?_
          refine zat hp (τ' := frL [(4, .d (intsD [Q.2]))]) (H' := bH e Q.1 μ2) ?_ ?_
          ·refine zh6 [0,1,2,3,4,5,6,7] ?_
           refine zh7 ?_
           exact zjm
          refine zam ?_
          refine zap (t := 4) rfl ?_
          show ∃ _, _
          rw [hres]; exact ⟨μ2, hn2, rfl, rfl⟩
         ·have m8 : zdg ex ≠ 8 := by simpa using ht
          refine szq hp (fun _ hZ => zdm hZ) ?_
          refine zal rfl (fun ht => ?_) (fun ht => ?_)
          ·obtain ⟨a, b, hform⟩ : ∃ a b, ex = .lt a b := by
            have hv : zdg ex = 9 := by simpa using ht
            rcases zcx hwt with ⟨v, w, rfl⟩ | ⟨i, rfl⟩ | ⟨i, rfl⟩ | ⟨a, rfl⟩ | ⟨a, b, rfl⟩ | ⟨a, b, rfl⟩ | ⟨a, b, rfl⟩ | ⟨a, b, rfl⟩ | ⟨a, b, rfl⟩ | ⟨a, b, rfl⟩ | ⟨a, b, rfl⟩ | ⟨a, b, d, rfl⟩ | ⟨a, b, rfl⟩ | ⟨i, w, a, rfl⟩ | ⟨w, a, rfl⟩ | ⟨i, a, rfl⟩ <;> first | exact ⟨_, _, rfl⟩ | (exfalso; revert hv; simp [zdg]; done)
           subst hform
           obtain ⟨X, hX⟩ : ∃ X, X = nth T.2 0 := ⟨_, rfl⟩
           have wX : X.length = zb4 (ctP e.p) a := by rw [hX]; exact ha.wid 0 (by simp [zbk])
           have nX : NdL (mE2 e) T.1 X X.length := fun i hi => by rw [hX]; exact ha.nd 0 (by simp [zbk]) i (by rw [wX] at hi; exact hi)
           have bX := zcn he.k.ct (zce hwt 0 (by simp [zbk]))
           simp only [zbk, nth, List.getD_cons_zero, List.getD_cons_succ] at bX
           obtain ⟨Y, hY⟩ : ∃ Y, Y = nth T.2 1 := ⟨_, rfl⟩
           have wY : Y.length = zb4 (ctP e.p) b := by rw [hY]; exact ha.wid 1 (by simp [zbk])
           have nY : NdL (mE2 e) T.1 Y Y.length := fun i hi => by rw [hY]; exact ha.nd 1 (by simp [zbk]) i (by rw [wY] at hi; exact hi)
           have bY := zcn he.k.ct (zce hwt 1 (by simp [zbk]))
           simp only [zbk, nth, List.getD_cons_zero, List.getD_cons_succ] at bY
           have hL : T.2 = [X, Y] := by rw [hX]; rw [hY]; exact jox ha.ln
           have hwx : za0 (ctP e.p) (.lt a b) = za0 (ctP e.p) a + za0 (ctP e.p) b + (2 * zb4 (ctP e.p) a + 1) := rfl
           have hcx : zld (ctP e.p) (zbk (.lt a b)) (zbk (.lt a b)).length = za0 (ctP e.p) a + za0 (ctP e.p) b := by simp [zbk, zld, nth]
           have lXY : Y.length = X.length := by rw [wX, wY]; exact hwt.2.2.symm
           have nYX : NdL (mE2 e) T.1 Y X.length := by rw [← lXY]; exact nY
           obtain ⟨Q, hQ⟩ : ∃ Q, Q = zdk (mE2 e) (ltB (mE2 e) T.1 X Y X.length).1 (ltB (mE2 e) T.1 X Y X.length).2 := ⟨_, rfl⟩
           have hcc := jqx e T.1 μ1 X Y h1 nX nYX lXY (by omega)
           rw [← hQ] at hcc
           have hres : zfj e gs (.lt a b) = (Q.1, [Q.2]) := by rw [hQ, hX, hY, hT, hS]; rfl
           rw [hL]
           refine zat hp (τ' := frL [(2, .op 8 0), (5, .op 9 0)]) (H' := bH e T.1 μ1 ++ [bP, .cells [.d (intssD [X, Y])]]) ?_ ?_
           ·refine zh6 [0,1,2,3,4,5,6,7,8,10] ?_
            refine zh7 ?_
            exact zjm
           refine za6 zak hp hc mixed rfl [(0, []), (1, []), (2, []), (3, []), (4, []), (5, []), (6, []), (7, []), (8, []), (9, [])] [[], [], [1], [1, 2], [], [4], [4, 5], [0, 1, 2, 3, 4, 5, 6], [0, 1, 2, 3, 4, 5, 6, 7], [0, 1, 2, 3, 4, 5, 6, 7, 8]] 1 (by kernel_rfl) fun K39 hK39 => ?_
           refine zl2 ?_
           refine jk3 (bH e T.1 μ1) ([bP, .cells [.d (intssD [X, Y])], .free]) (hcc) ?_
           rintro _ _ ⟨μ2, hn2, rfl, rfl⟩
           refine ⟨rfl, ?_⟩
           refine zl2 ?_
           refine hK39 _ _ ?_
           refine zat hp (τ' := frL [(4, .d (intsD [Q.2]))]) (H' := bH e Q.1 μ2) ?_ ?_
           ·refine zh6 [0,1,2,3,4,5,6,7] ?_
            refine zh7 ?_
            exact zjm
           refine zam ?_
           refine zap (t := 4) rfl ?_
           show ∃ _, _
           rw [hres]; exact ⟨μ2, hn2, rfl, rfl⟩
          ·have m9 : zdg ex ≠ 9 := by simpa using ht
           refine szq hp (fun _ hZ => zdm hZ) ?_
           refine zal rfl (fun ht => ?_) (fun ht => ?_)
           ·obtain ⟨a, b, d, hform⟩ : ∃ a b d, ex = .mux a b d := by
             have hv : zdg ex = 10 := by simpa using ht
             rcases zcx hwt with ⟨v, w, rfl⟩ | ⟨i, rfl⟩ | ⟨i, rfl⟩ | ⟨a, rfl⟩ | ⟨a, b, rfl⟩ | ⟨a, b, rfl⟩ | ⟨a, b, rfl⟩ | ⟨a, b, rfl⟩ | ⟨a, b, rfl⟩ | ⟨a, b, rfl⟩ | ⟨a, b, rfl⟩ | ⟨a, b, d, rfl⟩ | ⟨a, b, rfl⟩ | ⟨i, w, a, rfl⟩ | ⟨w, a, rfl⟩ | ⟨i, a, rfl⟩ <;> first | exact ⟨_, _, _, rfl⟩ | (exfalso; revert hv; simp [zdg]; done)
            subst hform
            obtain ⟨X, hX⟩ : ∃ X, X = nth T.2 0 := ⟨_, rfl⟩
            have wX : X.length = zb4 (ctP e.p) a := by rw [hX]; exact ha.wid 0 (by simp [zbk])
            have nX : NdL (mE2 e) T.1 X X.length := fun i hi => by rw [hX]; exact ha.nd 0 (by simp [zbk]) i (by rw [wX] at hi; exact hi)
            have bX := zcn he.k.ct (zce hwt 0 (by simp [zbk]))
            simp only [zbk, nth, List.getD_cons_zero, List.getD_cons_succ] at bX
            obtain ⟨Y, hY⟩ : ∃ Y, Y = nth T.2 1 := ⟨_, rfl⟩
            have wY : Y.length = zb4 (ctP e.p) b := by rw [hY]; exact ha.wid 1 (by simp [zbk])
            have nY : NdL (mE2 e) T.1 Y Y.length := fun i hi => by rw [hY]; exact ha.nd 1 (by simp [zbk]) i (by rw [wY] at hi; exact hi)
            have bY := zcn he.k.ct (zce hwt 1 (by simp [zbk]))
            simp only [zbk, nth, List.getD_cons_zero, List.getD_cons_succ] at bY
            obtain ⟨Z, hZ⟩ : ∃ Z, Z = nth T.2 2 := ⟨_, rfl⟩
            have wZ : Z.length = zb4 (ctP e.p) d := by rw [hZ]; exact ha.wid 2 (by simp [zbk])
            have nZ : NdL (mE2 e) T.1 Z Z.length := fun i hi => by rw [hZ]; exact ha.nd 2 (by simp [zbk]) i (by rw [wZ] at hi; exact hi)
            have bZ := zcn he.k.ct (zce hwt 2 (by simp [zbk]))
            simp only [zbk, nth, List.getD_cons_zero, List.getD_cons_succ] at bZ
            have hL : T.2 = [X, Y, Z] := by rw [hX]; rw [hY]; rw [hZ]; exact yhe ha.ln
            have hwx : za0 (ctP e.p) (.mux a b d) = za0 (ctP e.p) a + za0 (ctP e.p) b + za0 (ctP e.p) d + 2 * zb4 (ctP e.p) b := rfl
            have hcx : zld (ctP e.p) (zbk (.mux a b d)) (zbk (.mux a b d)).length = za0 (ctP e.p) a + za0 (ctP e.p) b + za0 (ctP e.p) d := by simp [zbk, zld, nth]
            have lYZ : Z.length = Y.length := by rw [wY, wZ]; exact hwt.2.2.2.2.symm
            have hX1 : X.length = 1 := by rw [wX]; exact hwt.2.2.2.1
            have nZY : NdL (mE2 e) T.1 Z Y.length := by rw [← lYZ]; exact nZ
            have hres : zfj e gs (.mux a b d) = zu4 (mE2 e) T.1 (nth X 0) Y Z Y.length := by rw [hX, hY, hZ, hT, hS]; rfl
            rw [hL]
            refine zat hp (τ' := frL [(2, .op 8 0), (5, .op 9 0)]) (H' := bH e T.1 μ1 ++ [bP, .cells [.d (intssD [X, Y, Z])]]) ?_ ?_
            ·refine zh6 [0,1,2,3,4,5,6,7,8,10] ?_
             refine zh7 ?_
             exact zjm
            refine zag hp zak hc rfl fun K41 hK41 => ?_
            refine zdm ?_
            refine jye (bH e T.1 μ1 ++ [bP, .cells [.d (intssD [X, Y, Z])]]) ([]) (jkz e T.1 μ1 X Y Z h1 (by omega) (nX 0 (by omega)) nY nZY lYZ (by omega) (by omega)) ?_
            rintro _ _ ⟨μ2, hn2, rfl, rfl⟩
            refine ⟨rfl, ?_⟩
            refine zdm ?_
            refine hK41 _ _ ?_
            refine zat hp (τ' := frL [(4, .d (intsD (zu4 (mE2 e) T.1 (nth X 0) Y Z Y.length).2))]) (H' := bH e (zu4 (mE2 e) T.1 (nth X 0) Y Z Y.length).1 μ2) ?_ ?_
            ·refine zh6 [0,1,2,3,4,5,6,7] ?_
             refine zh7 ?_
             exact zjm
            refine zam ?_
            refine zap (t := 4) rfl ?_
            show ∃ _, _
            rw [hres]; exact ⟨μ2, hn2, rfl, rfl⟩
           ·have m10 : zdg ex ≠ 10 := by simpa using ht
            refine szq hp (fun _ hZ => zdm hZ) ?_
            refine zal rfl (fun ht => ?_) (fun ht => ?_)
            ·obtain ⟨a, b, hform⟩ : ∃ a b, ex = .cat a b := by
              have hv : zdg ex = 11 := by simpa using ht
              rcases zcx hwt with ⟨v, w, rfl⟩ | ⟨i, rfl⟩ | ⟨i, rfl⟩ | ⟨a, rfl⟩ | ⟨a, b, rfl⟩ | ⟨a, b, rfl⟩ | ⟨a, b, rfl⟩ | ⟨a, b, rfl⟩ | ⟨a, b, rfl⟩ | ⟨a, b, rfl⟩ | ⟨a, b, rfl⟩ | ⟨a, b, d, rfl⟩ | ⟨a, b, rfl⟩ | ⟨i, w, a, rfl⟩ | ⟨w, a, rfl⟩ | ⟨i, a, rfl⟩ <;> first | exact ⟨_, _, rfl⟩ | (exfalso; revert hv; simp [zdg]; done)
             subst hform
             obtain ⟨X, hX⟩ : ∃ X, X = nth T.2 0 := ⟨_, rfl⟩
             have wX : X.length = zb4 (ctP e.p) a := by rw [hX]; exact ha.wid 0 (by simp [zbk])
             have nX : NdL (mE2 e) T.1 X X.length := fun i hi => by rw [hX]; exact ha.nd 0 (by simp [zbk]) i (by rw [wX] at hi; exact hi)
             have bX := zcn he.k.ct (zce hwt 0 (by simp [zbk]))
             simp only [zbk, nth, List.getD_cons_zero, List.getD_cons_succ] at bX
             obtain ⟨Y, hY⟩ : ∃ Y, Y = nth T.2 1 := ⟨_, rfl⟩
             have wY : Y.length = zb4 (ctP e.p) b := by rw [hY]; exact ha.wid 1 (by simp [zbk])
             have nY : NdL (mE2 e) T.1 Y Y.length := fun i hi => by rw [hY]; exact ha.nd 1 (by simp [zbk]) i (by rw [wY] at hi; exact hi)
             have bY := zcn he.k.ct (zce hwt 1 (by simp [zbk]))
             simp only [zbk, nth, List.getD_cons_zero, List.getD_cons_succ] at bY
             have hL : T.2 = [X, Y] := by rw [hX]; rw [hY]; exact jox ha.ln
             have hres : zfj e gs (.cat a b) = (T.1, Y ++ X) := by rw [hX, hY, hT, hS]; rfl
             have hc1 := jah [Y, X] (by simp) (by simp [zua]; omega)
             rw [show [Y, X].flatten = Y ++ X by simp] at hc1
             unfold intssD at hc1
             rw [hL]
             refine zat hp (τ' := frL [(2, .op 8 0), (5, .op 9 0)]) (H' := bH e T.1 μ1 ++ [bP, .cells [.d (intssD [X, Y])]]) ?_ ?_
             ·refine zh6 [0,1,2,3,4,5,6,7,8,10] ?_
              refine zh7 ?_
              exact zjm
             refine za5 zak hc mixed rfl (q := 1) (by kernel_rfl) (by kernel_rfl) fun K43 hK43 => ?_
             refine zdm ?_
             refine zbp (hc1) rfl ?_
             refine zdm ?_
             refine hK43 _ _ ?_
             refine zat hp (τ' := frL [(4, .d (intsD (Y ++ X)))]) (H' := bH e T.1 μ1) ?_ ?_
             ·refine zh6 [0,1,2,3,4,5,6,7] ?_
              refine zh7 ?_
              exact zjm
             refine zam ?_
             refine zap (t := 4) rfl ?_
             show ∃ _, _
             rw [hres]; exact ⟨μ1, hn1, rfl, rfl⟩
            ·have m11 : zdg ex ≠ 11 := by simpa using ht
             refine szq hp (fun _ hZ => zdm hZ) ?_
             refine zal rfl (fun ht => ?_) (fun ht => ?_)
             ·obtain ⟨i, w, a, hform⟩ : ∃ i w a, ex = .slc i w a := by
               have hv : zdg ex = 12 := by simpa using ht
               rcases zcx hwt with ⟨v, w, rfl⟩ | ⟨i, rfl⟩ | ⟨i, rfl⟩ | ⟨a, rfl⟩ | ⟨a, b, rfl⟩ | ⟨a, b, rfl⟩ | ⟨a, b, rfl⟩ | ⟨a, b, rfl⟩ | ⟨a, b, rfl⟩ | ⟨a, b, rfl⟩ | ⟨a, b, rfl⟩ | ⟨a, b, d, rfl⟩ | ⟨a, b, rfl⟩ | ⟨i, w, a, rfl⟩ | ⟨w, a, rfl⟩ | ⟨i, a, rfl⟩ <;> first | exact ⟨_, _, _, rfl⟩ | (exfalso; revert hv; simp [zdg]; done)
              subst hform
              obtain ⟨X, hX⟩ : ∃ X, X = nth T.2 0 := ⟨_, rfl⟩
              have wX : X.length = zb4 (ctP e.p) a := by rw [hX]; exact ha.wid 0 (by simp [zbk])
              have nX : NdL (mE2 e) T.1 X X.length := fun i hi => by rw [hX]; exact ha.nd 0 (by simp [zbk]) i (by rw [wX] at hi; exact hi)
              have bX := zcn he.k.ct (zce hwt 0 (by simp [zbk]))
              simp only [zbk, nth, List.getD_cons_zero, List.getD_cons_succ] at bX
              have hL : T.2 = [X] := by rw [hX]; exact ya7 ha.ln
              have hres : zfj e gs (.slc i w a) = (T.1, (X.drop i).take w) := by rw [hX, hT, hS]; rfl
              have hkw := hwt.2.2
              have hkx : i + w ≤ X.length := by rw [wX]; exact hkw
              have hto : ((i : Int) + (w : Int)).toNat - i = w := by omega
              have hmin : min w (X.length - i) = w := by omega
              have hb8 : i + w ≤ 1000 := by omega
              rw [hL]
              clear hX hT hS wX nX bX htk hln hL ha hso
              refine zat hp (τ' := frL [(2, .op 8 0), (5, .op 9 0), (8, .op 10 0), (9, .d (iD w))]) (H' := bH e T.1 μ1 ++ [bP, .cells [.d (intssD [X])], .cells [.d (iD i)]]) ?_ ?_
              ·refine zh6 [0,1,2,3,4,5,6,7,8,10,11] ?_
               refine zh7 ?_
               exact zjm
              refine za5 zak hc mixed rfl (q := 0) (by kernel_rfl) (by kernel_rfl) fun K45 hK45 => ?_
              refine zdm ?_
              refine hK45 _ _ ?_
              refine zat hp (τ' := frL [(4, .d (intsD ((X.drop i).take w)))]) (H' := bH e T.1 μ1) ?_ ?_
              ·refine zh6 [0,1,2,3,4,5,6,7] ?_
               refine zh7 ?_
               exact zjm
              refine zam ?_
              refine zap (t := 4) rfl ?_
              show ∃ _, _
              rw [hres]; exact ⟨μ1, hn1, rfl, rfl⟩
             ·have m12 : zdg ex ≠ 12 := by simpa using ht
              refine szq hp (fun _ hZ => zdm hZ) ?_
              refine zal rfl (fun ht => ?_) (fun ht => ?_)
              ·obtain ⟨w, a, hform⟩ : ∃ w a, ex = .ext w a := by
                have hv : zdg ex = 13 := by simpa using ht
                rcases zcx hwt with ⟨v, w, rfl⟩ | ⟨i, rfl⟩ | ⟨i, rfl⟩ | ⟨a, rfl⟩ | ⟨a, b, rfl⟩ | ⟨a, b, rfl⟩ | ⟨a, b, rfl⟩ | ⟨a, b, rfl⟩ | ⟨a, b, rfl⟩ | ⟨a, b, rfl⟩ | ⟨a, b, rfl⟩ | ⟨a, b, d, rfl⟩ | ⟨a, b, rfl⟩ | ⟨i, w, a, rfl⟩ | ⟨w, a, rfl⟩ | ⟨i, a, rfl⟩ <;> first | exact ⟨_, _, rfl⟩ | (exfalso; revert hv; simp [zdg]; done)
               subst hform
               obtain ⟨X, hX⟩ : ∃ X, X = nth T.2 0 := ⟨_, rfl⟩
               have wX : X.length = zb4 (ctP e.p) a := by rw [hX]; exact ha.wid 0 (by simp [zbk])
               have nX : NdL (mE2 e) T.1 X X.length := fun i hi => by rw [hX]; exact ha.nd 0 (by simp [zbk]) i (by rw [wX] at hi; exact hi)
               have bX := zcn he.k.ct (zce hwt 0 (by simp [zbk]))
               simp only [zbk, nth, List.getD_cons_zero, List.getD_cons_succ] at bX
               have hL : T.2 = [X] := by rw [hX]; exact ya7 ha.ln
               have hres : zfj e gs (.ext w a) = (T.1, X ++ List.replicate (w - X.length) 0) := by rw [hX, hT, hS]; rfl
               have hwa := hwt.2.1; have hw8 := hwt.2.2
               have hc1 := jah [X, List.replicate (w - X.length) 0] (by simp) (by simp [zua]; omega)
               have hc2 := jku [X, List.replicate (w - X.length) 0] (by simp) (by simp [zua]; omega)
               rw [show [X, List.replicate (w - X.length) (0 : Int)].flatten = X ++ List.replicate (w - X.length) 0 by simp] at hc1 hc2
               have hmz : ((w : Int) - (X.length : Int)).toNat = w - X.length := by omega
               simp only [intssD, intsD, List.map_cons, List.map_nil, List.map_replicate, List.length_replicate, List.length_cons, List.length_nil, Nat.zero_add, Nat.reduceAdd] at hc1 hc2
               rw [hL]
               refine zat hp (τ' := frL [(2, .op 8 0), (5, .op 9 0), (9, .d (iD w))]) (H' := bH e T.1 μ1 ++ [bP, .cells [.d (intssD [X])]]) ?_ ?_
               ·refine zh6 [0,1,2,3,4,5,6,7,8,10] ?_
                refine zh7 ?_
                exact zjm
               refine za5 zak hc mixed rfl (q := 2) (by kernel_rfl) (by kernel_rfl) fun K47 hK47 => ?_
               by_cases hz : X.length < w
               ·have hz0 : (0 < w - X.length) = True := by simp; omega
                refine jk7 (sza hmz hz0) ?_
                refine zbp (hc1) rfl ?_
                refine jk7 (sza hmz hz0) ?_
                refine hK47 _ _ ?_
                refine zat hp (τ' := frL [(4, .d (intsD (X ++ List.replicate (w - X.length) 0)))]) (H' := bH e T.1 μ1) ?_ ?_
                ·refine zh6 [0,1,2,3,4,5,6,7] ?_
                 refine zh7 ?_
                 exact zjm
                refine zam ?_
                refine zap (t := 4) rfl ?_
                show ∃ _, _
                rw [hres]; exact ⟨μ1, hn1, rfl, rfl⟩
               ·have hz0 : ((0 : Nat) < 0) = False := by simp
                have hz1 : w - X.length = 0 := by omega
                rw [hz1] at hmz hc2 hres
                simp only [List.replicate_zero] at hc2 hres
                refine jk7 (sza hmz hz0) ?_
                refine jul (hc2) ?_ ?_
                ·simp (disch := first | assumption | omega | (simp only [r_z, zab, zac, zbt] <;> omega) | decide) only [r_c, Nat.reduceAdd, D.fix, ↓reduceIte, Nat.reduceEqDiff, r_m, bH, bO, zar, zav, bP, exS, exR, nS, zfc, zv4, intssD, List.cons_append, List.nil_append]
                refine jk7 (sza hmz hz0) ?_
                refine hK47 _ _ ?_
                refine zat hp (τ' := frL [(4, .d (intsD (X ++ [])))]) (H' := bH e T.1 μ1) ?_ ?_
                ·refine zh6 [0,1,2,3,4,5,6,7] ?_
                 refine zh7 ?_
                 exact zjm
                refine zam ?_
                refine zap (t := 4) rfl ?_
                show ∃ _, _
                rw [hres]; exact ⟨μ1, hn1, rfl, rfl⟩
              ·have m13 : zdg ex ≠ 13 := by simpa using ht
               obtain ⟨i, a, hform⟩ : ∃ i a, ex = .rd i a := by
                clear ht
                rcases zcx hwt with ⟨v, w, rfl⟩ | ⟨i, rfl⟩ | ⟨i, rfl⟩ | ⟨a, rfl⟩ | ⟨a, b, rfl⟩ | ⟨a, b, rfl⟩ | ⟨a, b, rfl⟩ | ⟨a, b, rfl⟩ | ⟨a, b, rfl⟩ | ⟨a, b, rfl⟩ | ⟨a, b, rfl⟩ | ⟨a, b, d, rfl⟩ | ⟨a, b, rfl⟩ | ⟨i, w, a, rfl⟩ | ⟨w, a, rfl⟩ | ⟨i, a, rfl⟩ <;> first | exact ⟨_, _, rfl⟩ | (exfalso; simp_all [zdg]; done)
               subst hform
               obtain ⟨X, hX⟩ : ∃ X, X = nth T.2 0 := ⟨_, rfl⟩
               have wX : X.length = zb4 (ctP e.p) a := by rw [hX]; exact ha.wid 0 (by simp [zbk])
               have nX : NdL (mE2 e) T.1 X X.length := fun i hi => by rw [hX]; exact ha.nd 0 (by simp [zbk]) i (by rw [wX] at hi; exact hi)
               have bX := zcn he.k.ct (zce hwt 0 (by simp [zbk]))
               simp only [zbk, nth, List.getD_cons_zero, List.getD_cons_succ] at bX
               have hL : T.2 = [X] := by rw [hX]; exact ya7 ha.ln
               have hwx : za0 (ctP e.p) (.rd i a) = za0 (ctP e.p) a + (nth (ctP e.p).mems i).2 := rfl
               have hcx : zld (ctP e.p) (zbk (.rd i a)) (zbk (.rd i a)).length = za0 (ctP e.p) a := by simp [zbk, zld, nth]
               have hil : i < e.p.mems.length := by have := hwt.2; simpa [ctP] using this
               have em : nth (ctP e.p).mems i = ((nth e.p.mems i).words, (nth e.p.mems i).w) := jbx hil
               have hm8 := he.k.ct.m i (by simpa [ctP] using hil)
               have hml := he.k.ct.l
               rw [em] at hm8 hwx
               simp only at hm8 hwx
               have hml2 : (ctP e.p).mems.length = e.p.mems.length := by simp [ctP]
               have q1 := yhc hil
               have hz0 : (0 < (nth e.p.mems i).w) = True := by simp; omega
               have q2 := yhd hil
               obtain ⟨A, hA⟩ : ∃ A, A = zjk X (nth e.p.mems i).words := ⟨_, rfl⟩
               have hAl : A = [nth A 0, nth A 1, nth A 2] := by
                have : A.length = 3 := by rw [hA]; exact zg0 _ _
                match A, this with
                | [x, y, z], _ => rfl
               have nA : ∀ j, j < 3 → NdB (mE2 e) T.1 (nth A j) := fun j hj => by rw [hA]; exact ztx zf2 nX hj
               have hc1 := jg4 X (nth e.p.mems i).words (by omega) (by omega)
               rw [← hA, hAl] at hc1
               have hres : zfj e gs (.rd i a) = rdW (mE2 e) T.1 (nth A 0) (nth A 1) (nth A 2) i (nth e.p.mems i).w := by
                have e0 : zfj e gs (.rd i a) = rdW (mE2 e) T.1 (nth (zjk X (nth (ctP e.p).mems i).1) 0) (nth (zjk X (nth (ctP e.p).mems i).1) 1) (nth (zjk X (nth (ctP e.p).mems i).1) 2) i (nth (ctP e.p).mems i).2 := by rw [hX, hT, hS]; rfl
                rw [e0, em, ← hA]
               rw [hL]
               refine zaj (hK22 _ _ ?_)
               refine zat hp (τ' := frL [(2, .op 8 0), (5, .op 9 0), (8, .op 10 0)]) (H' := bH e T.1 μ1 ++ [bP, .cells [.d (intssD [X])], .cells [.d (iD i)]]) ?_ ?_
               ·refine zh6 [0,1,2,3,4,5,6,7,8,10,11] ?_
                refine zh7 ?_
                exact zjm
               refine za5 zak hc mixed rfl (q := 1) (by kernel_rfl) (by kernel_rfl) fun K48 hK48 => ?_
               refine jyf q2 ?_
               refine zbp (hc1) rfl ?_
               refine jyf q2 ?_
               refine hK48 _ _ ?_
               refine zat hp (τ' := frL [(2, .op 8 0), (13, .op 9 0), (8, .op 10 0)]) (H' := bH e T.1 μ1 ++ [bP, .cells [.d (iD (nth A 0)), .d (iD (nth A 1)), .d (iD (nth A 2))], .cells [.d (iD i)]]) ?_ ?_
               ·refine zh6 [0,1,2,3,4,5,6,7,8,11,10] ?_
                refine zh7 ?_
                exact zjm
               refine za6 zak hp hc mixed rfl [(0, []), (1, []), (2, []), (3, []), (4, []), (5, []), (6, []), (7, []), (8, []), (9, []), (10, []), (11, []), (12, [])] [[], [0], [0, 1], [0, 1, 2], [0, 1, 2, 3], [], [0, 1, 2, 3, 4, 5], [0, 1, 2, 3, 4, 5, 6], [0, 1, 2, 3, 4, 5, 6, 7], [0, 1, 2, 3, 4, 5, 6, 7, 8], [], [0, 1, 2, 3, 4, 5, 6, 7, 8, 9, 10], [0, 1, 2, 3, 4, 5, 6, 7, 8, 9, 10, 11]] 1 (by kernel_rfl) fun K49 hK49 => ?_
               refine jk6 (sza q1 hz0) ?_
               refine jk3 (bH e T.1 μ1 ++ [bP, .cells [.d (iD (nth A 0)), .d (iD (nth A 1)), .d (iD (nth A 2))], .cells [.d (iD i)]]) ([.dead]) (jre e T.1 μ1 (nth A 0) (nth A 1) (nth A 2) i (nth e.p.mems i).w h1 (nA 0 (by decide)) (nA 1 (by decide)) (nA 2 (by decide)) (by omega) (by omega)) ?_
               rintro _ _ ⟨μ2, hn2, rfl, rfl⟩
               refine ⟨rfl, ?_⟩
               refine jk6 (sza q1 hz0) ?_
               refine hK49 _ _ ?_
               refine zat hp (τ' := frL [(4, .d (intsD (rdW (mE2 e) T.1 (nth A 0) (nth A 1) (nth A 2) i (nth e.p.mems i).w).2))]) (H' := bH e (rdW (mE2 e) T.1 (nth A 0) (nth A 1) (nth A 2) i (nth e.p.mems i).w).1 μ2) ?_ ?_
               ·refine zh6 [0,1,2,3,4,5,6,7] ?_
                refine zh7 ?_
                exact zjm
               refine zam ?_
               refine zap (t := 4) rfl ?_
               show ∃ _, _
               rw [hres]; exact ⟨μ2, hn2, rfl, rfl⟩
theorem zrq (e : BE) (he : BEOk e) (q : Bool) (ex : Ex) : jyc e q ex := by
 generalize hn : SizeOf.sizeOf ex = n
 induction n using Nat.strongRecOn generalizing ex with
 | _ n ih => exact fun gs μ h hda hwt hcl => jyg e he q ex (fun k hk => ih _ (hn ▸ jgr hk) _ rfl) gs μ h hda hwt hcl
end Go.Proofs.Ytapjobndmmkanaa
