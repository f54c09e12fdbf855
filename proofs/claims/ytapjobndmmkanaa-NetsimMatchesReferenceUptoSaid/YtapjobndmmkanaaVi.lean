/- Processes that bytes describe: Made. -/
import Derived.Test.YtapjobndmmkanaaQr
import Derived.Test.YtapjobndmmkanaaVh
set_option linter.unusedVariables false
set_option linter.unusedSimpArgs false
set_option maxRecDepth 100000
set_option maxHeartbeats 4000000
namespace Go.Proofs.Ytapjobndmmkanaa
open Go Go.RowKit
theorem jxb : ((((((type_of% @zpz) ∧ ((type_of% @zp0) ∧ (type_of% @ji1))) ∧ (((type_of% @jeu) ∧ (type_of% @zpl)) ∧ ((type_of% @zpm) ∧ (type_of% @zpn)))) ∧ ((((type_of% @jms) ∧ (type_of% @zzm)) ∧ ((type_of% @zgb) ∧ (type_of% @zgc))) ∧ (((type_of% @zq3) ∧ (type_of% @jmr)) ∧ ((type_of% @zg0) ∧ (type_of% @zg1))))) ∧ (((((type_of% @zzf) ∧ (type_of% @zze)) ∧ ((type_of% @zgs) ∧ (type_of% @zpu))) ∧ (((type_of% @zpv) ∧ (type_of% @zpw)) ∧ ((type_of% @zev) ∧ (type_of% @zew)))) ∧ ((((type_of% @zi0) ∧ (type_of% @zdc)) ∧ ((type_of% @zdd) ∧ (type_of% @zi1))) ∧ (((type_of% @zps) ∧ (type_of% @zpt)) ∧ ((type_of% @zuq) ∧ (type_of% @zzg)))))) ∧ (((((type_of% @zzh) ∧ ((type_of% @zzi) ∧ (type_of% @zig))) ∧ (((type_of% @zmb) ∧ (type_of% @zi2)) ∧ ((type_of% @zd6) ∧ (type_of% @zel)))) ∧ ((((type_of% @znp) ∧ (type_of% @zi4)) ∧ ((type_of% @zgr) ∧ (type_of% @zpq))) ∧ (((type_of% @zpr) ∧ (type_of% @zup)) ∧ ((type_of% @zix) ∧ (type_of% @zjd))))) ∧ (((((type_of% @zdu) ∧ (type_of% @zdv)) ∧ ((type_of% @zjc) ∧ (type_of% @znk))) ∧ (((type_of% @zgt) ∧ (type_of% @zpx)) ∧ ((type_of% @zpy) ∧ (type_of% @zur)))) ∧ ((((type_of% @zy9) ∧ (type_of% @znq)) ∧ ((type_of% @znr) ∧ (type_of% @zid))) ∧ (((type_of% @ziy) ∧ (type_of% @znm)) ∧ ((type_of% @znn) ∧ (type_of% @zno))))))) := ⟨⟨⟨⟨⟨@zpz, ⟨@zp0, @ji1⟩⟩, ⟨⟨@jeu, @zpl⟩, ⟨@zpm, @zpn⟩⟩⟩, ⟨⟨⟨@jms, @zzm⟩, ⟨@zgb, @zgc⟩⟩, ⟨⟨@zq3, @jmr⟩, ⟨@zg0, @zg1⟩⟩⟩⟩, ⟨⟨⟨⟨@zzf, @zze⟩, ⟨@zgs, @zpu⟩⟩, ⟨⟨@zpv, @zpw⟩, ⟨@zev, @zew⟩⟩⟩, ⟨⟨⟨@zi0, @zdc⟩, ⟨@zdd, @zi1⟩⟩, ⟨⟨@zps, @zpt⟩, ⟨@zuq, @zzg⟩⟩⟩⟩⟩, ⟨⟨⟨⟨@zzh, ⟨@zzi, @zig⟩⟩, ⟨⟨@zmb, @zi2⟩, ⟨@zd6, @zel⟩⟩⟩, ⟨⟨⟨@znp, @zi4⟩, ⟨@zgr, @zpq⟩⟩, ⟨⟨@zpr, @zup⟩, ⟨@zix, @zjd⟩⟩⟩⟩, ⟨⟨⟨⟨@zdu, @zdv⟩, ⟨@zjc, @znk⟩⟩, ⟨⟨@zgt, @zpx⟩, ⟨@zpy, @zur⟩⟩⟩, ⟨⟨⟨@zy9, @znq⟩, ⟨@znr, @zid⟩⟩, ⟨⟨@ziy, @znm⟩, ⟨@znn, @zno⟩⟩⟩⟩⟩⟩
theorem jqa (rw tw : List Nat) (ms : List MG) (q : Bool) : scV (scG rw tw ms q) = [.d (nI rw), .d (nI (if q then tw else [])), .os 27 0 0 ms.length, .d (oD q)] := by simp [scV, scG]
section
variable {rw tw : List Nat} {mw : List (Nat × Nat)} {ms : List MG} {b : List Int} {j : Nat}
theorem jxc (h : WdOk rw tw mw) (hm : (ms.map fun m => (m.words, m.w)) = mw) (hb : zfx b) (hl : b.length ≤ maxLen) (hj : j ≤ 7000000) :
  ScS Try.prog [0] 59 [ze8 b j, .agg [.d (nI rw), .d (.val (.slice none 0 0)), .os 27 0 0 ms.length, .d (oD false)]] [zdm (scM ms), .free] (TyQ (ctG rw tw mw) (scG rw tw ms false) b j 1 32 10) := by
 have := jnw (ctG rw tw mw) (scG rw tw ms false) b j h.ct (h.sc hm false) hb hl hj
 rw [jqa] at this
 exact this.arg1 (Imp.part1 Imp.fixnil)
theorem jny (h : WdOk rw tw mw) (hm : (ms.map fun m => (m.words, m.w)) = mw) (hb : zfx b) (hl : b.length ≤ maxLen) (hj : j ≤ 7000000) :
  ScS Try.prog [0] 59 [ze8 b j, .agg [.d (nI rw), .d (nI tw), .os 27 0 0 ms.length, .d (oD true)]] [zdm (scM ms), .free] (TyQ (ctG rw tw mw) (scG rw tw ms true) b j 1 32 10) := by
 have := jnw (ctG rw tw mw) (scG rw tw ms true) b j h.ct (h.sc hm true) hb hl hj
 rw [jqa] at this
 exact this
theorem jxd {d w : Nat} (hT : TyK d) (h : WdOk rw tw mw) (hm : (ms.map fun m => (m.words, m.w)) = mw) (hb : zfx b) (hl : b.length ≤ maxLen) (h1 : 1 ≤ w) (h2 : w + d ≤ 8) (hj : j ≤ jb0 d) :
  ScS Try.prog [0] 60 [ze8 b j, .agg [.d (nI rw), .d (nI tw), .os 27 0 0 ms.length, .d (oD true)], .agg [.d (iD w), .d (iD d)]] [zdm (scM ms), .free] (TyQ (ctG rw tw mw) (scG rw tw ms true) b j w (zvm d) (byD d)) := by
 have := hT (ctG rw tw mw) (scG rw tw ms true) b j w h.ct (h.sc hm true) hb hl h1 h2 hj
 rw [jqa] at this
 exact this
end
structure MdR (rw tw : List Nat) (mw : List (Nat × Nat)) (rs : List RG) (ms : List MG) (ts : List TG) (qs : List QG) : Prop where
 wd : WdOk rw tw mw
 rl : rs.map (·.w) = rw
 tl : ts.map (·.w) = tw
 ml : (ms.map fun m => (m.words, m.w)) = mw
 q2 : qs.length ≤ 2
 qw : ∀ q, q < qs.length → 1 ≤ (nth qs q).w ∧ (nth qs q).w ≤ 2
 r : DoR (ctG rw tw mw) rs rs.length
 t : DoT (ctG rw tw mw) ts ts.length
 q : DoQ (ctG rw tw mw) qs qs.length
 m : DoM (ctG rw tw mw) ms ms.length
def mdC (rs : List RG) (ms : List MG) (ts : List TG) (qs : List QG) : List D := [sD ⟨#[112]⟩, sD ⟨#[97]⟩, .fs (rs.flatMap rgC) rs.length, .fs (ms.flatMap mgC) ms.length, .fs (ts.flatMap tgC) ts.length, .fs (qs.flatMap qgC) qs.length]
theorem zm5 (l : List Nat) : zc3 (.d (nI l)) = some [.d (nI l)] := rfl
theorem zvf {α : Type} [Inhabited α] {f : α → Nat} {l : List α} {w : List Nat} (h : l.map f = w) {k : Nat} (hk : k < l.length) : k < w.length ∧ nth w k = f (nth l k) := by
 subst h
 exact ⟨by simpa using hk, zgm hk⟩
theorem zdr {p q : Prop} (hq : q) (h : p = q := by
 conv => lhs; simp -dsimp -implicitDefEqProofs (disch := first | assumption | omega | (simp only [r_z, zcr, zcs, zct, zco] <;> omega) | decide) only [r_r, ↓reduceIte, Nat.reduceEqDiff, Nat.reduceAdd, D.fix, Int.reduceToNat, Nat.reduceMul, Nat.reduceBNe, Nat.reduceBEq, zm5, ze8, zbu, z81, zhk, zhl, zd1, zb4, zb5, jxb]) : p := h.mpr hq
theorem jha (k : List Nat) {m : List Nat} {τ τ1 : Fr} {H H1 : zad} (h : Rt m (fun t => gcV k (τ t)) (gcH k H) τ1 H1) (a : ∀ i ∈ m, k[i]? = some i := by decide) (b : k.Nodup := by decide) (c : ∀ i ∈ k, i < H.length := by
 simp [fzH, gcH]) : Rt m τ H τ1 H1 := Rt.trans (Rt.gc a b c) h
theorem zwu {m : List Nat} {τ τ' : Fr} {H H' : zad} (h2 : H = H') (h : zgu τ τ' := by
 repeat (first | exact zar _ | refine zam ?_ (by first | rfl | (simp [r_f, zcr, zcs, zct, zco]; done) | simp [r_f, zcr, zcs, zct, zco, *]))) : Rt m τ H τ' H' := Rt.end h h2
theorem jxe {P : Program} {sm : List Nat} {N : Nat} {τ : Fr} {H : zad} {f : FuncId} {args : List AV} {K0 KK : AV → zad → Prop} {ks : List Nat} (S T : zad) (h : ScS P ks f args S K0) (hK : ∀ x S', K0 x S' → S'.length = S.length ∧ KK x (S' ++ T)) (hH : H = S ++ T := by
 rfl) (hm : sm.all (okI ks S.length) = true := by
 first | rfl | (simp [AV.allIs, AV.allI, zbi, za3, za4, okI, ltI, zat, zb2, z81, zhk, zhl, zd1, zba, zbu]; done) | (intro o ho; simp at ho; done)) (hτ : ∀ t, (τ t).allI (okI ks S.length) = true := by
 exact fun t => zc8 (by first | rfl | (simp [AV.allIs, AV.allI, zbi, za3, za4, okI, ltI, zat, zb2, z81, zhk, zhl, zd1, zba, zbu]; done) | (intro o ho; simp at ho; done)) t) (ha : AV.allIs (ltI S.length) args = true := by
 first | rfl | (simp [AV.allIs, AV.allI, zbi, za3, za4, okI, ltI, zat, zb2, z81, zhk, zhl, zd1, zba, zbu]; done) | (intro o ho; simp at ho; done)) (hS : ∀ o ∈ S, o.allI (ltI S.length) = true := by
 first | rfl | (simp [AV.allIs, AV.allI, zbi, za3, za4, okI, ltI, zat, zb2, z81, zhk, zhl, zd1, zba, zbu]; done) | (intro o ho; simp at ho; done)) (hT : ∀ o ∈ T, o.allI (okI ks S.length) = true := by
 first | rfl | (simp [AV.allIs, AV.allI, zbi, za3, za4, okI, ltI, zat, zb2, z81, zhk, zhl, zd1, zba, zbu]; done) | (intro o ho; simp at ho; done)) : kC P sm N H τ (.d (.val (.func (.func f) #[] #[]))) args true (tg KK) := zwb h hH hm hτ ha hS hT hK
theorem jkj {p q : Prop} (hq : q) (h : p = q := by
 conv => lhs; simp -dsimp -implicitDefEqProofs (disch := first | assumption | omega | (simp only [r_z, zcr, zcs, zct, zco] <;> omega) | decide) only [r_r, ↓reduceIte, Nat.reduceEqDiff, Nat.reduceAdd, D.fix, Int.reduceToNat, Nat.reduceMul, Nat.reduceBNe, Nat.reduceBEq, zm5, ze8, zbu, z81, zhk, zhl, zd1, zb4, zb5]) : p := h.mpr hq
theorem zvg {p q r : Prop} (e : r) (hq : q) (h : r → p = q := by
 intro hY
 conv => lhs; simp -dsimp -implicitDefEqProofs (disch := first | assumption | omega | (simp only [r_z, zcr, zcs, zct, zco] <;> omega) | decide) only [r_r, ↓reduceIte, Nat.reduceEqDiff, Nat.reduceAdd, D.fix, Int.reduceToNat, Nat.reduceMul, Nat.reduceBNe, Nat.reduceBEq, r_w, zm5, ze8, zbu, z81, zhk, zhl, zd1, zb4, zb5, jxb, hY]) : p := (h e).mpr hq
theorem jyo {P : Program} {sm : List Nat} {N : Nat} {τ0 τ : Fr} {H : zad} {f : FuncId} {args : List AV} {K0 KK : AV → zad → Prop} {ks : List Nat} (S T : zad) (h : ScS P ks f args S K0) (hK : ∀ x S', K0 x S' → S'.length = S.length ∧ KK x (S' ++ T)) (hH : H = S ++ T := by
 rfl) (hN : S.length ≤ N := by
 exact Nat.le_of_ble_eq_true rfl) (hm : sm.all (okI ks S.length) = true := by
 first | rfl | (simp [AV.allIs, AV.allI, zbi, za3, za4, okI, ltI, zat, zb2, z81, zhk, zhl, zd1, zba, zbu]; done) | (intro o ho; simp at ho; done)) (hτ : ∀ t, (τ t).allI (okI ks S.length) = true := by
 exact fun t => zc8 (by first | rfl | (simp [AV.allIs, AV.allI, zbi, za3, za4, okI, ltI, zat, zb2, z81, zhk, zhl, zd1, zba, zbu]; done) | (intro o ho; simp at ho; done)) t) (h0 : ∀ t, (τ0 t).allI (okI ks S.length) = true := by
 exact fun t => zc8 (by first | rfl | (simp [AV.allIs, AV.allI, zbi, za3, za4, okI, ltI, zat, zb2, z81, zhk, zhl, zd1, zba, zbu]; done) | (intro o ho; simp at ho; done)) t) (ha : AV.allIs (ltI S.length) args = true := by
 first | rfl | (simp [AV.allIs, AV.allI, zbi, za3, za4, okI, ltI, zat, zb2, z81, zhk, zhl, zd1, zba, zbu]; done) | (intro o ho; simp at ho; done)) (hS : ∀ o ∈ S, o.allI (ltI S.length) = true := by
 first | rfl | (simp [AV.allIs, AV.allI, zbi, za3, za4, okI, ltI, zat, zb2, z81, zhk, zhl, zd1, zba, zbu]; done) | (intro o ho; simp at ho; done)) (hT : ∀ o ∈ T, o.allI (okI ks S.length) = true := by
 first | rfl | (simp [AV.allIs, AV.allI, zbi, za3, za4, okI, ltI, zat, zb2, z81, zhk, zhl, zd1, zba, zbu]; done) | (intro o ho; simp at ho; done)) : kE P sm N τ0 τ H (.d (.val (.func (.func f) #[] #[]))) args (tg KK) := jba h hH hN hm hτ h0 ha hS hT hK
theorem jnz {p : Prop} (h : p := by
 first | rfl | (simp only [r_g, Nat.reduceAdd, ↓reduceIte, Nat.reduceEqDiff, zm5, ze8, zbu, z81, zhk, zhl, zd1, zb4, zb5]; first | done | rfl)) : p := h
theorem jqb {p q : Prop} (hq : q) (h : p = q := by
 conv => lhs; simp only [r_g, Nat.reduceAdd, ↓reduceIte, Nat.reduceEqDiff, zm5, ze8, zbu, z81, zhk, zhl, zd1, zb4, zb5]) : p := h.mpr hq
theorem jqc (b : List Int) (hb : zfx b) (hl : b.length ≤ maxLen) : zf5 Try.prog 28 [.agg [bytesD b]] (fun r => ∃ rw tw mw rs ms ts qs, MdR rw tw mw rs ms ts qs ∧ r = .d (.agg (mdC rs ms ts qs))) := by
 unfold maxLen at hl
 have hl' : b.length ≤ maxLen := by unfold maxLen; exact hl
 have hcp3 : jb0 3 = 7000000 := by decide
 have hcp2 : jb0 2 = 8000000 := by decide
 have hcp1 : jb0 1 = 9000000 := by decide
 have hc3 : zvm 3 = 128 := by decide
 have hc2 : zvm 2 = 32 := by decide
 have hc1 : zvm 1 = 0 := by decide
 have hb3 : byD 3 = 13 := by decide
 have hb2 : byD 2 = 4 := by decide
 have hb1 : byD 1 = 1 := by decide
 refine zit (fn := Try.f28) (by kernel_rfl) Try.func28 rfl (Nat.le_of_ble_eq_true rfl) fun c hc hp => ?_
 refine za0 (τ' := frL [(0, .d (.agg [bytesD b]))]) (by repeat (first | exact zar _ | refine zam ?_ (by first | rfl | (simp [r_f, zcr, zcs, zct, zco]; done) | simp [r_f, zcr, zcs, zct, zco, *]))) ?_
 refine szq hp (fun _ hZ => zdr hZ) ?_
 refine zbg hp (τ' := frL [(1, .op 9 0), (2, .op 10 0)]) (H' := [.free, .free, .free, .free, .free, .free, .free, .free, .free, .cells [.d (bytesD b)], z81]) ?_ ?_
 ·refine Rt.trans (Rt.fr9) ?_
  refine jha [2,3,4,5,6,7,8,9,10,0,1] ?_
  refine zwu ?_
  exact jnz
 refine zag hp zai hc rfl fun K2 hK2 => ?_
 refine zdr ?_
 refine jxe ([.free, .free, .free, .free, .free, .free, .free, .free, .free]) ([.cells [.d (bytesD b)], z81]) (jp8 b 0 hb hl' (by omega)) ?_
 rintro _ _ ⟨rs, ms, ts0, qs0, hfr, rfl, g1, g2, g3, rfl⟩
 refine ⟨rfl, ?_⟩
 refine zdr ?_
 refine hK2 _ _ ?_
 refine zaa fun K3 hK3 => ?_
 obtain ⟨rw, hrw0⟩ : ∃ rw, rw = rs.map (·.w) := ⟨_, rfl⟩
 obtain ⟨tw, htw0⟩ : ∃ tw, tw = ts0.map (·.w) := ⟨_, rfl⟩
 obtain ⟨mw, hmw0⟩ : ∃ mw, mw = ms.map fun m => (m.words, m.w) := ⟨_, rfl⟩
 have hwd : WdOk rw tw mw := ⟨by rw [hrw0]; simpa using hfr.r1, by rw [hrw0]; simpa using hfr.r3, fun w hw => by rw [hrw0] at hw; obtain ⟨r, hr, rfl⟩ := List.mem_map.1 hw; exact hfr.rw r hr, by rw [htw0]; simpa using hfr.t2, fun w hw => by rw [htw0] at hw; obtain ⟨r, hr, rfl⟩ := List.mem_map.1 hw; exact hfr.tw r hr, by rw [hmw0]; simpa using hfr.m1, fun x hx => by rw [hmw0] at hx; obtain ⟨m, hm, rfl⟩ := List.mem_map.1 hx; have := hfr.mw m hm; exact ⟨this.2.2, this.1, this.2.1⟩⟩
 have f1 := hfr.r3; have f2 := hfr.t2; have f3 := hfr.m1; have f4 := hfr.q2
 refine szq hp (fun _ hZ => jkj hZ) ?_
 refine zac ?_
 refine zan hp (fun τ' H' mm => ∃ (k j : Nat) (ts : List TG), (k ≤ ts0.length ∧ ts.length = ts0.length ∧ ts.map (·.w) = tw ∧ DoT (ctG rw tw mw) ts k ∧ j ≤ 9 + 100 * k) ∧ mm = ts0.length - k ∧ H' = [zdm (scM ms), .free, .cells [.d (bytesD b)], z81, .cells [.d (sD ⟨#[112]⟩), .d (sD ⟨#[97]⟩), .os 13 7 0 rs.length, .os 27 0 0 ms.length, .os 9 8 0 ts.length, .os 16 9 0 qs0.length], .cells [.d (nI rw), .d (nI tw), .os 27 0 0 ms.length, .d (oD true)], .cells (avs (zbu b j)), .cells (avs (rs.flatMap rgC)), .cells (avs (ts.flatMap tgC)), .cells (avs (qs0.flatMap qgC))] ∧ τ' = frL [(1, .op 2 0), (2, .op 3 0), (3, .op 4 0), (4, .op 5 0), (5, .op 6 0), (6, .d (iD k))]) (ts0.length) ?_ ⟨0, 9, ts0, ⟨Nat.zero_le _, rfl, htw0.symm, fun q hq => by omega, by omega⟩, rfl, rfl, rfl⟩ ?_
 ·refine Rt.trans (Rt.fr1) ?_
  refine Rt.trans (Rt.fz (id := 1) (l := (rs.map fun r => iD r.w)) rfl) ?_
  refine Rt.trans (Rt.heap (H' := [.cells (avs (rs.flatMap rgC)), .dead, .cells (avs (ms.flatMap mgC)), .cells (avs (ts0.flatMap tgC)), .cells (avs (ts0.map fun t => iD t.w)), .cells (avs (qs0.flatMap qgC)), .cells (fzVs 1 (rs.map fun r => iD r.w) g1), .cells (fzVs 1 (rs.map fun r => iD r.w) g2), .cells (fzVs 1 (rs.map fun r => iD r.w) g3), .cells [.d (bytesD b)], z81, .cells [.d (sD ⟨#[112]⟩), .d (sD ⟨#[97]⟩), .os 13 0 0 rs.length, .os 27 2 0 ms.length, .os 9 3 0 ts0.length, .os 16 5 0 qs0.length], .cells [.d (.fs (rs.map fun r => iD r.w) rs.length), .os 1 4 0 ts0.length, .os 27 2 0 ms.length, .d (oD true)], .cells [.d (bytesD b), .d (iD 9)], .free]) (by simp only [r_g, Nat.reduceAdd, ↓reduceIte, Nat.reduceEqDiff, zm5, ze8, zbu, z81, zhk, zhl, zd1, zb4, zb5, zjv, za2, zcs, zcr, zct, zco]; first | done | rfl)) ?_
  refine Rt.trans (Rt.fz (id := 4) (l := (ts0.map fun t => iD t.w)) rfl) ?_
  refine jha [2,14,9,10,11,12,13,0,3,5] ?_
  refine zwu ?_
  refine jqb ?_; rw [zjv, hrw0, htw0]; simp [nI, za2, List.map_map, Function.comp_def, bytesD, iD, oD, sD, nS, gcV]
 rintro τ' H' mm ⟨k, j, ts, ⟨hk, htl, htw, hdo, hj⟩, rfl, rfl, rfl⟩
 refine zaa fun K5 hK5 => ?_
 refine szq hp (fun _ hZ => zdr hZ) ?_
 refine zah rfl (fun ht => ?_) (fun ht => ?_)
 ·have hlt : k < ts.length := by simp at ht; omega
  refine zaf (hK5 _ _ ?_)
  refine zaa fun K7 hK7 => ?_
  refine zac ?_
  refine zag hp zai hc rfl fun K8 hK8 => ?_
  refine zdr ?_
  refine jxe ([zdm (scM ms), .free]) ([.cells [.d (bytesD b)], z81, .cells [.d (sD ⟨#[112]⟩), .d (sD ⟨#[97]⟩), .os 13 7 0 rs.length, .os 27 0 0 ms.length, .os 9 8 0 ts.length, .os 16 9 0 qs0.length], .cells [.d (nI rw), .d (nI tw), .os 27 0 0 ms.length, .d (oD true)], .cells (avs (zbu b j)), .cells (avs (rs.flatMap rgC)), .cells (avs (ts.flatMap tgC)), .cells (avs (qs0.flatMap qgC))]) (jxc (j := j) hwd hmw0.symm hb hl' (by omega)) ?_
  rintro _ _ ⟨e, j', he, hj1, hj2, rfl, g, rfl⟩
  refine ⟨rfl, ?_⟩
  obtain ⟨xo, xk, xw, xc, xn, hex⟩ := zce e; unfold tyV; rw [hex]; dsimp only [List.map_cons, List.map_nil, List.cons_append, List.nil_append, zbu]
  refine zdr ?_
  refine hK8 _ _ ?_
  refine szq hp (fun _ hZ => zdr hZ) ?_
  refine szs hp (fun _ hZ => zdr hZ) (hK7 _ _ ?_)
  refine za5 hp zai hc rfl fun K11 hK11 => ?_
  refine zdr ?_
  refine hK11 _ _ ⟨_, _, _, ?_, ⟨k + 1, j', ts.set k (jg6 (nth ts k) e), ⟨by omega, by simp [htl], (zk0 (a := jg6 (nth ts k) e) hlt rfl).trans htw, hdo.step hlt he, by omega⟩, rfl, rfl, rfl⟩, ?_⟩
  ·first | omega | (simp only [List.length_cons]; omega) | (dsimp only; omega)
  ·refine Rt.trans (Rt.fr1) ?_
   refine jha [0,11,2,3,4,5,6,7,8,9] ?_
   refine zwu ?_
   refine jqb ?_; have hst := yad (l := ts) (i := k * 9 + 2) hlt rfl rfl hex; rw [← hst]; simp [bytesD, iD, oD, sD, nS, avs, zbt]; rfl
 ·have hkk : k = ts.length := by simp at ht; omega
  have hdT : DoT (ctG rw tw mw) ts ts.length := hkk ▸ hdo
  refine zau (hK3 _ _ ?_)
  refine zaa fun K12 hK12 => ?_
  refine szq hp (fun _ hZ => jkj hZ) ?_
  refine zac ?_
  refine zan hp (fun τ' H' mm => ∃ (k1 j1 : Nat) (r1 : List RG), (k1 ≤ rs.length ∧ r1.length = rs.length ∧ r1.map (·.w) = rw ∧ DoR (ctG rw tw mw) r1 k1 ∧ j1 ≤ 209 + 100 * k1) ∧ mm = rs.length - k1 ∧ H' = [zdm (scM ms), .free, .cells [.d (bytesD b)], z81, .cells [.d (sD ⟨#[112]⟩), .d (sD ⟨#[97]⟩), .os 13 7 0 r1.length, .os 27 0 0 ms.length, .os 9 8 0 ts.length, .os 16 9 0 qs0.length], .cells [.d (nI rw), .d (nI tw), .os 27 0 0 ms.length, .d (oD true)], .cells (avs (zbu b j1)), .cells (avs (r1.flatMap rgC)), .cells (avs (ts.flatMap tgC)), .cells (avs (qs0.flatMap qgC))] ∧ τ' = frL [(1, .op 2 0), (2, .op 3 0), (3, .op 4 0), (4, .op 5 0), (5, .op 6 0), (8, .d (iD k1))]) (rs.length) ?_ ⟨0, j, rs, ⟨Nat.zero_le _, rfl, hrw0.symm, fun q hq => by omega, by omega⟩, rfl, rfl, rfl⟩ ?_
  ·refine zwu ?_
   exact jnz
  rintro τ' H' mm ⟨k1, j1, r1, ⟨hk1, hrl, hrw, hdo1, hj1⟩, rfl, rfl, rfl⟩
  refine zaa fun K14 hK14 => ?_
  refine szq hp (fun _ hZ => zdr hZ) ?_
  refine zah rfl (fun ht => ?_) (fun ht => ?_)
  ·have hlt : k1 < r1.length := by simp at ht; omega
   have hwk := zvf hrw hlt
   have hwr := hwd.r _ (zb0 (l := rw) hwk.1)
   rw [hwk.2] at hwr
   refine zaf (hK14 _ _ ?_)
   refine zaa fun K16 hK16 => ?_
   refine zac ?_
   refine zcj zai hp hc za8 rfl [(0, []), (1, []), (2, []), (3, []), (4, []), (5, []), (6, []), (7, []), (8, []), (9, []), (10, []), (11, []), (13, []), (12, []), (14, [])] [[], [], [], [2], [], [2, 3, 4], [2, 3, 4, 5], [2, 3, 4, 5, 6], [], [8], [8, 9], [2, 3, 4, 5, 6, 7, 8, 9, 10], [0, 1, 2, 3, 4, 5, 6, 7, 8, 9, 10, 11], [], [0, 1, 2, 3, 4, 5, 6, 7, 8, 9, 10, 11, 12, 13]] 1 (by kernel_rfl) fun K17 hK17 => ?_
   by_cases hg : k1 = 0
   ·subst hg
    have hrd : (r1.flatMap rgC)[1]? = some (iD (nth r1 0).w) := by simpa using ybt hlt
    have q3 : (3 : Int) - min ((0 : Nat) : Int) 1 = ((3 : Nat) : Int) := by decide
    refine zvg (sza hrd q3) ?_
    refine jyo ([zdm (scM ms), .free]) ([.cells [.d (bytesD b)], z81, .cells [.d (sD ⟨#[112]⟩), .d (sD ⟨#[97]⟩), .os 13 7 0 r1.length, .os 27 0 0 ms.length, .os 9 8 0 ts.length, .os 16 9 0 qs0.length], .cells [.d (nI rw), .d (nI tw), .os 27 0 0 ms.length, .d (oD true)], .cells (avs (zbu b j1)), .cells (avs (r1.flatMap rgC)), .cells (avs (ts.flatMap tgC)), .cells (avs (qs0.flatMap qgC)), zd1]) (jxd (d := 3) (j := j1) (w := (nth r1 0).w) ycx hwd hmw0.symm hb hl' hwr.1 (by omega) (by omega)) ?_
    rintro _ _ ⟨e, j', he, hja, hjb, rfl, g, rfl⟩
    refine ⟨rfl, ?_⟩
    obtain ⟨o_e, k_e, w_e, c_e, n_e, x_e⟩ := zce e; unfold tyV; rw [x_e]; dsimp only [List.map_cons, List.map_nil, List.cons_append, List.nil_append, zbu]
    refine zvg (sza hrd q3) ?_
    refine hK17 _ _ ?_
    refine szq hp (fun _ hZ => zdr hZ) ?_
    refine szs hp (fun _ hZ => zdr hZ) (hK16 _ _ ?_)
    refine za5 hp zai hc rfl fun K20 hK20 => ?_
    refine zdr ?_
    refine hK20 _ _ ⟨_, _, _, ?_, ⟨0 + 1, j', r1.set 0 (jri (nth r1 0) e), ⟨by omega, by simp [hrl], (zk0 (a := jri (nth r1 0) e) hlt rfl).trans hrw, hdo1.step hlt (by rw [if_pos rfl]; exact hc3 ▸ he), by omega⟩, rfl, rfl, rfl⟩, ?_⟩
    ·first | omega | (simp only [List.length_cons]; omega) | (dsimp only; omega)
    ·refine Rt.trans (Rt.fr1) ?_
     refine jha [0,11,2,3,4,5,6,7,8,9] ?_
     refine zwu ?_
     refine jqb ?_; have hst := jw5 (l := r1) (i := 0 * 13 + 3) hlt rfl rfl x_e; rw [← hst]; simp [bytesD, iD, oD, sD, nS, avs, zbt]; rfl
   ·have hrd := ybt hlt
    have q3 : (3 : Int) - min (k1 : Int) 1 = ((2 : Nat) : Int) := by omega
    refine zvg (sza hrd q3) ?_
    refine jyo ([zdm (scM ms), .free]) ([.cells [.d (bytesD b)], z81, .cells [.d (sD ⟨#[112]⟩), .d (sD ⟨#[97]⟩), .os 13 7 0 r1.length, .os 27 0 0 ms.length, .os 9 8 0 ts.length, .os 16 9 0 qs0.length], .cells [.d (nI rw), .d (nI tw), .os 27 0 0 ms.length, .d (oD true)], .cells (avs (zbu b j1)), .cells (avs (r1.flatMap rgC)), .cells (avs (ts.flatMap tgC)), .cells (avs (qs0.flatMap qgC)), zd1]) (jxd (d := 2) (j := j1) (w := (nth r1 k1).w) jwy hwd hmw0.symm hb hl' hwr.1 (by omega) (by omega)) ?_
    rintro _ _ ⟨e, j', he, hja, hjb, rfl, g, rfl⟩
    refine ⟨rfl, ?_⟩
    obtain ⟨o_e, k_e, w_e, c_e, n_e, x_e⟩ := zce e; unfold tyV; rw [x_e]; dsimp only [List.map_cons, List.map_nil, List.cons_append, List.nil_append, zbu]
    refine zvg (sza hrd q3) ?_
    refine hK17 _ _ ?_
    refine szq hp (fun _ hZ => zdr hZ) ?_
    refine szs hp (fun _ hZ => zdr hZ) (hK16 _ _ ?_)
    refine za5 hp zai hc rfl fun K23 hK23 => ?_
    refine zdr ?_
    refine hK23 _ _ ⟨_, _, _, ?_, ⟨k1 + 1, j', r1.set k1 (jri (nth r1 k1) e), ⟨by omega, by simp [hrl], (zk0 (a := jri (nth r1 k1) e) hlt rfl).trans hrw, hdo1.step hlt (by rw [if_neg hg]; exact hc2 ▸ he), by omega⟩, rfl, rfl, rfl⟩, ?_⟩
    ·first | omega | (simp only [List.length_cons]; omega) | (dsimp only; omega)
    ·refine Rt.trans (Rt.fr1) ?_
     refine jha [0,11,2,3,4,5,6,7,8,9] ?_
     refine zwu ?_
     refine jqb ?_; have hst := jw5 (l := r1) (i := k1 * 13 + 3) hlt rfl rfl x_e; rw [← hst]; simp [bytesD, iD, oD, sD, nS, avs, zbt]; rfl
  ·have hkk1 : k1 = r1.length := by simp at ht; omega
   have hdR : DoR (ctG rw tw mw) r1 r1.length := hkk1 ▸ hdo1
   refine zau (hK12 _ _ ?_)
   refine zaa fun K24 hK24 => ?_
   refine szq hp (fun _ hZ => jkj hZ) ?_
   refine zac ?_
   refine zan hp (fun τ' H' mm => ∃ (k2 j2 : Nat) (q1 : List QG), (k2 ≤ qs0.length ∧ q1.length = qs0.length ∧ q1.map (·.w) = qs0.map (·.w) ∧ DoQ (ctG rw tw mw) q1 k2 ∧ j2 ≤ 509 + 100 * k2) ∧ mm = qs0.length - k2 ∧ H' = [zdm (scM ms), .free, .cells [.d (bytesD b)], z81, .cells [.d (sD ⟨#[112]⟩), .d (sD ⟨#[97]⟩), .os 13 7 0 r1.length, .os 27 0 0 ms.length, .os 9 8 0 ts.length, .os 16 9 0 q1.length], .cells [.d (nI rw), .d (nI tw), .os 27 0 0 ms.length, .d (oD true)], .cells (avs (zbu b j2)), .cells (avs (r1.flatMap rgC)), .cells (avs (ts.flatMap tgC)), .cells (avs (q1.flatMap qgC))] ∧ τ' = frL [(1, .op 2 0), (2, .op 3 0), (3, .op 4 0), (4, .op 5 0), (5, .op 6 0), (10, .d (iD k2))]) (qs0.length) ?_ ⟨0, j1, qs0, ⟨Nat.zero_le _, rfl, rfl, fun q hq => by omega, by omega⟩, rfl, rfl, rfl⟩ ?_
   ·refine zwu ?_
    exact jnz
   rintro τ' H' mm ⟨k2, j2, q1, ⟨hk2, hql, hqw, hdo2, hj2⟩, rfl, rfl, rfl⟩
   refine zaa fun K26 hK26 => ?_
   refine szq hp (fun _ hZ => zdr hZ) ?_
   refine zah rfl (fun ht => ?_) (fun ht => ?_)
   ·have hlt : k2 < q1.length := by simp at ht; omega
    have hwk := zvf hqw hlt
    have hwq : 1 ≤ (nth q1 k2).w ∧ (nth q1 k2).w ≤ 2 := by
     obtain ⟨q, hq, e⟩ := List.mem_map.1 (zb0 (l := qs0.map (·.w)) hwk.1)
     rw [← hwk.2, ← e]; exact hfr.qw q hq
    have hrd := yc0 hlt
    refine zaf (hK26 _ _ ?_)
    refine zaa fun K28 hK28 => ?_
    refine zac ?_
    refine zag hp zai hc rfl fun K29 hK29 => ?_
    refine zdr ?_
    refine jxe ([zdm (scM ms), .free]) ([.cells [.d (bytesD b)], z81, .cells [.d (sD ⟨#[112]⟩), .d (sD ⟨#[97]⟩), .os 13 7 0 r1.length, .os 27 0 0 ms.length, .os 9 8 0 ts.length, .os 16 9 0 q1.length], .cells [.d (nI rw), .d (nI tw), .os 27 0 0 ms.length, .d (oD true)], .cells (avs (zbu b j2)), .cells (avs (r1.flatMap rgC)), .cells (avs (ts.flatMap tgC)), .cells (avs (q1.flatMap qgC))]) (jny (j := j2) hwd hmw0.symm hb hl' (by omega)) ?_
    rintro _ _ ⟨e, je, he, hja, hjb, rfl, g, rfl⟩
    refine ⟨rfl, ?_⟩
    obtain ⟨o_e, k_e, w_e, c_e, n_e, x_e⟩ := zce e; unfold tyV; rw [x_e]; dsimp only [List.map_cons, List.map_nil, List.cons_append, List.nil_append, zbu]
    refine zdr ?_
    refine hK29 _ _ ?_
    refine zbg hp (τ' := frL [(1, .op 2 0), (2, .op 3 0), (3, .op 4 0), (4, .op 5 0), (5, .op 6 0), (10, .d (iD k2)), (11, .op 10 0)]) (H' := [zdm (scM ms), .free, .cells [.d (bytesD b)], z81, .cells [.d (sD ⟨#[112]⟩), .d (sD ⟨#[97]⟩), .os 13 7 0 r1.length, .os 27 0 0 ms.length, .os 9 8 0 ts.length, .os 16 9 0 q1.length], .cells [.d (nI rw), .d (nI tw), .os 27 0 0 ms.length, .d (oD true)], .cells (avs (zbu b j2)), .cells (avs (r1.flatMap rgC)), .cells (avs (ts.flatMap tgC)), .cells (avs (q1.flatMap qgC)), .cells (avs ([iD o_e, nS, iD k_e, nS, iD w_e, nS, .fs c_e n_e] ++ zbu b je))]) ?_ ?_
    ·refine Rt.trans (Rt.fr1) ?_
     refine jha [0,11,2,3,4,5,6,7,8,9,10] ?_
     refine zwu ?_
     exact jnz
    refine zcj zai hp hc za8 rfl [(0, []), (1, []), (2, []), (3, []), (4, []), (5, []), (6, []), (7, []), (8, []), (9, []), (11, []), (10, []), (12, [])] [[], [0], [], [], [3], [], [3, 4, 5], [3, 4, 5, 6], [3, 4, 5, 6, 7], [3, 4, 5, 6, 7, 8], [0, 1, 2, 3, 4, 5, 6, 7, 8, 9], [], [0, 1, 2, 3, 4, 5, 6, 7, 8, 9, 10, 11]] 1 (by kernel_rfl) fun K30 hK30 => ?_
    refine zvg hrd ?_
    refine jyo ([zdm (scM ms), .free]) ([.cells [.d (bytesD b)], z81, .cells [.d (sD ⟨#[112]⟩), .d (sD ⟨#[97]⟩), .os 13 7 0 r1.length, .os 27 0 0 ms.length, .os 9 8 0 ts.length, .os 16 9 0 q1.length], .cells [.d (nI rw), .d (nI tw), .os 27 0 0 ms.length, .d (oD true)], .cells (avs (zbu b j2)), .cells (avs (r1.flatMap rgC)), .cells (avs (ts.flatMap tgC)), .cells (avs (q1.flatMap qgC)), .cells (avs ([iD o_e, nS, iD k_e, nS, iD w_e, nS, .fs c_e n_e] ++ zbu b je)), zd1]) (jxd (d := 2) (j := je) (w := (nth q1 k2).w) jwy hwd hmw0.symm hb hl' hwq.1 (by omega) (by omega)) ?_
    rintro _ _ ⟨d, jd, hd, hjc, hjd, rfl, g', rfl⟩
    refine ⟨rfl, ?_⟩
    obtain ⟨o_d, k_d, w_d, c_d, n_d, x_d⟩ := zce d; unfold tyV; rw [x_d]; dsimp only [List.map_cons, List.map_nil, List.cons_append, List.nil_append, zbu]
    refine zvg hrd ?_
    refine hK30 _ _ ?_
    refine szq hp (fun _ hZ => zdr hZ) ?_
    refine szq hp (fun _ hZ => zdr hZ) ?_
    refine szs hp (fun _ hZ => zdr hZ) (hK28 _ _ ?_)
    refine za5 hp zai hc rfl fun K34 hK34 => ?_
    refine zdr ?_
    refine hK34 _ _ ⟨_, _, _, ?_, ⟨k2 + 1, jd, q1.set k2 (jg8 (jg7 (nth q1 k2) e) d), ⟨by omega, by simp [hql], (zk0 (a := jg8 (jg7 (nth q1 k2) e) d) hlt rfl).trans hqw, hdo2.step hlt he hd, by omega⟩, rfl, rfl, rfl⟩, ?_⟩
    ·first | omega | (simp only [List.length_cons]; omega) | (dsimp only; omega)
    ·refine Rt.trans (Rt.fr1) ?_
     refine jha [0,12,2,3,4,5,6,7,8,9] ?_
     refine zwu ?_
     refine jqb ?_; have hs1 := jw6 (l := q1) (i := k2 * 16 + 2) hlt rfl rfl x_e; have hs2 := jw7 (l := q1.set k2 (jg7 (nth q1 k2) e)) (k := k2) (i := k2 * 16 + 9) (by simpa using hlt) rfl rfl x_d; rw [zeq hlt, List.set_set, ← hs1] at hs2; rw [← hs2]; simp [bytesD, iD, oD, sD, nS, avs, zbt]; rfl
   ·have hkk2 : k2 = q1.length := by simp at ht; omega
    have hdQ : DoQ (ctG rw tw mw) q1 q1.length := hkk2 ▸ hdo2
    refine zau (hK24 _ _ ?_)
    refine zaa fun K35 hK35 => ?_
    refine szq hp (fun _ hZ => jkj hZ) ?_
    refine zac ?_
    refine zan hp (fun τ' H' mm => ∃ (k3 j3 : Nat) (m1 : List MG), (k3 ≤ ms.length ∧ m1.length = ms.length ∧ (m1.map fun m => (m.words, m.w)) = mw ∧ DoM (ctG rw tw mw) m1 k3 ∧ j3 ≤ 809 + 100 * k3) ∧ mm = ms.length - k3 ∧ H' = [zdm (scM m1), .free, .cells [.d (bytesD b)], z81, .cells [.d (sD ⟨#[112]⟩), .d (sD ⟨#[97]⟩), .os 13 7 0 r1.length, .os 27 0 0 m1.length, .os 9 8 0 ts.length, .os 16 9 0 q1.length], .cells [.d (nI rw), .d (nI tw), .os 27 0 0 m1.length, .d (oD true)], .cells (avs (zbu b j3)), .cells (avs (r1.flatMap rgC)), .cells (avs (ts.flatMap tgC)), .cells (avs (q1.flatMap qgC))] ∧ τ' = frL [(1, .op 2 0), (2, .op 3 0), (3, .op 4 0), (4, .op 5 0), (5, .op 6 0), (13, .d (iD k3))]) (ms.length) ?_ ⟨0, j2, ms, ⟨Nat.zero_le _, rfl, hmw0.symm, fun q hq => by omega, by omega⟩, rfl, rfl, rfl⟩ ?_
    ·refine zwu ?_
     exact jnz
    rintro τ' H' mm ⟨k3, j3, m1, ⟨hk3, hml, hmw, hdo3, hj3⟩, rfl, rfl, rfl⟩
    refine zaa fun K37 hK37 => ?_
    refine szq hp (fun _ hZ => zdr hZ) ?_
    refine zah rfl (fun ht => ?_) (fun ht => ?_)
    ·have hlt : k3 < m1.length := by simp at ht; omega
     have hwk : k3 < mw.length ∧ nth mw k3 = ((nth m1 k3).words, (nth m1 k3).w) := by
      rw [← hmw]; exact ⟨by simpa using hlt, zgm hlt⟩
     have hwm := hwd.m _ (zb0 (l := mw) hwk.1)
     rw [hwk.2] at hwm
     have hwm1 : 1 ≤ (nth m1 k3).w ∧ (nth m1 k3).w ≤ 2 := hwm.2
     have hrd := ycy hlt
     refine zaf (hK37 _ _ ?_)
     refine zaa fun K39 hK39 => ?_
     refine zac ?_
     refine zag hp zai hc rfl fun K40 hK40 => ?_
     refine zdr ?_
     refine jxe ([zdm (scM m1), .free]) ([.cells [.d (bytesD b)], z81, .cells [.d (sD ⟨#[112]⟩), .d (sD ⟨#[97]⟩), .os 13 7 0 r1.length, .os 27 0 0 m1.length, .os 9 8 0 ts.length, .os 16 9 0 q1.length], .cells [.d (nI rw), .d (nI tw), .os 27 0 0 m1.length, .d (oD true)], .cells (avs (zbu b j3)), .cells (avs (r1.flatMap rgC)), .cells (avs (ts.flatMap tgC)), .cells (avs (q1.flatMap qgC))]) (jny (j := j3) hwd hmw hb hl' (by omega)) ?_
     rintro _ _ ⟨e, je, he, hja, hjb, rfl, g, rfl⟩
     refine ⟨rfl, ?_⟩
     obtain ⟨o_e, k_e, w_e, c_e, n_e, x_e⟩ := zce e; unfold tyV; rw [x_e]; dsimp only [List.map_cons, List.map_nil, List.cons_append, List.nil_append, zbu]
     refine zdr ?_
     refine hK40 _ _ ?_
     refine zbg hp (τ' := frL [(1, .op 2 0), (2, .op 3 0), (3, .op 4 0), (4, .op 5 0), (5, .op 6 0), (13, .d (iD k3)), (14, .op 10 0)]) (H' := [zdm (scM m1), .free, .cells [.d (bytesD b)], z81, .cells [.d (sD ⟨#[112]⟩), .d (sD ⟨#[97]⟩), .os 13 7 0 r1.length, .os 27 0 0 m1.length, .os 9 8 0 ts.length, .os 16 9 0 q1.length], .cells [.d (nI rw), .d (nI tw), .os 27 0 0 m1.length, .d (oD true)], .cells (avs (zbu b j3)), .cells (avs (r1.flatMap rgC)), .cells (avs (ts.flatMap tgC)), .cells (avs (q1.flatMap qgC)), .cells (avs ([iD o_e, nS, iD k_e, nS, iD w_e, nS, .fs c_e n_e] ++ zbu b je))]) ?_ ?_
     ·refine Rt.trans (Rt.fr1) ?_
      refine jha [0,11,2,3,4,5,6,7,8,9,10] ?_
      refine zwu ?_
      exact jnz
     refine zag hp zai hc rfl fun K41 hK41 => ?_
     refine zdr ?_
     refine jxe ([zdm (scM m1), .free]) ([.cells [.d (bytesD b)], z81, .cells [.d (sD ⟨#[112]⟩), .d (sD ⟨#[97]⟩), .os 13 7 0 r1.length, .os 27 0 0 m1.length, .os 9 8 0 ts.length, .os 16 9 0 q1.length], .cells [.d (nI rw), .d (nI tw), .os 27 0 0 m1.length, .d (oD true)], .cells (avs (zbu b j3)), .cells (avs (r1.flatMap rgC)), .cells (avs (ts.flatMap tgC)), .cells (avs (q1.flatMap qgC)), .cells (avs ([iD o_e, nS, iD k_e, nS, iD w_e, nS, .fs c_e n_e] ++ zbu b je))]) (jxd (d := 1) (j := je) (w := 1 + b.length % 2) ybn hwd hmw hb hl' (by omega) (by omega) (by omega)) ?_
     rintro _ _ ⟨a, ja, ha, hjc, hjd, rfl, g', rfl⟩
     refine ⟨rfl, ?_⟩
     obtain ⟨o_a, k_a, w_a, c_a, n_a, x_a⟩ := zce a; unfold tyV; rw [x_a]; dsimp only [List.map_cons, List.map_nil, List.cons_append, List.nil_append, zbu]
     refine zdr ?_
     refine hK41 _ _ ?_
     refine zbg hp (τ' := frL [(1, .op 2 0), (2, .op 3 0), (3, .op 4 0), (4, .op 5 0), (5, .op 6 0), (13, .d (iD k3)), (14, .op 10 0), (15, .op 11 0)]) (H' := [zdm (scM m1), .free, .cells [.d (bytesD b)], z81, .cells [.d (sD ⟨#[112]⟩), .d (sD ⟨#[97]⟩), .os 13 7 0 r1.length, .os 27 0 0 m1.length, .os 9 8 0 ts.length, .os 16 9 0 q1.length], .cells [.d (nI rw), .d (nI tw), .os 27 0 0 m1.length, .d (oD true)], .cells (avs (zbu b j3)), .cells (avs (r1.flatMap rgC)), .cells (avs (ts.flatMap tgC)), .cells (avs (q1.flatMap qgC)), .cells (avs ([iD o_e, nS, iD k_e, nS, iD w_e, nS, .fs c_e n_e] ++ zbu b je)), .cells (avs ([iD o_a, nS, iD k_a, nS, iD w_a, nS, .fs c_a n_a] ++ zbu b ja))]) ?_ ?_
     ·refine Rt.trans (Rt.fr1) ?_
      refine jha [0,12,2,3,4,5,6,7,8,9,10,11] ?_
      refine zwu ?_
      exact jnz
     rw [zjv]
     have hty := jxd (d := 2) (j := ja) (w := (nth m1 k3).w) jwy hwd hmw hb hl' hwm1.1 (by omega) (by omega)
     rw [zjv] at hty
     refine zcj zai hp hc za8 rfl [(0, []), (1, []), (2, []), (3, []), (4, []), (5, []), (6, []), (7, []), (8, []), (9, []), (11, []), (10, []), (12, [])] [[], [0], [], [], [3], [], [3, 4, 5], [3, 4, 5, 6], [3, 4, 5, 6, 7], [3, 4, 5, 6, 7, 8], [0, 1, 2, 3, 4, 5, 6, 7, 8, 9], [], [0, 1, 2, 3, 4, 5, 6, 7, 8, 9, 10, 11]] 1 (by kernel_rfl) fun K42 hK42 => ?_
     refine zvg hrd ?_
     refine jyo ([.cells (avs (m1.flatMap mgC)), .free]) ([.cells [.d (bytesD b)], z81, .cells [.d (sD ⟨#[112]⟩), .d (sD ⟨#[97]⟩), .os 13 7 0 r1.length, .os 27 0 0 m1.length, .os 9 8 0 ts.length, .os 16 9 0 q1.length], .cells [.d (nI rw), .d (nI tw), .os 27 0 0 m1.length, .d (oD true)], .cells (avs (zbu b j3)), .cells (avs (r1.flatMap rgC)), .cells (avs (ts.flatMap tgC)), .cells (avs (q1.flatMap qgC)), .cells (avs ([iD o_e, nS, iD k_e, nS, iD w_e, nS, .fs c_e n_e] ++ zbu b je)), .cells (avs ([iD o_a, nS, iD k_a, nS, iD w_a, nS, .fs c_a n_a] ++ zbu b ja)), zd1]) (hty) ?_
     rintro _ _ ⟨d, jd, hd, hje, hjf, rfl, g'', rfl⟩
     refine ⟨rfl, ?_⟩
     obtain ⟨o_d, k_d, w_d, c_d, n_d, x_d⟩ := zce d; unfold tyV; rw [x_d]; dsimp only [List.map_cons, List.map_nil, List.cons_append, List.nil_append, zbu]
     refine zvg hrd ?_
     refine hK42 _ _ ?_
     refine zbg hp (τ' := frL [(1, .op 2 0), (2, .op 3 0), (3, .op 4 0), (4, .op 5 0), (5, .op 6 0), (13, .d (iD k3)), (14, .op 10 0), (15, .op 11 0), (16, .op 12 0)]) (H' := [zdm (scM m1), .cells g'', .cells [.d (bytesD b)], z81, .cells [.d (sD ⟨#[112]⟩), .d (sD ⟨#[97]⟩), .os 13 7 0 r1.length, .os 27 0 0 m1.length, .os 9 8 0 ts.length, .os 16 9 0 q1.length], .cells [.d (nI rw), .d (nI tw), .os 27 0 0 m1.length, .d (oD true)], .cells (avs (zbu b j3)), .cells (avs (r1.flatMap rgC)), .cells (avs (ts.flatMap tgC)), .cells (avs (q1.flatMap qgC)), .cells (avs ([iD o_e, nS, iD k_e, nS, iD w_e, nS, .fs c_e n_e] ++ zbu b je)), .cells (avs ([iD o_a, nS, iD k_a, nS, iD w_a, nS, .fs c_a n_a] ++ zbu b ja)), .cells (avs ([iD o_d, nS, iD k_d, nS, iD w_d, nS, .fs c_d n_d] ++ zbu b jd))]) ?_ ?_
     ·refine zwu ?_
      exact jnz
     rw [zjv]
     refine szq hp (fun _ hZ => zdr hZ) ?_
     refine szq hp (fun _ hZ => zdr hZ) ?_
     refine szq hp (fun _ hZ => zdr hZ) ?_
     refine szs hp (fun _ hZ => zdr hZ) (hK39 _ _ ?_)
     refine za5 hp zai hc rfl fun K47 hK47 => ?_
     refine zdr ?_
     refine hK47 _ _ ⟨_, _, _, ?_, ⟨k3 + 1, jd, m1.set k3 (jg9 (jb6 (jb5 (nth m1 k3) e) a) d), ⟨by omega, by simp [hml], (zk0 (f := fun m : MG => (m.words, m.w)) (a := jg9 (jb6 (jb5 (nth m1 k3) e) a) d) hlt rfl).trans hmw, hdo3.step hlt he ha.t (by have := ha.n; simp only [hc1] at this; omega) hd, by omega⟩, rfl, rfl, rfl⟩, ?_⟩
     ·first | omega | (simp only [List.length_cons]; omega) | (dsimp only; omega)
     ·refine Rt.trans (Rt.fr1) ?_
      refine jha [0,13,2,3,4,5,6,7,8,9] ?_
      refine zwu ?_
      refine jqb ?_; have hs1 := jw8 (l := m1) (i := k3 * 27 + 3) hlt rfl rfl x_e; have hs2 := jw9 (l := m1.set k3 (jb5 (nth m1 k3) e)) (k := k3) (i := k3 * 27 + 10) (by simpa using hlt) rfl rfl x_a; rw [zeq hlt, List.set_set, ← hs1] at hs2; have hs3 := jxa (l := m1.set k3 (jb6 (jb5 (nth m1 k3) e) a)) (k := k3) (i := k3 * 27 + 17) (by simpa using hlt) rfl rfl x_d; rw [zeq hlt, List.set_set, ← hs2] at hs3; rw [zjv, ← hs3]; simp [bytesD, iD, oD, sD, nS, avs, zbt]
    ·have hkk3 : k3 = m1.length := by simp at ht; omega
     have hdM : DoM (ctG rw tw mw) m1 m1.length := hkk3 ▸ hdo3
     refine zau (hK35 _ _ ?_)
     refine zbg hp (τ' := frL [(2, .op 5 0), (3, .op 0 0)]) (H' := [.cells [.d (sD ⟨#[112]⟩), .d (sD ⟨#[97]⟩), .d (.fs (r1.flatMap rgC) r1.length), .d (.fs (m1.flatMap mgC) m1.length), .d (.fs (ts.flatMap tgC) ts.length), .d (.fs (q1.flatMap qgC) q1.length)], .dead, .dead, .dead, .dead, z81]) ?_ ?_
     ·refine jha [4,0,7,8,9,3] ?_
      refine Rt.trans (Rt.heap (H' := [.cells [.d (sD ⟨#[112]⟩), .d (sD ⟨#[97]⟩), .os 13 2 0 r1.length, .os 27 1 0 m1.length, .os 9 3 0 ts.length, .os 16 4 0 q1.length], .cells (avs (m1.flatMap mgC)), .cells (avs (r1.flatMap rgC)), .cells (avs (ts.flatMap tgC)), .cells (avs (q1.flatMap qgC)), z81]) (by simp only [r_g, Nat.reduceAdd, ↓reduceIte, Nat.reduceEqDiff, zm5, ze8, zbu, z81, zhk, zhl, zd1, zb4, zb5, zjv, za2, zcs, zcr, zct, zco]; first | done | rfl)) ?_
      refine Rt.trans (Rt.fz (id := 1) (l := (m1.flatMap mgC)) rfl) ?_
      refine Rt.trans (Rt.heap (H' := [.cells [.d (sD ⟨#[112]⟩), .d (sD ⟨#[97]⟩), .os 13 2 0 r1.length, .d (.fs (m1.flatMap mgC) m1.length), .os 9 3 0 ts.length, .os 16 4 0 q1.length], .dead, .cells (avs (r1.flatMap rgC)), .cells (avs (ts.flatMap tgC)), .cells (avs (q1.flatMap qgC)), z81]) (by simp only [r_g, Nat.reduceAdd, ↓reduceIte, Nat.reduceEqDiff, zm5, ze8, zbu, z81, zhk, zhl, zd1, zb4, zb5, zjv, za2, zcs, zcr, zct, zco]; first | done | rfl)) ?_
      refine Rt.trans (Rt.fz (id := 2) (l := (r1.flatMap rgC)) rfl) ?_
      refine Rt.trans (Rt.heap (H' := [.cells [.d (sD ⟨#[112]⟩), .d (sD ⟨#[97]⟩), .d (.fs (r1.flatMap rgC) r1.length), .d (.fs (m1.flatMap mgC) m1.length), .os 9 3 0 ts.length, .os 16 4 0 q1.length], .dead, .dead, .cells (avs (ts.flatMap tgC)), .cells (avs (q1.flatMap qgC)), z81]) (by simp only [r_g, Nat.reduceAdd, ↓reduceIte, Nat.reduceEqDiff, zm5, ze8, zbu, z81, zhk, zhl, zd1, zb4, zb5, zjv, za2, zcs, zcr, zct, zco]; first | done | rfl)) ?_
      refine Rt.trans (Rt.fz (id := 3) (l := (ts.flatMap tgC)) rfl) ?_
      refine Rt.trans (Rt.heap (H' := [.cells [.d (sD ⟨#[112]⟩), .d (sD ⟨#[97]⟩), .d (.fs (r1.flatMap rgC) r1.length), .d (.fs (m1.flatMap mgC) m1.length), .d (.fs (ts.flatMap tgC) ts.length), .os 16 4 0 q1.length], .dead, .dead, .dead, .cells (avs (q1.flatMap qgC)), z81]) (by simp only [r_g, Nat.reduceAdd, ↓reduceIte, Nat.reduceEqDiff, zm5, ze8, zbu, z81, zhk, zhl, zd1, zb4, zb5, zjv, za2, zcs, zcr, zct, zco]; first | done | rfl)) ?_
      refine Rt.trans (Rt.fz (id := 4) (l := (q1.flatMap qgC)) rfl) ?_
      refine zwu ?_
      refine jqb ?_; simp only [za2 zco]
     refine szq hp (fun _ hZ => zdr hZ) ?_
     refine zal ?_
     try dsimp only [zbm, zaq]
     refine zak rfl ?_
     simp -dsimp -implicitDefEqProofs (disch := first | assumption | omega | (simp only [r_z, zcr, zcs, zct, zco] <;> omega) | decide) only [r_r, ↓reduceIte, Nat.reduceEqDiff, Nat.reduceAdd, D.fix, Int.reduceToNat, Nat.reduceMul, Nat.reduceBNe, Nat.reduceBEq, zm5, ze8, zbu, z81, zhk, zhl, zd1, zb4, zb5, zpz, zp0]
     show ∃ r, closeA _ _ = some r ∧ _
     simp (disch := first | assumption | omega | (simp only [r_z, zcr, zcs, zct, zco] <;> omega) | decide) only [r_c, Nat.reduceAdd, D.fix, ↓reduceIte, Nat.reduceEqDiff, zm5, ze8, zbu, z81, zhk, zhl, zd1, zb4, zb5]
     refine ⟨_, rfl, rw, tw, mw, r1, m1, ts, q1, ⟨hwd, hrw, htw, hmw, by omega, fun q hq => ?_, hdR, hdT, hdQ, hdM⟩, rfl⟩; have hwk := zvf hqw hq; obtain ⟨x, hx, e⟩ := List.mem_map.1 (zb0 (l := qs0.map (·.w)) hwk.1); rw [← hwk.2, ← e]; exact hfr.qw x hx
end Go.Proofs.Ytapjobndmmkanaa
