/- netlist.Build. -/
import Derived.Test.YtapjobndmmkanaaQr
import Derived.Test.YtapjobndmmkanaaYr
set_option linter.unusedVariables false
set_option linter.unusedSimpArgs false
set_option maxRecDepth 100000
set_option maxHeartbeats 4000000
namespace Go.Proofs.Ytapjobndmmkanaa
open Go Go.RowKit
theorem jch : ((((((type_of% @zfs) ∧ ((type_of% @zim) ∧ (type_of% @zfr))) ∧ (((type_of% @zkh) ∧ (type_of% @zpi)) ∧ ((type_of% @jjo) ∧ (type_of% @zme)))) ∧ (((type_of% @zmf) ∧ ((type_of% @jnv) ∧ (type_of% @zzx))) ∧ (((type_of% @zzz) ∧ (type_of% @zz0)) ∧ ((type_of% @jnu) ∧ (type_of% @zdl))))) ∧ ((((type_of% @zjp) ∧ ((type_of% @zjq) ∧ (type_of% @zmr))) ∧ (((type_of% @zew) ∧ (type_of% @zex)) ∧ ((type_of% @zyu) ∧ (type_of% @zyv)))) ∧ ((((type_of% @zyw) ∧ (type_of% @zni)) ∧ ((type_of% @zdj) ∧ (type_of% @zdz))) ∧ (((type_of% @zc2) ∧ (type_of% @zgh)) ∧ ((type_of% @zmq) ∧ (type_of% @zfa)))))) ∧ (((((type_of% @zgs) ∧ ((type_of% @zgt) ∧ (type_of% @zmp))) ∧ (((type_of% @zd7) ∧ (type_of% @zk4)) ∧ ((type_of% @zk5) ∧ (type_of% @zmv)))) ∧ ((((type_of% @zns) ∧ (type_of% @zfb)) ∧ ((type_of% @zk1) ∧ (type_of% @zk2))) ∧ (((type_of% @zms) ∧ (type_of% @jnf)) ∧ ((type_of% @jng) ∧ (type_of% @jni))))) ∧ ((((type_of% @znl) ∧ ((type_of% @znm) ∧ (type_of% @znk))) ∧ (((type_of% @zjy) ∧ (type_of% @znn)) ∧ ((type_of% @zgg) ∧ (type_of% @zcq)))) ∧ ((((type_of% @zf0) ∧ (type_of% @zf1)) ∧ ((type_of% @zg7) ∧ (type_of% @zc7))) ∧ (((type_of% @zh0) ∧ (type_of% @zh1)) ∧ ((type_of% @zh2) ∧ (type_of% @jjp))))))) := ⟨⟨⟨⟨⟨@zfs, ⟨@zim, @zfr⟩⟩, ⟨⟨@zkh, @zpi⟩, ⟨@jjo, @zme⟩⟩⟩, ⟨⟨@zmf, ⟨@jnv, @zzx⟩⟩, ⟨⟨@zzz, @zz0⟩, ⟨@jnu, @zdl⟩⟩⟩⟩, ⟨⟨⟨@zjp, ⟨@zjq, @zmr⟩⟩, ⟨⟨@zew, @zex⟩, ⟨@zyu, @zyv⟩⟩⟩, ⟨⟨⟨@zyw, @zni⟩, ⟨@zdj, @zdz⟩⟩, ⟨⟨@zc2, @zgh⟩, ⟨@zmq, @zfa⟩⟩⟩⟩⟩, ⟨⟨⟨⟨@zgs, ⟨@zgt, @zmp⟩⟩, ⟨⟨@zd7, @zk4⟩, ⟨@zk5, @zmv⟩⟩⟩, ⟨⟨⟨@zns, @zfb⟩, ⟨@zk1, @zk2⟩⟩, ⟨⟨@zms, @jnf⟩, ⟨@jng, @jni⟩⟩⟩⟩, ⟨⟨⟨@znl, ⟨@znm, @znk⟩⟩, ⟨⟨@zjy, @znn⟩, ⟨@zgg, @zcq⟩⟩⟩, ⟨⟨⟨@zf0, @zf1⟩, ⟨@zg7, @zc7⟩⟩, ⟨⟨@zh0, @zh1⟩, ⟨@zh2, @jjp⟩⟩⟩⟩⟩⟩
theorem Rt.fry {m : List Nat} {τ : Fr} {H : zae} : Rt m τ H τ (H ++ [.free]) := fun c a w _ h => R.reserve 1 H h
def zdv : AObj := .cells [.d (.val (.slice none 0 0)), .d (.val (.slice none 0 0)), .d (.val (.slice none 0 0)), .d (.val (.slice none 0 0))]
def zuh (p : Pr) : AV := if 600 < 2 + (zfi p).length + (ze4 p).gates.length then .tup [.d (.agg (zb7 ⟨[], [], [], []⟩)), .d (iD 2)] else .tup [.d (zcb (ze4 p)), .d (iD 0)]
section
variable {p : Pr} {mi : Mp} {o : List Wire} {d : List Int} {n : Nat} {s : Os}
theorem OsOk.bok (hs : OsOk p n s) (hv : PvOk p mi) {μ : Mp} (hn : NdM (mP p) s.gs μ) (hl : n ≤ 80000) : BOk (eP p mi o d (zbd p)) s.gs μ := ⟨hn, hs.gi, hv.il, by have := hs.len; omega⟩
theorem OsOk.bitsS (hs : OsOk p n s) (hv : PvOk p mi) {gs : Gs} {μ : Mp} {ex : Ex} (hp : s.gs <+: gs) (hg : BOk (eP p mi o d (zbd p)) gs μ) (hw : WT (ctP p) true ex) (hl : gs.length + za0 (ctP p) ex ≤ 90000) :
  ScS Try.prog [0, 1, 3, 4, 5, 6, 7] 99 [.op 0 0, .agg ((exS ex).map .d)] (bH (eP p mi o d (zbd p)) gs μ) (jxg (eP p mi o d (zbd p)) (zcp p (zbd p) gs ex)) := by
 have := zrq (eP p mi o d (zbd p)) hv.be true ex gs μ hg (jp5 hv.k ((hs.tp hv.k).trans hp)) hw hl
 rwa [zwj hv.be] at this
end
theorem jhi {α : Type} [Inhabited α] {f : α → List D} {w : Nat} (hw : ∀ a, (f a).length = w) {l : List α} {k off n : Nat} (hk : k < l.length) (ho : off + n ≤ w) : zbv (l.flatMap f) (k * w + off) n = some (((f (nth l k)).drop off).take n) := by
 have e1 : (l.flatMap f).drop (k * w + off) = ((f (nth l k)).drop off) ++ (l.drop (k + 1)).flatMap f := by
  rw [← List.drop_drop, zij hw, zdd hk, List.drop_eq_getElem_cons hk, List.flatMap_cons, List.drop_append_of_le_length (by rw [hw]; omega)]
 unfold zbv
 rw [if_pos (by
  rw [zca hw]
  have := Nat.mul_le_mul_right w (show k + 1 ≤ l.length from hk)
  rw [Nat.add_mul] at this; omega), e1, List.take_append_of_le_length (by rw [List.length_drop, hw]; omega)]
theorem jys {l : List PPut} {k : Nat} (h : k < l.length) : zbv (l.flatMap pqC) (k * 16 + 9) 7 = some (exC (nth l k).da) := by
 rw [jhi zot h (by omega)]
 show some ((((exC (nth l k).wh) ++ exC (nth l k).da).drop 7).take 7) = _
 rw [List.drop_append_of_le_length (by rw [zv9]; omega), List.drop_of_length_le (by rw [zv9]; omega), List.nil_append, List.take_of_length_le (by rw [zv9]; omega)]
theorem jyt {l : List PPut} {k : Nat} (h : k < l.length) : zbv (l.flatMap pqC) (k * 16 + 9) 7 = some (exS (nth l k).da) := by rw [← zho]; exact jys h
theorem zwm {p : Pr} (h : PrOk p) : ∀ i, i ≤ p.regs.length → (zbu p i).dr.length ≤ 8 * i
 | 0, _ => by simp [zbu]
 | i + 1, hi => by
  have ih := zwm h i (by omega)
  have hs := zhx h (show i < p.regs.length by omega) (zeb h i (by omega))
  have hw := h.ct.r i (by simp [ctP]; omega)
  rw [show nth (ctP p).regs i = (nth p.regs i).w from jbx (show i < p.regs.length by omega)] at hw
  simp only [zbu, List.length_append, zre, hs.b.wid]
  omega
theorem zwn {p : Pr} (h : PrOk p) : ∀ i, i ≤ p.takes.length → (zc8 p i).dr.length ≤ 8 * p.regs.length + i
 | 0, _ => by have := zwm h _ (Nat.le_refl _); simpa [zc8] using this
 | i + 1, hi => by
  have ih := zwn h i (by omega)
  simp only [zc8, List.length_append, List.length_cons, List.length_nil]
  omega
theorem zwo {p : Pr} (h : PrOk p) : ∀ i, i ≤ p.puts.length → (zc3 p i).dr.length ≤ 8 * p.regs.length + p.takes.length + 9 * i
 | 0, _ => by have := zwn h _ (Nat.le_refl _); simpa [zc3] using this
 | i + 1, hi => by
  have ih := zwo h i (by omega)
  have hs := zmg h (show i < p.puts.length by omega) (zhk h i (by omega))
  have hw := h.qb i (by omega)
  simp only [zc3, List.length_append, List.length_cons, List.length_nil, zre, hs.hb.wid]
  omega
theorem jhj {p : Pr} (h : PrOk p) : ∀ i, i ≤ p.mems.length → (zcg p i).dr.length ≤ 8 * p.regs.length + p.takes.length + 9 * p.puts.length + 12 * i
 | 0, _ => by have := zwo h _ (Nat.le_refl _); simpa [zcg] using this
 | i + 1, hi => by
  have ih := jhj h i (by omega)
  have hs := zmh h (show i < p.mems.length by omega) (zdy h i (by omega)) rfl rfl rfl rfl
  have hw := h.ct.m i (by simp [ctP]; omega)
  rw [show nth (ctP p).mems i = ((nth p.mems i).words, (nth p.mems i).w) from jbx (show i < p.mems.length by omega)] at hw
  simp only [zcg, List.length_append, List.length_cons, List.length_nil, zg0, hs.hw.wid]
  simp only at hw
  omega
theorem zcm {p q : Prop} (hq : q) (h : p = q := by
 conv => lhs; simp -dsimp -implicitDefEqProofs (disch := first | assumption | omega | (simp only [r_z, zab, zac, za7, zbr, zbb, zbc] <;> omega) | decide) only [r_r, ↓reduceIte, Nat.reduceEqDiff, Nat.reduceAdd, D.fix, Int.reduceToNat, Nat.reduceMul, Nat.reduceBNe, Nat.reduceBEq, r_m, bH, bO, zar, zav, List.cons_append, List.nil_append, zbq, zdv, eP, zby, zej, zrl, prS, zc9, zot, pqS, zg3, zt7, pmS, nS, sD, jch]) : p := h.mpr hq
theorem zrr (k : List Nat) {m : List Nat} {τ τ1 : Fr} {H H1 : zae} (h : Rt m (fun t => gcV k (τ t)) (gcH k H) τ1 H1) (a : ∀ i ∈ m, k[i]? = some i := by decide) (b : k.Nodup := by decide) (c : ∀ i ∈ k, i < H.length := by
 simp [fzH, gcH]) : Rt m τ H τ1 H1 := Rt.trans (Rt.gc a b c) h
theorem zrs {m : List Nat} {τ τ' : Fr} {H H' : zae} (h2 : H = H') (h : zfq τ τ' := by
 repeat (first | exact zas _ | refine zao ?_ (by first | rfl | (simp [r_f, zab, zac, za7, zbr, zbb, zbc, zkk hk0, zox hk0]; done) | simp [r_f, zab, zac, za7, zbr, zbb, zbc, zkk hk0, zox hk0, *]))) : Rt m τ H τ' H' := Rt.end h h2
theorem zsc {P : Program} {sm : List Nat} {N : Nat} {τ : Fr} {H : zae} {f : FuncId} {args : List AV} {K0 KK : AV → zae → Prop} {ks : List Nat} (S T : zae) (h : ScS P ks f args S K0) (hK : ∀ x S', K0 x S' → S'.length = S.length ∧ KK x (S' ++ T)) (hH : H = S ++ T := by
 rfl) (hm : sm.all (okI ks S.length) = true := by
 first | rfl | (simp [AV.allIs, AV.allI, zaq, zah, zai, okI, ltI, zad, zax, bH, bO, eP, zdv, zby, prS, pqS, pmS]; done) | (intro o ho; simp at ho; done)) (hτ : ∀ t, (τ t).allI (okI ks S.length) = true := by
 exact fun t => zbi (by first | rfl | (simp [AV.allIs, AV.allI, zaq, zah, zai, okI, ltI, zad, zax, bH, bO, eP, zdv, zby, prS, pqS, pmS]; done) | (intro o ho; simp at ho; done)) t) (ha : AV.allIs (ltI S.length) args = true := by
 first | rfl | (simp [AV.allIs, AV.allI, zaq, zah, zai, okI, ltI, zad, zax, bH, bO, eP, zdv, zby, prS, pqS, pmS]; done) | (intro o ho; simp at ho; done)) (hS : ∀ o ∈ S, o.allI (ltI S.length) = true := by
 first | rfl | (simp [AV.allIs, AV.allI, zaq, zah, zai, okI, ltI, zad, zax, bH, bO, eP, zdv, zby, prS, pqS, pmS]; done) | (intro o ho; simp at ho; done)) (hT : ∀ o ∈ T, o.allI (okI ks S.length) = true := by
 first | rfl | (simp [AV.allIs, AV.allI, zaq, zah, zai, okI, ltI, zad, zax, bH, bO, eP, zdv, zby, prS, pqS, pmS]; done) | (intro o ho; simp at ho; done)) : kC P sm N H τ (.d (.val (.func (.func f) #[] #[]))) args true (tg KK) := zjo h hH hm hτ ha hS hT hK
theorem zrt {p q : Prop} (hq : q) (h : p = q := by
 conv => lhs; simp -dsimp -implicitDefEqProofs (disch := first | assumption | omega | (simp only [r_z, zab, zac, za7, zbr, zbb, zbc] <;> omega) | decide) only [r_r, ↓reduceIte, Nat.reduceEqDiff, Nat.reduceAdd, D.fix, Int.reduceToNat, Nat.reduceMul, Nat.reduceBNe, Nat.reduceBEq, r_m, bH, bO, zar, zav, List.cons_append, List.nil_append, zbq, zdv, eP, zby, zej, zrl, prS, zc9, zot, pqS, zg3, zt7, pmS, nS, sD, zbj, jch]) : p := h.mpr hq
theorem jrn {p q r : Prop} (e : r) (hq : q) (h : r → p = q := by
 intro hY
 conv => lhs; simp -dsimp -implicitDefEqProofs (disch := first | assumption | omega | (simp only [r_z, zab, zac, za7, zbr, zbb, zbc] <;> omega) | decide) only [r_r, ↓reduceIte, Nat.reduceEqDiff, Nat.reduceAdd, D.fix, Int.reduceToNat, Nat.reduceMul, Nat.reduceBNe, Nat.reduceBEq, r_m, bH, bO, zar, zav, List.cons_append, List.nil_append, zbq, zdv, eP, zby, zej, zrl, prS, zc9, zot, pqS, zg3, zt7, pmS, nS, sD, zov, ztn, jp0 ya0 hkey hv.m.ok, Option.getD_some, jch, hY]) : p := (h e).mpr hq
theorem jyu {p q : Prop} (hq : q) (h : p = q := by
 conv => lhs; simp -dsimp -implicitDefEqProofs (disch := first | assumption | omega | (simp only [r_z, zab, zac, za7, zbr, zbb, zbc] <;> omega) | decide) only [r_r, ↓reduceIte, Nat.reduceEqDiff, Nat.reduceAdd, D.fix, Int.reduceToNat, Nat.reduceMul, Nat.reduceBNe, Nat.reduceBEq, r_m, bH, bO, zar, zav, List.cons_append, List.nil_append, zbq, zdv, eP, zby, zej, zrl, prS, zc9, zot, pqS, zg3, zt7, pmS, nS, sD, jyt, jch]) : p := h.mpr hq
theorem jro {p q : Prop} (hq : q) (h : p = q := by
 conv => lhs; simp -dsimp -implicitDefEqProofs (disch := first | assumption | omega | (simp only [r_z, zab, zac, za7, zbr, zbb, zbc] <;> omega) | decide) only [r_r, ↓reduceIte, Nat.reduceEqDiff, Nat.reduceAdd, D.fix, Int.reduceToNat, Nat.reduceMul, Nat.reduceBNe, Nat.reduceBEq, r_w, r_m, bH, bO, zar, zav, List.cons_append, List.nil_append, zbq, zdv, eP, zby, zej, zrl, prS, zc9, zot, pqS, zg3, zt7, pmS, nS, sD, jch]) : p := h.mpr hq
theorem jyv {p q : Prop} (hq : q) (h : p = q := by
 conv => lhs; simp -dsimp -implicitDefEqProofs (disch := first | assumption | omega | (simp only [r_z, zab, zac, za7, zbr, zbb, zbc] <;> omega) | decide) only [r_r, ↓reduceIte, Nat.reduceEqDiff, Nat.reduceAdd, D.fix, Int.reduceToNat, Nat.reduceMul, Nat.reduceBNe, Nat.reduceBEq, r_m, bH, bO, zar, zav, List.cons_append, List.nil_append, zbq, zdv, eP, zby, zej, zrl, prS, zc9, zot, pqS, zg3, zt7, pmS, nS, sD, zfr, zkh]) : p := h.mpr hq
theorem zui {p q : Prop} (hq : q) (h : p = q := by
 conv => lhs; simp only [r_g, Nat.reduceAdd, ↓reduceIte, Nat.reduceEqDiff, r_m, bH, bO, zar, zav, List.cons_append, List.nil_append, zbq, zdv, eP, zby, zej, zrl, prS, zc9, zot, pqS, zg3, zt7, pmS, nS, sD]) : p := h.mpr hq
theorem yf8 {p : Prop} (h : p := by
 first | rfl | (simp only [r_g, Nat.reduceAdd, ↓reduceIte, Nat.reduceEqDiff, r_m, bH, bO, zar, zav, List.cons_append, List.nil_append, zbq, zdv, eP, zby, zej, zrl, prS, zc9, zot, pqS, zg3, zt7, pmS, nS, sD]; first | done | rfl)) : p := h
theorem yf9 {p q : Prop} (hq : q) (h : p = q := by
 conv => lhs; simp (disch := first | assumption | omega | (simp only [r_z, zab, zac, za7, zbr, zbb, zbc] <;> omega) | decide) only [r_c, Nat.reduceAdd, D.fix, ↓reduceIte, Nat.reduceEqDiff, r_m, bH, bO, zar, zav, List.cons_append, List.nil_append, zbq, zdv, eP, zby, zej, zrl, prS, zc9, zot, pqS, zg3, zt7, pmS, nS, sD]) : p := h.mpr hq
theorem jhk (p : Pr) (hk0 : PrOk p) (hil : (zfi p).length ≤ 1000) (hco : zgz p ≤ 80000) (hml : p.mems.length ≤ 100) : zbg Try.prog 61 [zbq p] (zuh p) := by
 have hrl := hk0.rl; have htl := hk0.tl; have hql := hk0.ql
 refine za4 (fn := Try.f61) (by kernel_rfl) Try.func61 rfl (Nat.le_of_ble_eq_true rfl) fun c hc hp => ?_
 refine za9 (τ' := frL [(0, .d (zbq p))]) (by repeat (first | exact zas _ | refine zao ?_ (by first | rfl | (simp [r_f, zab, zac, za7, zbr, zbb, zbc, zkk hk0, zox hk0]; done) | simp [r_f, zab, zac, za7, zbr, zbb, zbc, zkk hk0, zox hk0, *]))) ?_
 refine szq hp (fun _ hZ => zcm hZ) ?_
 refine szq hp (fun _ hZ => zcm hZ) ?_
 refine zat hp (τ' := frL [(1, .op 8 0), (2, .op 9 0), (3, .d (iD 0)), (4, .op 0 0)]) (H' := bH ⟨p, [], ([], 0), [], [], []⟩ [] ([], 0) ++ [.cells (avs (zar p)), zdv]) ?_ ?_
 ·refine Rt.trans (Rt.nilc 4 0 3 rfl rfl) ?_
  refine Rt.trans (Rt.nilc 4 1 5 rfl rfl) ?_
  refine Rt.trans (Rt.nilc 4 2 3 rfl rfl) ?_
  refine Rt.trans (Rt.nilc 4 3 1 rfl rfl) ?_
  refine Rt.trans (Rt.nilc 4 12 1 rfl rfl) ?_
  refine zrr [4,5,6,7,8,2,3,9,0,1] ?_
  refine zrs ?_
  refine zui ?_; simp [bH, bO, zar, avs, zdv, mO, mE]
 refine zag hp zak hc rfl fun K3 hK3 => ?_
 refine zcm ?_
 refine zsc (bH ⟨p, [], ([], 0), [], [], []⟩ [] ([], 0)) ([.cells (avs (zar p)), zdv]) (jhb p [] ([], 0) [] [] [] hil hrl htl hql) ?_
 rintro _ _ ⟨mi, hmi, rfl, rfl⟩
 refine ⟨rfl, ?_⟩
 have hv : PvOk p mi := ⟨hk0, hmi, hil, hco⟩
 refine zcm ?_
 refine hK3 _ _ ?_
 refine zat hp (τ' := frL [(1, .op 9 0), (2, .op 10 0), (3, .d (iD 0)), (4, .op 0 0)]) (H' := bH (eP p mi [] [] []) [] ([], 0) ++ [.free, .cells (avs (zar p)), zdv]) ?_ ?_
 ·refine Rt.trans (Rt.fry) ?_
  refine zrr [0,1,2,3,4,5,6,7,10,8,9] ?_
  refine zrs ?_
  exact yf8
 refine zag hp zak hc rfl fun K4 hK4 => ?_
 refine zcm ?_
 refine zsc (bH (eP p mi [] [] []) [] ([], 0) ++ [.free]) ([.cells (avs (zar p)), zdv]) (jrm p mi [] [] hv ([], 0) (NdM.nil _)) ?_
 rintro _ _ ⟨μ0, hn0, rfl, rfl⟩
 refine ⟨rfl, ?_⟩
 refine zcm ?_
 refine hK4 _ _ ?_
 refine zaa fun K5 hK5 => ?_
 refine szq hp (fun _ hZ => zcm hZ) ?_
 refine zaf ?_
 refine zan hp (fun τ' H' mm => ∃ (i : Nat) (μ1 : Mp), (i ≤ p.regs.length ∧ NdM (mP p) (zbu p i).gs μ1) ∧ mm = p.regs.length - i ∧ H' = bH (eP p mi ((zbu p i).out) ((zbu p i).dr) (zbd p)) ((zbu p i).gs) μ1 ++ [.cells (avs (zar p)), zdv] ∧ τ' = frL [(1, .op 8 0), (2, .op 9 0), (3, .d (iD 0)), (4, .op 0 0), (5, .d (intsD (zei p))), (6, .d (intsD (zea p))), (7, .d (iD (zcf p))), (39, .d (.fs (p.regs.flatMap prC) p.regs.length)), (40, .d (iD p.regs.length)), (41, .d (iD i))]) (p.regs.length) ?_ ⟨0, μ0, ⟨Nat.zero_le _, hn0⟩, rfl, rfl, rfl⟩ ?_
 ·refine zrr [0,1,2,3,4,5,6,7,9,10] ?_
  refine zrs ?_
  refine zui ?_; simp [bH, bO, eP, avs, zar, iD, intsD, zdv, zbu]
 rintro τ' H' mm ⟨i, μ1, ⟨hi, hn1⟩, rfl, rfl, rfl⟩
 refine szq hp (fun _ hZ => zcm hZ) ?_
 refine zaa fun K8 hK8 => ?_
 refine zal rfl (fun ht => ?_) (fun ht => ?_)
 ·have hlt : i < p.regs.length := by simp at ht; omega
  have hs := zeb hk0 i hi
  have hrs := zhx hk0 hlt hs
  have hcr := zz7 (p := p) (show i + 1 ≤ p.regs.length by omega)
  rw [cRP] at hcr
  obtain ⟨s, hse⟩ : ∃ s, s = zbu p i := ⟨_, rfl⟩
  obtain ⟨R, hR⟩ : ∃ R, R = zcp p (zbd p) s.gs (nth p.regs i).next := ⟨_, rfl⟩
  have hsu : zbu p (i + 1) = ⟨(zbs (fun gs k => zj0 (mP p) gs (zcf p) (nth R.2 k) (inp p 1 i k)) R.1 R.2.length).1, s.out ++ zb2 1 i R.2.length, s.dr ++ (zbs (fun gs k => zj0 (mP p) gs (zcf p) (nth R.2 k) (inp p 1 i k)) R.1 R.2.length).2⟩ := by rw [hR, hse]; rfl
  have hdn := zwm hk0 i hi
  rw [← hse] at hs hrs hn1 hdn
  rw [← hse]
  rw [← hR] at hrs
  have hln := hs.len; have hol := hs.ol
  have hb := hrs.b
  have hRl := hb.len; have hRw := hb.wid
  have h1 : BOk (eP p mi (s.out) (s.dr) (zbd p)) s.gs μ1 := hs.bok hv hn1 (by omega)
  have hcb := hs.bitsS (o := s.out) (d := s.dr) hv (List.prefix_refl _) h1 (hk0.rn i hlt).1 (by omega)
  rw [← hR] at hcb
  refine zaj (hK8 _ _ ?_)
  refine zaa fun K9 hK9 => ?_
  refine zaf ?_
  refine szq hp (fun _ hZ => zcm hZ) ?_
  refine zag hp zak hc rfl fun K11 hK11 => ?_
  refine zcm ?_
  refine zsc (bH (eP p mi (s.out) (s.dr) (zbd p)) (s.gs) μ1) ([.cells (avs (zar p)), zdv, .cells (avs (prS (nth p.regs i)))]) (hcb) ?_
  rintro _ _ ⟨μ2, hn2, rfl, rfl⟩
  refine ⟨rfl, ?_⟩
  refine zcm ?_
  refine hK11 _ _ ?_
  refine zaf ?_
  refine zan hp (fun τ' H' mm => ∃ (k : Nat) (μ3 : Mp), (k ≤ R.2.length ∧ NdM (mP p) (zbs (fun gs k => zj0 (mP p) gs (zcf p) (nth R.2 k) (inp p 1 i k)) R.1 k).1 μ3) ∧ mm = R.2.length - k ∧ H' = bH (eP p mi (s.out ++ zb2 1 i k) (s.dr ++ (zbs (fun gs k => zj0 (mP p) gs (zcf p) (nth R.2 k) (inp p 1 i k)) R.1 k).2) (zbd p)) ((zbs (fun gs k => zj0 (mP p) gs (zcf p) (nth R.2 k) (inp p 1 i k)) R.1 k).1) μ3 ++ [.cells (avs (zar p)), zdv] ∧ τ' = frL [(1, .op 8 0), (2, .op 9 0), (3, .d (iD 0)), (4, .op 0 0), (5, .d (intsD (zei p))), (6, .d (intsD (zea p))), (7, .d (iD (zcf p))), (8, .d (iD i)), (39, .d (.fs (p.regs.flatMap prC) p.regs.length)), (40, .d (iD p.regs.length)), (41, .d (iD i)), (49, .d (intsD R.2)), (50, .d (iD R.2.length)), (51, .d (iD k))]) (R.2.length) ?_ ⟨0, μ2, ⟨Nat.zero_le _, hn2⟩, rfl, rfl, rfl⟩ ?_
  ·refine zrr [0,1,2,3,4,5,6,7,8,9] ?_
   refine zrs ?_
   refine zui ?_; simp [bH, bO, eP, avs, zar, iD, intsD, zdv, zbs, zb2]
  rintro τ' H' mm ⟨k, μ3, ⟨hkk, hn3⟩, rfl, rfl, rfl⟩
  refine szq hp (fun _ hZ => zcm hZ) ?_
  refine zaa fun K13 hK13 => ?_
  refine zal rfl (fun ht => ?_) (fun ht => ?_)
  ·have hlt2 : k < R.2.length := by simp at ht; omega
   have hkw : k < (nth p.regs i).w := by omega
   have hw8 := hk0.ct.r i (by simpa [ctP] using hlt)
   rw [show nth (ctP p).regs i = (nth p.regs i).w from jbx hlt] at hw8
   have hbk : Bs (mP p) (2 * k) k R.1 (zbs (fun gs k => zj0 (mP p) gs (zcf p) (nth R.2 k) (inp p 1 i k)) R.1 k) := zcv hb.gi fun j hj gs' hp hg => ztw mP2 hg (hs.fire hk0 (hb.pre.trans hp)) (hb.at hp (by omega)) (zor (in1 hlt (by omega)) _)
   have hsuk : zbs (fun gs k => zj0 (mP p) gs (zcf p) (nth R.2 k) (inp p 1 i k)) R.1 (k + 1) = ((zj0 (mP p) (zbs (fun gs k => zj0 (mP p) gs (zcf p) (nth R.2 k) (inp p 1 i k)) R.1 k).1 (zcf p) (nth R.2 k) (inp p 1 i k)).1, (zbs (fun gs k => zj0 (mP p) gs (zcf p) (nth R.2 k) (inp p 1 i k)) R.1 k).2 ++ [(zj0 (mP p) (zbs (fun gs k => zj0 (mP p) gs (zcf p) (nth R.2 k) (inp p 1 i k)) R.1 k).1 (zcf p) (nth R.2 k) (inp p 1 i k)).2]) := rfl
   generalize zbs (fun gs k => zj0 (mP p) gs (zcf p) (nth R.2 k) (inp p 1 i k)) R.1 k = M at *
   have hMl := hbk.len; have hMw := hbk.wid
   have hwl : (s.out ++ zb2 1 i k).length = s.out.length + k := by rw [List.length_append, zaz]
   have hdl : (s.dr ++ M.2).length = s.dr.length + k := by rw [List.length_append, hMw]
   have hin := zor (in1 hlt hkw) M.1
   have h3 : BOk (eP p mi (s.out ++ zb2 1 i k) (s.dr ++ M.2) (zbd p)) M.1 μ3 := ⟨hn3, hbk.gi, hil, by omega⟩
   have hkey : zsa Try.prog tWm (wV ⟨1, (i : Int), (k : Int)⟩) := zty (a := 1) (b := (i : Int)) (c := (k : Int)) (zpp (by decide) (by decide)) (zpp (by omega) (by omega)) (zpp (by omega) (by omega))
   have hgm := hv.m.gt ⟨1, (i : Int), (k : Int)⟩
   rw [if_pos (in1 hlt hkw)] at hgm
   have hwi : inp p 1 i k = ((2 + zo8 ⟨1, (i : Int), (k : Int)⟩ (zfi p) : Nat) : Int) := rfl
   rw [← hwi] at hgm
   have hcm := jor (eP p mi (s.out ++ zb2 1 i k) (s.dr ++ M.2) (zbd p)) M.1 μ3 (zcf p) (nth R.2 k) (inp p 1 i k) h3 (hs.fire hk0 (hb.pre.trans hbk.pre)) (hb.at hbk.pre (by omega)) hin (by omega)
   generalize inp p 1 i k = W at *
   refine zaj (hK13 _ _ ?_)
   refine zaa fun K14 hK14 => ?_
   refine zaf ?_
   refine szq hp (fun _ hZ => zrt hZ) ?_
   refine za1 hp zak hc rfl fun K16 hK16 => ?_
   refine jrn hgm ?_
   refine zsc (bH (eP p mi (s.out ++ zb2 1 i k) (s.dr ++ M.2) (zbd p)) (M.1) μ3) ([.cells (avs (zar p)), zdv]) (hcm) ?_
   rintro _ _ ⟨μ4, hn4, rfl, rfl⟩
   refine ⟨rfl, ?_⟩
   refine jrn hgm ?_
   refine zsc (bH (eP p mi (s.out ++ zb2 1 i k) (s.dr ++ M.2) (zbd p)) ((zj0 (mP p) M.1 (zcf p) (nth R.2 k) W).1) μ4) ([.cells (avs (zar p)), zdv]) (zhp (eP p mi (s.out ++ zb2 1 i k) (s.dr ++ M.2) (zbd p)) _ μ4 1 i k _ (by show (s.out ++ zb2 1 i k).length ≤ _; omega) (by show (s.dr ++ M.2).length ≤ _; omega)) ?_
   rintro _ _ ⟨_, rfl, rfl⟩
   refine ⟨rfl, ?_⟩
   refine jrn hgm ?_
   refine hK16 _ _ (hK14 _ _ ?_)
   refine za1 hp zak hc rfl fun K17 hK17 => ?_
   refine zcm ?_
   refine hK17 _ _ ⟨_, _, _, ?_, ⟨k + 1, μ4, ⟨by omega, by rw [hsuk]; exact hn4⟩, rfl, rfl, rfl⟩, ?_⟩
   ·first | omega | (simp only [List.length_cons]; omega) | (dsimp only; omega)
   ·refine zrr [0,1,2,3,4,5,6,7,8,9] ?_
    refine zrs ?_
    refine zui ?_; rw [hsuk, zgj]; simp [bH, bO, eP, avs, zar, iD, intsD, zdv, mE2, mP]
  ·have hke : k = R.2.length := by simp at ht; omega
   subst hke
   refine zau (hK9 _ _ ?_)
   refine za1 hp zak hc rfl fun K18 hK18 => ?_
   refine zcm ?_
   refine hK18 _ _ ⟨_, _, _, ?_, ⟨i + 1, μ3, ⟨by omega, by rw [hsu]; exact hn3⟩, rfl, rfl, rfl⟩, ?_⟩
   ·first | omega | (simp only [List.length_cons]; omega) | (dsimp only; omega)
   ·refine zrr [0,1,2,3,4,5,6,7,8,9] ?_
    refine zrs ?_
    refine zui ?_; rw [hsu]
 ·have hie : i = p.regs.length := by simp at ht; omega
  subst hie
  refine zau (hK5 _ _ ?_)
  refine zaa fun K19 hK19 => ?_
  refine szq hp (fun _ hZ => zcm hZ) ?_
  refine zaf ?_
  refine zan hp (fun τ' H' mm => ∃ (i : Nat) (μ1 : Mp), (i ≤ p.takes.length ∧ NdM (mP p) (zc8 p i).gs μ1) ∧ mm = p.takes.length - i ∧ H' = bH (eP p mi ((zc8 p i).out) ((zc8 p i).dr) (zbd p)) ((zc8 p i).gs) μ1 ++ [.cells (avs (zar p)), zdv] ∧ τ' = frL [(1, .op 8 0), (2, .op 9 0), (3, .d (iD 0)), (4, .op 0 0), (5, .d (intsD (zei p))), (6, .d (intsD (zea p))), (7, .d (iD (zcf p))), (74, .d (intsD (zei p))), (75, .d (iD p.takes.length)), (76, .d (iD i))]) (p.takes.length) ?_ ⟨0, μ1, ⟨Nat.zero_le _, hn1⟩, rfl, rfl, rfl⟩ ?_
  ·refine zrr [0,1,2,3,4,5,6,7,8,9] ?_
   refine zrs ?_
   refine zui ?_; simp [bH, bO, eP, avs, zar, iD, intsD, zdv, zc8, zkk hk0]
  rintro τ' H' mm ⟨i, μ1, ⟨hi2, hn5⟩, rfl, rfl, rfl⟩
  refine szq hp (fun _ hZ => zcm hZ) ?_
  refine zaa fun K22 hK22 => ?_
  refine zal rfl (fun ht => ?_) (fun ht => ?_)
  ·have hlt : i < p.takes.length := by simp at ht; omega
   have htk2 := zkk hk0
   have hs := zv2 hk0 i hi2
   have hdn := zwn hk0 i hi2
   have hcr := zz7 (p := p) (Nat.le_refl p.regs.length)
   have hcu := jf9 (p := p) (Nat.zero_le p.puts.length)
   rw [cUP] at hcu
   obtain ⟨s, hse⟩ : ∃ s, s = zc8 p i := ⟨_, rfl⟩
   have hsu : zc8 p (i + 1) = ⟨(zda (mP p) s.gs (zcf p) (nth (zei p) i)).1, s.out ++ [⟨5, i, 0⟩], s.dr ++ [(zda (mP p) s.gs (zcf p) (nth (zei p) i)).2]⟩ := by rw [hse]; rfl
   rw [← hse] at hs hn5 hdn
   rw [← hse]
   have hln := hs.len; have hol := hs.ol
   have h1 : BOk (eP p mi (s.out) (s.dr) (zbd p)) s.gs μ1 := hs.bok hv hn5 (by omega)
   have hcm := ziy (eP p mi (s.out) (s.dr) (zbd p)) s.gs μ1 (zcf p) (nth (zei p) i) h1 (hs.fire hk0 (List.prefix_refl _)) (hs.dueT hk0 (List.prefix_refl _) hlt)
   refine zaj (hK22 _ _ ?_)
   refine zaa fun K23 hK23 => ?_
   refine zaf ?_
   refine szq hp (fun _ hZ => zrt hZ) ?_
   refine za1 hp zak hc rfl fun K25 hK25 => ?_
   refine zcm ?_
   refine zsc (bH (eP p mi (s.out) (s.dr) (zbd p)) (s.gs) μ1) ([.cells (avs (zar p)), zdv]) (hcm) ?_
   rintro _ _ ⟨μ4, hn4, rfl, rfl⟩
   refine ⟨rfl, ?_⟩
   refine zcm ?_
   refine zsc (bH (eP p mi (s.out) (s.dr) (zbd p)) ((zda (mP p) s.gs (zcf p) (nth (zei p) i)).1) μ4) ([.cells (avs (zar p)), zdv]) (zhp (eP p mi (s.out) (s.dr) (zbd p)) _ μ4 5 i 0 _ (by show s.out.length ≤ _; omega) (by show s.dr.length ≤ _; omega)) ?_
   rintro _ _ ⟨_, rfl, rfl⟩
   refine ⟨rfl, ?_⟩
   refine zcm ?_
   refine hK25 _ _ (hK23 _ _ ?_)
   refine za1 hp zak hc rfl fun K26 hK26 => ?_
   refine zcm ?_
   refine hK26 _ _ ⟨_, _, _, ?_, ⟨i + 1, μ4, ⟨by omega, by rw [hsu]; exact hn4⟩, rfl, rfl, rfl⟩, ?_⟩
   ·first | omega | (simp only [List.length_cons]; omega) | (dsimp only; omega)
   ·refine zrr [0,1,2,3,4,5,6,7,8,9] ?_
    refine zrs ?_
    refine zui ?_; rw [hsu]; rfl
  ·have hie : i = p.takes.length := by simp at ht; omega
   subst hie
   refine zau (hK19 _ _ ?_)
   refine zaa fun K27 hK27 => ?_
   refine szq hp (fun _ hZ => zcm hZ) ?_
   refine zaf ?_
   refine zan hp (fun τ' H' mm => ∃ (i : Nat) (μ1 : Mp), (i ≤ p.puts.length ∧ NdM (mP p) (zc3 p i).gs μ1) ∧ mm = p.puts.length - i ∧ H' = bH (eP p mi ((zc3 p i).out) ((zc3 p i).dr) (zbd p)) ((zc3 p i).gs) μ1 ++ [.cells (avs (zar p)), zdv] ∧ τ' = frL [(1, .op 8 0), (2, .op 9 0), (3, .d (iD 0)), (4, .op 0 0), (7, .d (iD (zcf p))), (89, .d (intsD (zea p))), (90, .d (iD p.puts.length)), (91, .d (iD i))]) (p.puts.length) ?_ ⟨0, μ1, ⟨Nat.zero_le _, hn5⟩, rfl, rfl, rfl⟩ ?_
   ·refine zrr [0,1,2,3,4,5,6,7,8,9] ?_
    refine zrs ?_
    refine zui ?_; simp [bH, bO, eP, avs, zar, iD, intsD, zdv, zc3, zox hk0]
   rintro τ' H' mm ⟨i, μ1, ⟨hi3, hn6⟩, rfl, rfl, rfl⟩
   refine szq hp (fun _ hZ => zcm hZ) ?_
   refine zaa fun K30 hK30 => ?_
   refine zal rfl (fun ht => ?_) (fun ht => ?_)
   ·have hlt : i < p.puts.length := by simp at ht; omega
    have hpk2 := zox hk0
    have hs := zhk hk0 i hi3
    have hps := zmg hk0 hlt hs
    have hdn := zwo hk0 i hi3
    have hcu := jf9 (p := p) (show i + 1 ≤ p.puts.length by omega)
    rw [cUP] at hcu
    obtain ⟨s, hse⟩ : ∃ s, s = zc3 p i := ⟨_, rfl⟩
    rw [← hse] at hs hps hn6 hdn
    rw [← hse]
    obtain ⟨A, hA⟩ : ∃ A, A = zda (mP p) s.gs (zcf p) (nth (zea p) i) := ⟨_, rfl⟩
    obtain ⟨R, hR⟩ : ∃ R, R = zcp p (zbd p) A.1 (nth p.puts i).da := ⟨_, rfl⟩
    have hsu : zc3 p (i + 1) = ⟨(zbs (fun gs k => zda (mP p) gs A.2 (nth R.2 k)) R.1 R.2.length).1, s.out ++ [⟨6, i, 0⟩] ++ zb2 7 i R.2.length, s.dr ++ [A.2] ++ (zbs (fun gs k => zda (mP p) gs A.2 (nth R.2 k)) R.1 R.2.length).2⟩ := by rw [hR, hA, hse]; rfl
    rw [← hA, ← hR] at hps
    have ha := hps.ha; have hb := hps.hb
    have hln := hs.len; have hol := hs.ol; have hal := ha.len
    have hRl := hb.len; have hRw := hb.wid
    have hqb := hk0.qb i hlt
    have h1 : BOk (eP p mi (s.out) (s.dr) (zbd p)) s.gs μ1 := hs.bok hv hn6 (by omega)
    have hcm := ziy (eP p mi (s.out) (s.dr) (zbd p)) s.gs μ1 (zcf p) (nth (zea p) i) h1 (hs.fire hk0 (List.prefix_refl _)) (hs.dueQ hk0 (List.prefix_refl _) hlt)
    have hm9 : mE2 (eP p mi (s.out) (s.dr) (zbd p)) = mP p := rfl
    rw [hm9, ← hA] at hcm
    refine zaj (hK30 _ _ ?_)
    refine zaa fun K31 hK31 => ?_
    refine zaf ?_
    refine szq hp (fun _ hZ => zrt hZ) ?_
    refine zag hp zak hc rfl fun K33 hK33 => ?_
    refine zcm ?_
    refine zsc (bH (eP p mi (s.out) (s.dr) (zbd p)) (s.gs) μ1) ([.cells (avs (zar p)), zdv]) (hcm) ?_
    rintro _ _ ⟨μ2, hn2, rfl, rfl⟩
    refine ⟨rfl, ?_⟩
    refine zcm ?_
    refine hK33 _ _ ?_
    refine zag hp zak hc rfl fun K34 hK34 => ?_
    refine zcm ?_
    refine zsc (bH (eP p mi (s.out) (s.dr) (zbd p)) (A.1) μ2) ([.cells (avs (zar p)), zdv]) (zhp (eP p mi (s.out) (s.dr) (zbd p)) A.1 μ2 6 i 0 A.2 (by show s.out.length ≤ _; omega) (by show s.dr.length ≤ _; omega)) ?_
    rintro _ _ ⟨_, rfl, rfl⟩
    refine ⟨rfl, ?_⟩
    refine zcm ?_
    refine hK34 _ _ ?_
    refine zat hp (τ' := frL [(1, .op 8 0), (2, .op 9 0), (3, .d (iD 0)), (4, .op 0 0), (7, .d (iD (zcf p))), (14, .d (iD i)), (16, .d (iD A.2)), (89, .d (intsD (zea p))), (90, .d (iD p.puts.length)), (91, .d (iD i))]) (H' := bH (eP p mi (s.out ++ [⟨6, i, 0⟩]) (s.dr ++ [A.2]) (zbd p)) (A.1) μ2 ++ [.cells (avs (zar p)), zdv]) ?_ ?_
    ·refine zrr [0,1,2,3,4,5,6,7,8,9] ?_
     refine zrs ?_
     exact yf8
    have h2 : BOk (eP p mi (s.out ++ [⟨6, i, 0⟩]) (s.dr ++ [A.2]) (zbd p)) A.1 μ2 := ⟨hn2, ha.gi, hil, by omega⟩
    have hcb := hs.bitsS (o := s.out ++ [⟨6, i, 0⟩]) (d := s.dr ++ [A.2]) hv ha.pre h2 (hk0.qd i hlt).1 (by omega)
    rw [← hR] at hcb
    refine zag hp zak hc rfl fun K35 hK35 => ?_
    refine jyu ?_
    refine zsc (bH (eP p mi (s.out ++ [⟨6, i, 0⟩]) (s.dr ++ [A.2]) (zbd p)) (A.1) μ2) ([.cells (avs (zar p)), zdv]) (hcb.arg1 (Imp.agg _)) ?_
    rintro _ _ ⟨μ3, hn3, rfl, rfl⟩
    refine ⟨rfl, ?_⟩
    refine jyu ?_
    refine hK35 _ _ ?_
    refine zaf ?_
    refine zan hp (fun τ' H' mm => ∃ (k : Nat) (μ3 : Mp), (k ≤ R.2.length ∧ NdM (mP p) (zbs (fun gs k => zda (mP p) gs A.2 (nth R.2 k)) R.1 k).1 μ3) ∧ mm = R.2.length - k ∧ H' = bH (eP p mi (s.out ++ [⟨6, i, 0⟩] ++ zb2 7 i k) (s.dr ++ [A.2] ++ (zbs (fun gs k => zda (mP p) gs A.2 (nth R.2 k)) R.1 k).2) (zbd p)) ((zbs (fun gs k => zda (mP p) gs A.2 (nth R.2 k)) R.1 k).1) μ3 ++ [.cells (avs (zar p)), zdv] ∧ τ' = frL [(1, .op 8 0), (2, .op 9 0), (3, .d (iD 0)), (4, .op 0 0), (7, .d (iD (zcf p))), (14, .d (iD i)), (16, .d (iD A.2)), (89, .d (intsD (zea p))), (90, .d (iD p.puts.length)), (91, .d (iD i)), (111, .d (intsD R.2)), (112, .d (iD R.2.length)), (113, .d (iD k))]) (R.2.length) ?_ ⟨0, μ3, ⟨Nat.zero_le _, hn3⟩, rfl, rfl, rfl⟩ ?_
    ·refine zrr [0,1,2,3,4,5,6,7,8,9] ?_
     refine zrs ?_
     refine zui ?_; simp [bH, bO, eP, avs, zar, iD, intsD, zdv, zbs, zb2]
    rintro τ' H' mm ⟨k, μ3, ⟨hkk, hn7⟩, rfl, rfl, rfl⟩
    refine szq hp (fun _ hZ => zcm hZ) ?_
    refine zaa fun K37 hK37 => ?_
    refine zal rfl (fun ht => ?_) (fun ht => ?_)
    ·have hlt2 : k < R.2.length := by simp at ht; omega
     have hbk : Bs (mP p) (1 * k) k R.1 (zbs (fun gs k => zda (mP p) gs A.2 (nth R.2 k)) R.1 k) := zcv hb.gi fun j hj gs' hp hg => zgi mP2 hg (ha.nd.pre (hb.pre.trans hp)) (hb.at hp (by omega))
     have hsuk : zbs (fun gs k => zda (mP p) gs A.2 (nth R.2 k)) R.1 (k + 1) = ((zda (mP p) (zbs (fun gs k => zda (mP p) gs A.2 (nth R.2 k)) R.1 k).1 A.2 (nth R.2 k)).1, (zbs (fun gs k => zda (mP p) gs A.2 (nth R.2 k)) R.1 k).2 ++ [(zda (mP p) (zbs (fun gs k => zda (mP p) gs A.2 (nth R.2 k)) R.1 k).1 A.2 (nth R.2 k)).2]) := rfl
     generalize zbs (fun gs k => zda (mP p) gs A.2 (nth R.2 k)) R.1 k = M at *
     have hMl := hbk.len; have hMw := hbk.wid
     have hwl : (s.out ++ [(⟨6, i, 0⟩ : Wire)] ++ zb2 7 i k).length = s.out.length + 1 + k := by rw [List.length_append, List.length_append, zaz]; rfl
     have hdl : (s.dr ++ [A.2] ++ M.2).length = s.dr.length + 1 + k := by rw [List.length_append, List.length_append, hMw]; rfl
     have h3 : BOk (eP p mi (s.out ++ [⟨6, i, 0⟩] ++ zb2 7 i k) (s.dr ++ [A.2] ++ M.2) (zbd p)) M.1 μ3 := ⟨hn7, hbk.gi, hil, by omega⟩
     refine zaj (hK37 _ _ ?_)
     refine zaa fun K38 hK38 => ?_
     refine zaf ?_
     refine szq hp (fun _ hZ => zrt hZ) ?_
     refine za1 hp zak hc rfl fun K40 hK40 => ?_
     refine zcm ?_
     refine zsc (bH (eP p mi (s.out ++ [⟨6, i, 0⟩] ++ zb2 7 i k) (s.dr ++ [A.2] ++ M.2) (zbd p)) (M.1) μ3) ([.cells (avs (zar p)), zdv]) (ziy (eP p mi (s.out ++ [⟨6, i, 0⟩] ++ zb2 7 i k) (s.dr ++ [A.2] ++ M.2) (zbd p)) M.1 μ3 A.2 (nth R.2 k) h3 (ha.nd.pre (hb.pre.trans hbk.pre)) (hb.at hbk.pre (by omega))) ?_
     rintro _ _ ⟨μ4, hn4, rfl, rfl⟩
     refine ⟨rfl, ?_⟩
     refine zcm ?_
     refine zsc (bH (eP p mi (s.out ++ [⟨6, i, 0⟩] ++ zb2 7 i k) (s.dr ++ [A.2] ++ M.2) (zbd p)) ((zda (mP p) M.1 A.2 (nth R.2 k)).1) μ4) ([.cells (avs (zar p)), zdv]) (zhp (eP p mi (s.out ++ [⟨6, i, 0⟩] ++ zb2 7 i k) (s.dr ++ [A.2] ++ M.2) (zbd p)) _ μ4 7 i k _ (by show (s.out ++ [(⟨6, i, 0⟩ : Wire)] ++ zb2 7 i k).length ≤ _; omega) (by show (s.dr ++ [A.2] ++ M.2).length ≤ _; omega)) ?_
     rintro _ _ ⟨_, rfl, rfl⟩
     refine ⟨rfl, ?_⟩
     refine zcm ?_
     refine hK40 _ _ (hK38 _ _ ?_)
     refine za1 hp zak hc rfl fun K41 hK41 => ?_
     refine zcm ?_
     refine hK41 _ _ ⟨_, _, _, ?_, ⟨k + 1, μ4, ⟨by omega, by rw [hsuk]; exact hn4⟩, rfl, rfl, rfl⟩, ?_⟩
     ·first | omega | (simp only [List.length_cons]; omega) | (dsimp only; omega)
     ·refine zrr [0,1,2,3,4,5,6,7,8,9] ?_
      refine zrs ?_
      refine zui ?_; rw [hsuk, zgj]; simp [bH, bO, eP, avs, zar, iD, intsD, zdv, mE2, mP]
    ·have hke : k = R.2.length := by simp at ht; omega
     subst hke
     refine zau (hK31 _ _ ?_)
     refine za1 hp zak hc rfl fun K42 hK42 => ?_
     refine zcm ?_
     refine hK42 _ _ ⟨_, _, _, ?_, ⟨i + 1, μ3, ⟨by omega, by rw [hsu]; exact hn7⟩, rfl, rfl, rfl⟩, ?_⟩
     ·first | omega | (simp only [List.length_cons]; omega) | (dsimp only; omega)
     ·refine zrr [0,1,2,3,4,5,6,7,8,9] ?_
      refine zrs ?_
      refine zui ?_; rw [hsu]
   ·have hie : i = p.puts.length := by simp at ht; omega
    subst hie
    refine zau (hK27 _ _ ?_)
    refine zaa fun K43 hK43 => ?_
    refine szq hp (fun _ hZ => zcm hZ) ?_
    refine zaf ?_
    refine zan hp (fun τ' H' mm => ∃ (i : Nat) (μ1 : Mp), (i ≤ p.mems.length ∧ NdM (mP p) (zcg p i).gs μ1) ∧ mm = p.mems.length - i ∧ H' = bH (eP p mi ((zcg p i).out) ((zcg p i).dr) (zbd p)) ((zcg p i).gs) μ1 ++ [.cells (avs (zar p)), zdv] ∧ τ' = frL [(1, .op 8 0), (2, .op 9 0), (3, .d (iD 0)), (4, .op 0 0), (7, .d (iD (zcf p))), (129, .d (.fs (p.mems.flatMap pmC) p.mems.length)), (130, .d (iD p.mems.length)), (131, .d (iD i))]) (p.mems.length) ?_ ⟨0, μ1, ⟨Nat.zero_le _, hn6⟩, rfl, rfl, rfl⟩ ?_
    ·refine zrr [0,1,2,3,4,5,6,7,8,9] ?_
     refine zrs ?_
     refine zui ?_; simp [bH, bO, eP, avs, zar, iD, intsD, zdv, zcg]
    rintro τ' H' mm ⟨i, μ1, ⟨hi4, hn8⟩, rfl, rfl, rfl⟩
    refine szq hp (fun _ hZ => zcm hZ) ?_
    refine zaa fun K46 hK46 => ?_
    refine zal rfl (fun ht => ?_) (fun ht => ?_)
    ·have hlt : i < p.mems.length := by simp at ht; omega
     have hs := zdy hk0 i hi4
     have hdn := jhj hk0 i hi4
     have hcm := jf8 (p := p) (show i + 1 ≤ p.mems.length by omega)
     rw [cMP] at hcm
     have hw8 := hk0.ct.m i (by simpa [ctP] using hlt)
     rw [show nth (ctP p).mems i = ((nth p.mems i).words, (nth p.mems i).w) from jbx hlt] at hw8
     simp only at hw8
     obtain ⟨s, hse⟩ : ∃ s, s = zcg p i := ⟨_, rfl⟩
     rw [← hse] at hs hn8 hdn
     rw [← hse]
     obtain ⟨N, hN⟩ : ∃ N, N = zcp p (zbd p) s.gs (nth p.mems i).en := ⟨_, rfl⟩
     obtain ⟨A, hA⟩ : ∃ A, A = zda (mP p) N.1 (zcf p) (nth N.2 0) := ⟨_, rfl⟩
     obtain ⟨J, hJ⟩ : ∃ J, J = zcp p (zbd p) A.1 (nth p.mems i).ad := ⟨_, rfl⟩
     obtain ⟨V, hV⟩ : ∃ V, V = zcp p (zbd p) J.1 (nth p.mems i).da := ⟨_, rfl⟩
     have hsu : zcg p (i + 1) = ⟨V.1, s.out ++ [⟨8, i, 0⟩] ++ zb2 9 i 3 ++ zb2 10 i V.2.length, s.dr ++ [A.2] ++ zjk J.2 (nth p.mems i).words ++ V.2⟩ := by rw [hV, hJ, hA, hN, hse]; rfl
     obtain ⟨he, ha, hd, hw⟩ := zmh hk0 hlt hs hN hA hJ hV
     have hln := hs.len; have hol := hs.ol
     have hel := he.len; have hal := ha.len; have hdl := hd.len; have hwl := hw.len
     have hew := he.wid; have hdw := hd.wid; have hww := hw.wid
     have hJw := zcn hk0.ct (hk0.ma i hlt)
     have h1 : BOk (eP p mi (s.out) (s.dr) (zbd p)) s.gs μ1 := hs.bok hv hn8 (by omega)
     have c1 := hs.bitsS (o := s.out) (d := s.dr) hv (List.prefix_refl _) h1 (hk0.me i hlt).1 (by omega)
     rw [← hN] at c1
     have c2 := fun μ (h2 : BOk (eP p mi (s.out) (s.dr) (zbd p)) N.1 μ) => ziy (eP p mi (s.out) (s.dr) (zbd p)) N.1 μ (zcf p) (nth N.2 0) h2 (hs.fire hk0 he.pre) (he.nd 0 (by decide))
     have hm9 : mE2 (eP p mi (s.out) (s.dr) (zbd p)) = mP p := rfl
     rw [hm9, ← hA] at c2
     refine zaj (hK46 _ _ ?_)
     refine zaa fun K47 hK47 => ?_
     refine zaf ?_
     refine szq hp (fun _ hZ => zcm hZ) ?_
     refine zag hp zak hc rfl fun K49 hK49 => ?_
     refine zrt ?_
     refine zsc (bH (eP p mi (s.out) (s.dr) (zbd p)) (s.gs) μ1) ([.cells (avs (zar p)), zdv, .cells (avs (pmS (nth p.mems i)))]) (c1) ?_
     rintro _ _ ⟨μ2, hn2, rfl, rfl⟩
     refine ⟨rfl, ?_⟩
     have h2 : BOk (eP p mi (s.out) (s.dr) (zbd p)) N.1 μ2 := ⟨hn2, he.gi, hil, by omega⟩
     refine zrt ?_
     refine zsc (bH (eP p mi (s.out) (s.dr) (zbd p)) (N.1) μ2) ([.cells (avs (zar p)), zdv, .cells (avs (pmS (nth p.mems i)))]) (c2 μ2 h2) ?_
     rintro _ _ ⟨μ3, hn3, rfl, rfl⟩
     refine ⟨rfl, ?_⟩
     refine zrt ?_
     refine zsc (bH (eP p mi (s.out) (s.dr) (zbd p)) (A.1) μ3) ([.cells (avs (zar p)), zdv, .cells (avs (pmS (nth p.mems i)))]) (zhp (eP p mi (s.out) (s.dr) (zbd p)) A.1 μ3 8 i 0 A.2 (by show s.out.length ≤ _; omega) (by show s.dr.length ≤ _; omega)) ?_
     rintro _ _ ⟨_, rfl, rfl⟩
     refine ⟨rfl, ?_⟩
     refine zrt ?_
     refine hK49 _ _ ?_
     refine zaa fun K50 hK50 => ?_
     have h3 : BOk (eP p mi (s.out ++ [⟨8, i, 0⟩]) (s.dr ++ [A.2]) (zbd p)) A.1 μ3 := ⟨hn3, ha.gi, hil, by omega⟩
     have c3 := hs.bitsS (o := s.out ++ [⟨8, i, 0⟩]) (d := s.dr ++ [A.2]) hv (he.pre.trans ha.pre) h3 (hk0.ma i hlt) (by omega)
     rw [← hJ] at c3
     have c4 := jg4 J.2 (nth p.mems i).words (by omega) (by omega)
     refine za6 zak hp hc mixed rfl [(0, []), (1, []), (2, []), (4, []), (5, []), (7, []), (3, [5]), (6, [])] [[], [], [1], [0, 1, 2], [], [4], [0, 1, 2, 3, 4, 5], []] 0 (by kernel_rfl) fun K51 hK51 => ?_
     refine jro ?_
     refine zlu (S := bH (eP p mi (s.out ++ [⟨8, i, 0⟩]) (s.dr ++ [A.2]) (zbd p)) (A.1) μ3) (T := [.cells (avs (zar p)), zdv, .cells (avs (pmS (nth p.mems i)))]) (c3) rfl (Nat.le_of_ble_eq_true rfl) (by first | rfl | (simp [AV.allIs, AV.allI, zaq, zah, zai, okI, ltI, zad, zax, bH, bO, eP, zdv, zby, prS, pqS, pmS]; done) | (intro o ho; simp at ho; done)) (fun t => zbi (by first | rfl | (simp [AV.allIs, AV.allI, zaq, zah, zai, okI, ltI, zad, zax, bH, bO, eP, zdv, zby, prS, pqS, pmS]; done) | (intro o ho; simp at ho; done)) t) (fun t => zbi (by first | rfl | (simp [AV.allIs, AV.allI, zaq, zah, zai, okI, ltI, zad, zax, bH, bO, eP, zdv, zby, prS, pqS, pmS]; done) | (intro o ho; simp at ho; done)) t) (by first | rfl | (simp [AV.allIs, AV.allI, zaq, zah, zai, okI, ltI, zad, zax, bH, bO, eP, zdv, zby, prS, pqS, pmS]; done) | (intro o ho; simp at ho; done)) (by first | rfl | (simp [AV.allIs, AV.allI, zaq, zah, zai, okI, ltI, zad, zax, bH, bO, eP, zdv, zby, prS, pqS, pmS]; done) | (intro o ho; simp at ho; done)) (by first | rfl | (simp [AV.allIs, AV.allI, zaq, zah, zai, okI, ltI, zad, zax, bH, bO, eP, zdv, zby, prS, pqS, pmS]; done) | (intro o ho; simp at ho; done)) ?_
     rintro _ _ ⟨μ4, hn4, rfl, rfl⟩
     refine ⟨rfl, ?_⟩
     refine jro ?_
     refine zkg (c4) rfl ?_
     refine jro ?_
     refine hK51 _ _ ?_
     refine zaf ?_
     refine zan hp (fun τ' H' mm => ∃ (k : Nat), (k ≤ 3) ∧ mm = 3 - k ∧ H' = bH (eP p mi (s.out ++ [⟨8, i, 0⟩] ++ zb2 9 i k) (s.dr ++ [A.2] ++ (zjk J.2 (nth p.mems i).words).take k) (zbd p)) (J.1) μ4 ++ [.cells (avs (zar p)), zdv, .cells (avs (pmS (nth p.mems i)))] ∧ τ' = frL [(1, .op 8 0), (2, .op 9 0), (3, .d (iD 0)), (4, .op 0 0), (7, .d (iD (zcf p))), (129, .d (.fs (p.mems.flatMap pmC) p.mems.length)), (130, .d (iD p.mems.length)), (131, .d (iD i)), (19, .d (iD i)), (20, .op 10 0), (154, .d (.agg ((zjk J.2 (nth p.mems i).words).map iD))), (155, .d (iD k))]) (3) ?_ ⟨0, by omega, rfl, rfl, rfl⟩ ?_
     ·refine zrr [0,1,2,3,4,5,6,7,8,9,10] ?_
      refine zrs ?_
      refine zui ?_; simp [bH, bO, eP, avs, zar, iD, intsD, zdv, zb2, pmS]
     rintro τ' H' mm ⟨k, hk6, rfl, rfl, rfl⟩
     refine szq hp (fun _ hZ => zcm hZ) ?_
     refine zaa fun K53 hK53 => ?_
     refine zal rfl (fun ht => ?_) (fun ht => ?_)
     ·have hk3 : k < 3 := by simp at ht; omega
      have hal3 := zg0 J.2 (nth p.mems i).words
      have hwl6 : (s.out ++ [(⟨8, i, 0⟩ : Wire)] ++ zb2 9 i k).length = s.out.length + 1 + k := by rw [List.length_append, List.length_append, zaz]; rfl
      have hdl6 : (s.dr ++ [A.2] ++ (zjk J.2 (nth p.mems i).words).take k).length = s.dr.length + 1 + k := by simp [hal3]; omega
      have hgk : ((zjk J.2 (nth p.mems i).words).map iD)[k]? = some (iD (nth (zjk J.2 (nth p.mems i).words) k)) := zbj (by omega)
      refine zaj (hK53 _ _ ?_)
      refine zaa fun K54 hK54 => ?_
      refine zaf ?_
      refine zag hp zak hc rfl fun K55 hK55 => ?_
      simp -dsimp -implicitDefEqProofs (disch := first | assumption | omega | (simp only [r_z, zab, zac, za7, zbr, zbb, zbc] <;> omega) | decide) only [r_r, ↓reduceIte, Nat.reduceEqDiff, Nat.reduceAdd, D.fix, Int.reduceToNat, Nat.reduceMul, Nat.reduceBNe, Nat.reduceBEq, r_m, bH, bO, zar, zav, List.cons_append, List.nil_append, zbq, zdv, eP, zby, zej, zrl, prS, zc9, zot, pqS, zg3, zt7, pmS, nS, sD, hgk, Option.map_some, jch]
      refine hK55 _ _ ?_
      refine za1 hp zak hc rfl fun K56 hK56 => ?_
      refine zcm ?_
      refine zsc (bH (eP p mi (s.out ++ [⟨8, i, 0⟩] ++ zb2 9 i k) (s.dr ++ [A.2] ++ (zjk J.2 (nth p.mems i).words).take k) (zbd p)) (J.1) μ4) ([.cells (avs (zar p)), zdv, .cells (avs (pmS (nth p.mems i)))]) (zhp (eP p mi (s.out ++ [⟨8, i, 0⟩] ++ zb2 9 i k) (s.dr ++ [A.2] ++ (zjk J.2 (nth p.mems i).words).take k) (zbd p)) J.1 μ4 9 i k (nth (zjk J.2 (nth p.mems i).words) k) (by show (s.out ++ [(⟨8, i, 0⟩ : Wire)] ++ zb2 9 i k).length ≤ _; omega) (by show (s.dr ++ [A.2] ++ (zjk J.2 (nth p.mems i).words).take k).length ≤ _; omega)) ?_
      rintro _ _ ⟨_, rfl, rfl⟩
      refine ⟨rfl, ?_⟩
      refine zcm ?_
      refine hK56 _ _ (hK54 _ _ ?_)
      refine za1 hp zak hc rfl fun K57 hK57 => ?_
      refine zcm ?_
      refine hK57 _ _ ⟨_, _, _, ?_, ⟨k + 1, by omega, rfl, rfl, rfl⟩, ?_⟩
      ·first | omega | (simp only [List.length_cons]; omega) | (dsimp only; omega)
      ·refine zrr [0,1,2,3,4,5,6,7,8,9,10] ?_
       refine zrs ?_
       refine zui ?_; rw [zem (show k < (zjk J.2 (nth p.mems i).words).length by omega), zgj]; simp [bH, bO, eP, avs, zar, iD, intsD, zdv, pmS]
     ·have hke : k = 3 := by simp at ht; omega
      subst hke
      have hta : (zjk J.2 (nth p.mems i).words).take 3 = zjk J.2 (nth p.mems i).words := List.take_of_length_le (by rw [zg0]; exact Nat.le_refl _)
      rw [hta]
      have h5 : BOk (eP p mi (s.out ++ [⟨8, i, 0⟩] ++ zb2 9 i 3) (s.dr ++ [A.2] ++ zjk J.2 (nth p.mems i).words) (zbd p)) J.1 μ4 := ⟨hn4, hd.gi, hil, by omega⟩
      have c5 := hs.bitsS (o := s.out ++ [⟨8, i, 0⟩] ++ zb2 9 i 3) (d := s.dr ++ [A.2] ++ zjk J.2 (nth p.mems i).words) hv (he.pre.trans (ha.pre.trans hd.pre)) h5 (hk0.md i hlt).1 (by omega)
      rw [← hV] at c5
      refine zau (hK50 _ _ ?_)
      refine zag hp zak hc rfl fun K58 hK58 => ?_
      refine zcm ?_
      refine zsc (bH (eP p mi (s.out ++ [⟨8, i, 0⟩] ++ zb2 9 i 3) (s.dr ++ [A.2] ++ zjk J.2 (nth p.mems i).words) (zbd p)) (J.1) μ4) ([.cells (avs (zar p)), zdv, .cells (avs (pmS (nth p.mems i)))]) (c5) ?_
      rintro _ _ ⟨μ5, hn5', rfl, rfl⟩
      refine ⟨rfl, ?_⟩
      refine zcm ?_
      refine hK58 _ _ ?_
      refine zaf ?_
      refine zan hp (fun τ' H' mm => ∃ (k : Nat), (k ≤ V.2.length) ∧ mm = V.2.length - k ∧ H' = bH (eP p mi (s.out ++ [⟨8, i, 0⟩] ++ zb2 9 i 3 ++ zb2 10 i k) (s.dr ++ [A.2] ++ zjk J.2 (nth p.mems i).words ++ V.2.take k) (zbd p)) (V.1) μ5 ++ [.cells (avs (zar p)), zdv] ∧ τ' = frL [(1, .op 8 0), (2, .op 9 0), (3, .d (iD 0)), (4, .op 0 0), (7, .d (iD (zcf p))), (129, .d (.fs (p.mems.flatMap pmC) p.mems.length)), (130, .d (iD p.mems.length)), (131, .d (iD i)), (19, .d (iD i)), (168, .d (intsD V.2)), (169, .d (iD V.2.length)), (170, .d (iD k))]) (V.2.length) ?_ ⟨0, Nat.zero_le _, rfl, rfl, rfl⟩ ?_
      ·refine zrr [0,1,2,3,4,5,6,7,8,9] ?_
       refine zrs ?_
       refine zui ?_; simp [bH, bO, eP, avs, zar, iD, intsD, zdv, zb2]
      rintro τ' H' mm ⟨k, hk7, rfl, rfl, rfl⟩
      refine szq hp (fun _ hZ => zcm hZ) ?_
      refine zaa fun K60 hK60 => ?_
      refine zal rfl (fun ht => ?_) (fun ht => ?_)
      ·have hlt2 : k < V.2.length := by simp at ht; omega
       have hal3 := zg0 J.2 (nth p.mems i).words
       have hwl7 : (s.out ++ [(⟨8, i, 0⟩ : Wire)] ++ zb2 9 i 3 ++ zb2 10 i k).length = s.out.length + 4 + k := by rw [List.length_append, List.length_append, List.length_append, zaz, zaz]; rfl
       have hdl7 : (s.dr ++ [A.2] ++ zjk J.2 (nth p.mems i).words ++ V.2.take k).length = s.dr.length + 4 + k := by simp [hal3]; omega
       refine zaj (hK60 _ _ ?_)
       refine zaa fun K61 hK61 => ?_
       refine zaf ?_
       refine szq hp (fun _ hZ => zrt hZ) ?_
       refine za1 hp zak hc rfl fun K63 hK63 => ?_
       refine zcm ?_
       refine zsc (bH (eP p mi (s.out ++ [⟨8, i, 0⟩] ++ zb2 9 i 3 ++ zb2 10 i k) (s.dr ++ [A.2] ++ zjk J.2 (nth p.mems i).words ++ V.2.take k) (zbd p)) (V.1) μ5) ([.cells (avs (zar p)), zdv]) (zhp (eP p mi (s.out ++ [⟨8, i, 0⟩] ++ zb2 9 i 3 ++ zb2 10 i k) (s.dr ++ [A.2] ++ zjk J.2 (nth p.mems i).words ++ V.2.take k) (zbd p)) V.1 μ5 10 i k (nth V.2 k) (by show (s.out ++ [(⟨8, i, 0⟩ : Wire)] ++ zb2 9 i 3 ++ zb2 10 i k).length ≤ _; omega) (by show (s.dr ++ [A.2] ++ zjk J.2 (nth p.mems i).words ++ V.2.take k).length ≤ _; omega)) ?_
       rintro _ _ ⟨_, rfl, rfl⟩
       refine ⟨rfl, ?_⟩
       refine zcm ?_
       refine hK63 _ _ (hK61 _ _ ?_)
       refine za1 hp zak hc rfl fun K64 hK64 => ?_
       refine zcm ?_
       refine hK64 _ _ ⟨_, _, _, ?_, ⟨k + 1, by omega, rfl, rfl, rfl⟩, ?_⟩
       ·first | omega | (simp only [List.length_cons]; omega) | (dsimp only; omega)
       ·refine zrr [0,1,2,3,4,5,6,7,8,9] ?_
        refine zrs ?_
        refine zui ?_; rw [zem hlt2, zgj 10 (i : Int) k]; simp [bH, bO, eP, avs, zar, iD, intsD, zdv]
      ·have hke : k = V.2.length := by simp at ht; omega
       subst hke
       refine zau (hK47 _ _ ?_)
       refine za1 hp zak hc rfl fun K65 hK65 => ?_
       refine zcm ?_
       refine hK65 _ _ ⟨_, _, _, ?_, ⟨i + 1, μ5, ⟨by omega, by rw [hsu]; exact hn5'⟩, rfl, rfl, rfl⟩, ?_⟩
       ·first | omega | (simp only [List.length_cons]; omega) | (dsimp only; omega)
       ·refine zrr [0,1,2,3,4,5,6,7,8,9] ?_
        refine zrs ?_
        refine zui ?_; rw [hsu, List.take_length]
    ·have hie : i = p.mems.length := by simp at ht; omega
     subst hie
     have hm := zdy hk0 _ (Nat.le_refl p.mems.length)
     have hml2 := hm.len
     have hcM := jf8 (p := p) (Nat.le_refl p.mems.length)
     refine zau (hK43 _ _ ?_)
     refine zaa fun K66 hK66 => ?_
     refine za5 zak hc mixed rfl (q := 0) (by kernel_rfl) (by kernel_rfl) fun K67 hK67 => ?_
     refine zcm ?_
     refine hK67 _ _ ?_
     refine zal rfl (fun ht => ?_) (fun ht => ?_)
     ·have hbig : 600 < 2 + (zfi p).length + (zcg p p.mems.length).gs.length := by simp at ht; omega
      refine szq hp (fun _ hZ => zcm hZ) ?_
      refine zam ?_
      try dsimp only [zco, za8]
      refine zoo rfl ?_
      refine jyv ?_
      show closeA _ _ = _
      refine yf9 ?_
      unfold zuh; rw [if_pos (show 600 < 2 + (zfi p).length + (ze4 p).gates.length from hbig)]; rfl
     ·have hbig : ¬ 600 < 2 + (zfi p).length + (zcg p p.mems.length).gs.length := by simp at ht; omega
      refine zaj (hK66 _ _ ?_)
      refine szq hp (fun _ hZ => zcm hZ) ?_
      refine zam ?_
      try dsimp only [zco, za8]
      refine zoo rfl ?_
      refine jyv ?_
      show closeA _ _ = _
      refine yf9 ?_
      unfold zuh; rw [if_neg (show ¬ 600 < 2 + (zfi p).length + (ze4 p).gates.length from hbig)]; simp only [zny, zz2]; rfl
end Go.Proofs.Ytapjobndmmkanaa
