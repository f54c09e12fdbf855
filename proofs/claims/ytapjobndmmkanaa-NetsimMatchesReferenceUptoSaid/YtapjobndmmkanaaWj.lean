/- The reference's builder: the due bits. -/
import Derived.Test.YtapjobndmmkanaaQr
import Derived.Test.YtapjobndmmkanaaWh
set_option linter.unusedVariables false
set_option linter.unusedSimpArgs false
set_option maxRecDepth 100000
set_option maxHeartbeats 4000000
namespace Go.Proofs.Ytapjobndmmkanaa
open Go Go.RowKit
theorem jqm : ((((((type_of% @zpz) ∧ ((type_of% @zp0) ∧ (type_of% @zuu))) ∧ (((type_of% @zuv) ∧ (type_of% @zzq)) ∧ ((type_of% @jmw) ∧ (type_of% @zgz)))) ∧ ((((type_of% @jmv) ∧ (type_of% @zzp)) ∧ ((type_of% @zem) ∧ (type_of% @zen))) ∧ (((type_of% @jmt) ∧ (type_of% @jmx)) ∧ ((type_of% @zzr) ∧ (type_of% @zzs))))) ∧ (((((type_of% @zgs) ∧ (type_of% @zpu)) ∧ ((type_of% @zpv) ∧ (type_of% @zpw))) ∧ (((type_of% @zev) ∧ (type_of% @zew)) ∧ ((type_of% @zzu) ∧ (type_of% @znz)))) ∧ ((((type_of% @zn1) ∧ (type_of% @zn2)) ∧ ((type_of% @zzt) ∧ (type_of% @znu))) ∧ (((type_of% @znp) ∧ (type_of% @zd6)) ∧ ((type_of% @zel) ∧ (type_of% @zg2)))))) ∧ ((((((type_of% @zjr) ∧ (type_of% @ze0)) ∧ ((type_of% @znv) ∧ (type_of% @zdc))) ∧ (((type_of% @zdd) ∧ (type_of% @zdh)) ∧ ((type_of% @ze1) ∧ (type_of% @zfo)))) ∧ ((((type_of% @ziz) ∧ (type_of% @zmu)) ∧ ((type_of% @zfc) ∧ (type_of% @zfd))) ∧ (((type_of% @zfe) ∧ (type_of% @zje)) ∧ ((type_of% @zjf) ∧ (type_of% @zmt))))) ∧ (((((type_of% @zms) ∧ (type_of% @zef)) ∧ ((type_of% @zgg) ∧ (type_of% @zex))) ∧ (((type_of% @zdz) ∧ (type_of% @znx)) ∧ ((type_of% @zht) ∧ (type_of% @zhu)))) ∧ ((((type_of% @zul) ∧ (type_of% @zgt)) ∧ ((type_of% @zpx) ∧ (type_of% @zpy))) ∧ (((type_of% @zur) ∧ (type_of% @znq)) ∧ ((type_of% @znw) ∧ (type_of% @zi6))))))) := ⟨⟨⟨⟨⟨@zpz, ⟨@zp0, @zuu⟩⟩, ⟨⟨@zuv, @zzq⟩, ⟨@jmw, @zgz⟩⟩⟩, ⟨⟨⟨@jmv, @zzp⟩, ⟨@zem, @zen⟩⟩, ⟨⟨@jmt, @jmx⟩, ⟨@zzr, @zzs⟩⟩⟩⟩, ⟨⟨⟨⟨@zgs, @zpu⟩, ⟨@zpv, @zpw⟩⟩, ⟨⟨@zev, @zew⟩, ⟨@zzu, @znz⟩⟩⟩, ⟨⟨⟨@zn1, @zn2⟩, ⟨@zzt, @znu⟩⟩, ⟨⟨@znp, @zd6⟩, ⟨@zel, @zg2⟩⟩⟩⟩⟩, ⟨⟨⟨⟨⟨@zjr, @ze0⟩, ⟨@znv, @zdc⟩⟩, ⟨⟨@zdd, @zdh⟩, ⟨@ze1, @zfo⟩⟩⟩, ⟨⟨⟨@ziz, @zmu⟩, ⟨@zfc, @zfd⟩⟩, ⟨⟨@zfe, @zje⟩, ⟨@zjf, @zmt⟩⟩⟩⟩, ⟨⟨⟨⟨@zms, @zef⟩, ⟨@zgg, @zex⟩⟩, ⟨⟨@zdz, @znx⟩, ⟨@zht, @zhu⟩⟩⟩, ⟨⟨⟨@zul, @zgt⟩, ⟨@zpx, @zpy⟩⟩, ⟨⟨@zur, @znq⟩, ⟨@znw, @zi6⟩⟩⟩⟩⟩⟩
theorem zhn {α : Type} [Inhabited α] {f : α → List D} {w : Nat} (hw : ∀ a, (f a).length = w) {l : List α} {k off n : Nat} (hk : k < l.length) (ho : off + n ≤ w) : zb7 (l.flatMap f) (k * w + off) n = some (((f (nth l k)).drop off).take n) := by
 have e1 : (l.flatMap f).drop (k * w + off) = ((f (nth l k)).drop off) ++ (l.drop (k + 1)).flatMap f := by
  rw [← List.drop_drop, zkp hw, zek hk, List.drop_eq_getElem_cons hk, List.flatMap_cons, List.drop_append_of_le_length (by rw [hw]; omega)]
 unfold zb7
 rw [if_pos (by
  rw [zc1 hw]
  have := Nat.mul_le_mul_right w (show k + 1 ≤ l.length from hk)
  rw [Nat.add_mul] at this; omega), e1, List.take_append_of_le_length (by rw [List.length_drop, hw]; omega)]
theorem zp9 {l : List PTake} {k : Nat} (h : k < l.length) : zb7 (l.flatMap ptC) (k * 9 + 2) 7 = some (exC (nth l k).wh) := by
 rw [zhn ybv h (by omega)]
 show some ((exC (nth l k).wh).take 7) = _
 rw [List.take_of_length_le (by rw [zfr]; omega)]
theorem zqa {l : List PPut} {k : Nat} (h : k < l.length) : zb7 (l.flatMap pqC) (k * 16 + 2) 7 = some (exC (nth l k).wh) := by
 rw [zhn ybw h (by omega)]
 show some (((exC (nth l k).wh) ++ exC (nth l k).da).take 7) = _
 rw [List.take_append_of_le_length (by rw [zfr]; omega), List.take_of_length_le (by rw [zfr]; omega)]
theorem zqb {l : List PPut} {k : Nat} (h : k < l.length) : zb7 (l.flatMap pqC) (k * 16 + 9) 7 = some (exC (nth l k).da) := by
 rw [zhn ybw h (by omega)]
 show some ((((exC (nth l k).wh) ++ exC (nth l k).da).drop 7).take 7) = _
 rw [List.drop_append_of_le_length (by rw [zfr]; omega), List.drop_of_length_le (by rw [zfr]; omega), List.nil_append, List.take_of_length_le (by rw [zfr]; omega)]
theorem zrh {l : List PReg} {k : Nat} (h : k < l.length) : zb7 (l.flatMap prC) (k * 13 + 3) 7 = some (exC (nth l k).next) := by
 rw [zhn ybu h (by omega)]
 show some (((exC (nth l k).next) ++ _).take 7) = _
 rw [List.take_append_of_le_length (by rw [zfr]; omega), List.take_of_length_le (by rw [zfr]; omega)]
theorem jqn {c : Ct} {inp : Int → Nat → Nat → Int} {m : Nat} {d d' : List (List Int)} (e : Ex) : ∀ gs, WT c false e → zbz c inp m d gs e = zbz c inp m d' gs e := by
 induction e with
 | con v w => intro gs h; rfl
 | reg i => intro gs h; rfl
 | dat i => intro gs h; exact absurd h.1 (by simp)
 | not a iha => intro gs h; simp only [zbz]; rw [iha _ h]
 | two o a b iha ihb => intro gs h; simp only [zbz]; rw [iha _ h.2.1, ihb _ h.2.2.1]
 | add a b iha ihb => intro gs h; simp only [zbz]; rw [iha _ h.1, ihb _ h.2.1]
 | sub a b iha ihb => intro gs h; simp only [zbz]; rw [iha _ h.1, ihb _ h.2.1]
 | eq a b iha ihb => intro gs h; simp only [zbz]; rw [iha _ h.1, ihb _ h.2.1]
 | lt a b iha ihb => intro gs h; simp only [zbz]; rw [iha _ h.1, ihb _ h.2.1]
 | mux a b d iha ihb ihd => intro gs h; simp only [zbz]; rw [iha _ h.1, ihb _ h.2.1, ihd _ h.2.2.1]
 | cat a b iha ihb => intro gs h; simp only [zbz]; rw [iha _ h.1, ihb _ h.2.1]
 | slc k w a iha => intro gs h; simp only [zbz]; rw [iha _ h.1]
 | ext w a iha => intro gs h; simp only [zbz]; rw [iha _ h.1]
 | rd k a iha => intro gs h; simp only [zbz]; rw [iha _ h.1]
def zd5 (p : Pr) (k : Nat) : Re := if k ≤ p.takes.length then jbv p k else zp6 p (k - p.takes.length)
theorem jqo {p : Pr} {k : Nat} (h : k < p.takes.length) : zd5 p (k + 1) = jgh (mP p) (zd5 p k).1 (zd5 p k).2 (nth (zhh p) k) (inp p 3 k 0) := by
 unfold zd5 zhh
 rw [if_pos (by omega), if_pos (by omega), jbv]
theorem jqp {p : Pr} {k : Nat} (h : p.takes.length ≤ k) : zd5 p (k + 1) = jgh (mP p) (zd5 p k).1 (zd5 p k).2 (nth (zg6 p) (k - p.takes.length)) (inp p 4 (k - p.takes.length) 0) := by
 have e : zd5 p k = zp6 p (k - p.takes.length) := by
  unfold zd5
  by_cases hk : k ≤ p.takes.length
  ·have : k = p.takes.length := by omega
   subst this
   rw [if_pos (Nat.le_refl _), Nat.sub_self]; rfl
  ·rw [if_neg hk]
 rw [e]
 unfold zd5 zg6
 rw [if_neg (by omega), show k + 1 - p.takes.length = (k - p.takes.length) + 1 by omega, zp6]
theorem jhi {p : Pr} : zd5 p (p.takes.length + p.puts.length) = zp6 p p.puts.length := by
 unfold zd5
 by_cases hk : p.puts.length = 0
 ·rw [if_pos (by omega), hk]; rfl
 ·rw [if_neg (by omega), Nat.add_sub_cancel_left]
theorem jar {p : Pr} (h : PrOk p) {k : Nat} (hk : k ≤ p.takes.length + p.puts.length) : Rs (mP p) (3 * p.takes.length + 3 * p.puts.length) (zp5 p p.puts.length).gs (zd5 p k) := by
 unfold zd5
 split
 ·rename_i hl; exact (zsy h k hl).mono (by omega)
 ·exact (zja h (k - p.takes.length) (by omega)).mono (by omega)
def zcz (p : Pr) : List D := [iD (zbl p).length, zaj (zp6 p p.puts.length).1, intsD (zhh p), intsD (zg6 p), intssD (zcb p), iD (zf3 p)]
def zvi : AObj := .cells [.d (iD 0), .d (.val (.slice none 0 0)), .d (.val (.slice none 0 0)), .d (.val (.slice none 0 0)), .d (.val (.slice none 0 0)), .d (iD 0)]
theorem zdg {p q : Prop} (hq : q) (h : p = q := by
 conv => lhs; simp -dsimp -implicitDefEqProofs (disch := first | assumption | omega | (simp only [r_z, zab, za9] <;> omega) | decide) only [r_r, ↓reduceIte, Nat.reduceEqDiff, Nat.reduceAdd, D.fix, Int.reduceToNat, Nat.reduceMul, Nat.reduceBNe, Nat.reduceBEq, intsD, intssD, zvi, zdi, zbp, sD, zc0, zc7, zf1, zcl, zaj, zao, zp9, jhc, zqa, jqm]) : p := h.mpr hq
theorem jkq {p q : Prop} (hq : q) (h : p = q := by
 conv => lhs; simp -dsimp -implicitDefEqProofs (disch := first | assumption | omega | (simp only [r_z, zab, za9] <;> omega) | decide) only [r_r, ↓reduceIte, Nat.reduceEqDiff, Nat.reduceAdd, D.fix, Int.reduceToNat, Nat.reduceMul, Nat.reduceBNe, Nat.reduceBEq, intsD, intssD, zvi, zdi, zbp, sD, zc0, zc7, zf1, zcl, zaj, zao, zp9, jhc, zqa]) : p := h.mpr hq
theorem jhy {m : List Nat} {τ τ' : Fr} {H H' : zad} (h2 : H = H') (h : zgu τ τ' := by
 repeat (first | exact zar _ | refine zam ?_ (by first | rfl | (simp [r_f, zab, za9]; done) | simp [r_f, zab, za9, *]))) : Rt m τ H τ' H' := Rt.end h h2
theorem zm6 {p q r : Prop} (e : r) (hq : q) (h : r → p = q := by
 intro hY
 conv => lhs; simp -dsimp -implicitDefEqProofs (disch := first | assumption | omega | (simp only [r_z, zab, za9] <;> omega) | decide) only [r_r, ↓reduceIte, Nat.reduceEqDiff, Nat.reduceAdd, D.fix, Int.reduceToNat, Nat.reduceMul, Nat.reduceBNe, Nat.reduceBEq, intsD, intssD, zvi, zdi, zbp, sD, zc0, zc7, zf1, zcl, zaj, zao, zp9, jhc, zqa, jqm, hY]) : p := (h e).mpr hq
theorem jn3 (k : List Nat) {m : List Nat} {τ τ1 : Fr} {H H1 : zad} (h : Rt m (fun t => gcV k (τ t)) (gcH k H) τ1 H1) (a : ∀ i ∈ m, k[i]? = some i := by decide) (b : k.Nodup := by decide) (c : ∀ i ∈ k, i < H.length := by
 simp [fzH, gcH]) : Rt m τ H τ1 H1 := Rt.trans (Rt.gc a b c) h
theorem jxr {p q r : Prop} (e : r) (hq : q) (h : r → p = q := by
 intro hY
 conv => lhs; simp -dsimp -implicitDefEqProofs (disch := first | assumption | omega | (simp only [r_z, zab, za9] <;> omega) | decide) only [r_r, ↓reduceIte, Nat.reduceEqDiff, Nat.reduceAdd, D.fix, Int.reduceToNat, Nat.reduceMul, Nat.reduceBNe, Nat.reduceBEq, intsD, intssD, zvi, zdi, zbp, sD, zc0, zc7, zf1, zcl, zaj, zao, zp9, jhc, zqa, ← hdue, jqm, hY]) : p := (h e).mpr hq
theorem jxs {p : Prop} (h : p := by
 first | rfl | (simp only [r_g, Nat.reduceAdd, ↓reduceIte, Nat.reduceEqDiff, intsD, intssD, zvi, zdi, zbp, sD, zc0, zc7, zf1, zcl, zaj, zao, zp9, jhc, zqa]; first | done | rfl)) : p := h
theorem jxt {p q : Prop} (hq : q) (h : p = q := by
 conv => lhs; simp only [r_g, Nat.reduceAdd, ↓reduceIte, Nat.reduceEqDiff, intsD, intssD, zvi, zdi, zbp, sD, zc0, zc7, zf1, zcl, zaj, zao, zp9, jhc, zqa]) : p := h.mpr hq
theorem jqq (p : Pr) (h : PrOk p) (hn : (zbl p).length ≤ 1000) : zaz Try.prog 76 [zdi p, zao (zbl p)] (.d (.agg (zcz p))) := by
 have hrl := h.rl; have htl := h.tl; have hql := h.ql; have hcl := h.cl
 have hm : mP p = 2 + (zbl p).length := rfl
 refine zaw (fn := Try.f76) (by kernel_rfl) Try.func76 rfl (Nat.le_of_ble_eq_true rfl) fun c hc hp => ?_
 refine za0 (τ' := frL [(0, .d (zdi p)), (1, .d (zao (zbl p)))]) (by repeat (first | exact zar _ | refine zam ?_ (by first | rfl | (simp [r_f, zab, za9]; done) | simp [r_f, zab, za9, *]))) ?_
 refine szq hp (fun _ hZ => zdg hZ) ?_
 refine szq hp (fun _ hZ => zdg hZ) ?_
 refine zaa fun K3 hK3 => ?_
 refine szq hp (fun _ hZ => jkq hZ) ?_
 refine zac ?_
 refine zan hp (fun τ' H' mm => ∃ (i : Nat), (i ≤ p.takes.length) ∧ mm = p.takes.length - i ∧ H' = [.cells (avs (zbp p)), zvi, .cells [.d (iD (zbl p).length), .d (zaj (zcx p i).gs), .os 1 3 0 i, .d (.val (.slice none 0 0)), .os 1 4 0 i, .d (iD 1)], .cells (avs ((zcx p i).takes.map iD)), .cells (avs ((zcx p i).data.map intsD))] ∧ τ' = frL [(1, .d (zao (zbl p))), (2, .op 0 0), (4, .op 1 0), (5, .op 2 0), (6, .d (iD i))]) (p.takes.length) ?_ ⟨0, Nat.zero_le _, rfl, rfl, rfl⟩ ?_
 ·refine Rt.trans (Rt.fixc 2 1 rfl rfl) ?_
  refine Rt.trans (Rt.nilc 2 2 1 rfl rfl) ?_
  refine Rt.trans (Rt.nilc 2 4 1 rfl rfl) ?_
  refine jhy ?_
  exact jxs
 rintro τ' H' mm ⟨i, hi, rfl, rfl, rfl⟩
 refine zaa fun K5 hK5 => ?_
 refine szq hp (fun _ hZ => zdg hZ) ?_
 refine zah rfl (fun ht => ?_) (fun ht => ?_)
 ·have hlt : i < p.takes.length := by simp at ht; omega
  have hk := zhj h i hi
  have hs := jnj h hlt hk
  have hwt := h.tw i hlt
  have hci := jv3 (p := p) (k := i + 1) (by omega)
  rw [cTP] at hci
  have hle := hk.len
  have hb := zkb p h false [] hn (nth p.takes i).wh (zcx p i).gs hk.gi (by omega) ⟨fun e => (by cases e), fun e => (by cases e), fun e => (by cases e)⟩ hwt.1
  rw [show zci p [] (zcx p i).gs (nth p.takes i).wh = zci p (zcx p i).data (zcx p i).gs (nth p.takes i).wh from jqn _ _ hwt.1] at hb
  obtain ⟨r, hr⟩ : ∃ r, r = zci p (zcx p i).data (zcx p i).gs (nth p.takes i).wh := ⟨_, rfl⟩
  obtain ⟨hs1, hs2⟩ := hs
  rw [← hr] at hb hs1 hs2
  have hrw := hs1.wid
  have htl2 := hk.tl; have hdl2 := hk.dl
  have g0 : (r.2.map iD)[0]? = some (iD (nth r.2 0)) := zay (by omega)
  obtain ⟨st, hst⟩ : ∃ st : Gs → Nat → Re, st = fun gs k => zg4 (mP p) gs (nth r.2 0) (inp p 2 i k) := ⟨_, rfl⟩
  rw [← hst] at hs2
  have hw8 := jql h hlt
  have hbs : ∀ k, k ≤ (nth p.takes i).w → Bs (mP p) (1 * k) k r.1 (zbh st r.1 k) := fun k hk => by
   rw [hst]
   exact zda hs1.gi fun j hj gs' hp' hg' => zg5 mP2 hg' (hs1.at hp' (by decide)) (zij (in2 hlt (by omega)) _)
  have et : zcx p (i + 1) = ⟨(zbh st r.1 (nth p.takes i).w).1, (zcx p i).takes ++ [nth r.2 0], (zcx p i).data ++ [(zbh st r.1 (nth p.takes i).w).2]⟩ := by rw [hst, hr, zcx]
  have hl1 := hs1.len
  clear hr
  refine zaf (hK5 _ _ ?_)
  refine zaa fun K7 hK7 => ?_
  refine zac ?_
  refine zas zai hc za8 rfl (q := 1) (by kernel_rfl) (by kernel_rfl) fun K8 hK8 => ?_
  refine zdg ?_
  refine za1 (hb) rfl ?_
  refine zdg ?_
  refine hK8 _ _ ?_
  refine szq hp (fun _ hZ => zdg hZ) ?_
  refine zas zai hc za8 rfl (q := 2) (by kernel_rfl) (by kernel_rfl) fun K10 hK10 => ?_
  refine zm6 g0 ?_
  refine hK10 _ _ ?_
  refine szq hp (fun _ hZ => zdg hZ) ?_
  refine zaa fun K12 hK12 => ?_
  refine szq hp (fun _ hZ => jkq hZ) ?_
  refine zac ?_
  refine zan hp (fun τ' H' mm => ∃ (k : Nat), (k ≤ (nth p.takes i).w) ∧ mm = (nth p.takes i).w - k ∧ H' = [.cells (avs (zbp p)), zvi, .cells [.d (iD (zbl p).length), .d (zaj (zbh st r.1 k).1), .os 1 3 0 (i + 1), .d (.val (.slice none 0 0)), .os 1 4 0 i, .d (iD 1)], .cells (avs ((zcx p i).takes.map iD ++ [iD (nth r.2 0)])), .cells (avs ((zcx p i).data.map intsD)), .cells (avs (zcl (zbl p).length r)), .cells (avs ((zbh st r.1 k).2.map iD))] ∧ τ' = frL [(1, .d (zao (zbl p))), (2, .op 0 0), (4, .op 1 0), (5, .op 2 0), (6, .d (iD i)), (7, .op 5 0), (8, .os 1 6 0 k), (9, .d (iD k))]) ((nth p.takes i).w) ?_ ⟨0, Nat.zero_le _, rfl, rfl, rfl⟩ ?_
  ·refine jn3 [0,1,2,7,4,5,8] ?_
   refine jhy ?_
   exact jxs
  rintro τ' H' mm ⟨k, hk1, rfl, rfl, rfl⟩
  refine zaa fun K14 hK14 => ?_
  refine szq hp (fun _ hZ => zdg hZ) ?_
  refine zah rfl (fun ht => ?_) (fun ht => ?_)
  ·have hlk : k < (nth p.takes i).w := by simp at ht; omega
   have hbk := hbs k hk1
   have hlk2 := hbk.len
   have hwk2 := hbk.wid
   have hin := in2 hlt hlk
   have hwire := zpa (zbl p) ⟨2, (i : Int), (k : Int)⟩ (by omega) hin
   have hidx := (zhg hin).1
   have e2 : (2 : Int) + ((jce ⟨2, (i : Int), (k : Int)⟩ (zbl p) : Nat) : Int) = inp p 2 i k := by unfold inp; omega
   have hand := zhp (zbl p).length (zbh st r.1 k).1 (nth r.2 0) (inp p 2 i k) (by omega) (by omega) hbk.gi (hs1.at hbk.pre (by decide)) (zij hin _)
   rw [show zg4 (2 + (zbl p).length) (zbh st r.1 k).1 (nth r.2 0) (inp p 2 i k) = st (zbh st r.1 k).1 k by rw [hst]; rfl] at hand
   clear hst
   refine zaf (hK14 _ _ ?_)
   refine zaa fun K16 hK16 => ?_
   refine zac ?_
   refine zas zai hc za8 rfl (q := 1) (by kernel_rfl) (by kernel_rfl) fun K17 hK17 => ?_
   refine zm6 (sza g0 e2) ?_
   refine za1 (hwire) rfl ?_
   refine zm6 (sza g0 e2) ?_
   refine za1 (hand) rfl ?_
   refine zm6 (sza g0 e2) ?_
   refine hK17 _ _ ?_
   refine szq hp (fun _ hZ => zdg hZ) ?_
   refine szs hp (fun _ hZ => zdg hZ) (hK16 _ _ ?_)
   refine za5 hp zai hc rfl fun K20 hK20 => ?_
   refine zdg ?_
   refine hK20 _ _ ⟨_, _, _, ?_, ⟨k + 1, by omega, rfl, rfl, rfl⟩, ?_⟩
   ·first | omega | (simp only [List.length_cons]; omega) | (dsimp only; omega)
   ·refine jn3 [0,1,2,3,4,5,9] ?_
    refine jhy ?_
    refine jxt ?_; simp [zbh, iD, zcl, zbp, avs, sD]
  ·have hkk : k = (nth p.takes i).w := by simp at ht; omega
   subst hkk
   have hwk2 := (hbs _ (Nat.le_refl _)).wid
   refine zau (hK12 _ _ ?_)
   refine zbg hp (τ' := frL [(1, .d (zao (zbl p))), (2, .op 0 0), (4, .op 1 0), (5, .op 2 0), (6, .d (iD i)), (8, .d (.fs ((zbh st r.1 (nth p.takes i).w).2.map iD) (nth p.takes i).w))]) (H' := [.cells (avs (zbp p)), zvi, .cells [.d (iD (zbl p).length), .d (zaj (zbh st r.1 (nth p.takes i).w).1), .os 1 3 0 (i + 1), .d (.val (.slice none 0 0)), .os 1 4 0 i, .d (iD 1)], .cells (avs ((zcx p i).takes.map iD ++ [iD (nth r.2 0)])), .cells (avs ((zcx p i).data.map intsD)), .cells (avs (zcl (zbl p).length r)), .dead]) ?_ ?_
   ·refine Rt.trans (Rt.fz (id := 6) (l := ((zbh st r.1 (nth p.takes i).w).2.map iD)) rfl) ?_
    refine Rt.trans (Rt.slot 8 (zee (za2 (by simp [hwk2])))) ?_
    refine jhy ?_
    exact jxs
   refine szs hp (fun _ hZ => zdg hZ) (hK7 _ _ ?_)
   refine za5 hp zai hc rfl fun K22 hK22 => ?_
   refine zdg ?_
   refine hK22 _ _ ⟨_, _, _, ?_, ⟨i + 1, by omega, rfl, rfl, rfl⟩, ?_⟩
   ·first | omega | (simp only [List.length_cons]; omega) | (dsimp only; omega)
   ·refine jn3 [0,1,2,3,8] ?_
    refine jhy ?_
    refine jxt ?_; simp [et, iD, intsD, hwk2, zbp, avs, sD]
 ·have hii : i = p.takes.length := by simp at ht; omega
  subst hii
  have hk := zhj h _ (Nat.le_refl _)
  have htl3 := hk.tl; have hdl3 := hk.dl
  have et : zhh p = (zcx p p.takes.length).takes := rfl
  have ed : zcb p = (zcx p p.takes.length).data := rfl
  refine zau (hK3 _ _ ?_)
  refine zaa fun K23 hK23 => ?_
  refine szq hp (fun _ hZ => jkq hZ) ?_
  refine zac ?_
  refine zan hp (fun τ' H' mm => ∃ (i : Nat), (i ≤ p.puts.length) ∧ mm = p.puts.length - i ∧ H' = [.cells (avs (zbp p)), zvi, .cells [.d (iD (zbl p).length), .d (zaj (zp5 p i).gs), .d (intsD (zhh p)), .os 1 3 0 i, .d (intssD (zcb p)), .d (iD 1)], .cells (avs ((zp5 p i).puts.map iD))] ∧ τ' = frL [(1, .d (zao (zbl p))), (2, .op 0 0), (4, .op 1 0), (5, .op 2 0), (11, .d (iD i))]) (p.puts.length) ?_ ⟨0, Nat.zero_le _, rfl, rfl, rfl⟩ ?_
  ·refine Rt.trans (Rt.fz (id := 3) (l := ((zcx p p.takes.length).takes.map iD)) rfl) ?_
   refine Rt.trans (Rt.heap (H' := [.cells (avs (zbp p)), zvi, .cells [.d (iD (zbl p).length), .d (zaj (zcx p p.takes.length).gs), .d (.fs ((zcx p p.takes.length).takes.map iD) p.takes.length), .d (.val (.slice none 0 0)), .os 1 4 0 p.takes.length, .d (iD 1)], .dead, .cells (avs ((zcx p p.takes.length).data.map intsD))]) (by simp only [r_g, Nat.reduceAdd, ↓reduceIte, Nat.reduceEqDiff, intsD, intssD, zvi, zdi, zbp, sD, zc0, zc7, zf1, zcl, zaj, zao, zp9, jhc, zqa, za2, htl3, hdl3, List.length_map]; first | done | rfl)) ?_
   refine Rt.trans (Rt.fz (id := 4) (l := ((zcx p p.takes.length).data.map intsD)) rfl) ?_
   refine Rt.trans (Rt.heap (H' := [.cells (avs (zbp p)), zvi, .cells [.d (iD (zbl p).length), .d (zaj (zcx p p.takes.length).gs), .d (.fs ((zcx p p.takes.length).takes.map iD) p.takes.length), .d (.val (.slice none 0 0)), .d (.fs ((zcx p p.takes.length).data.map intsD) p.takes.length), .d (iD 1)], .dead, .dead]) (by simp only [r_g, Nat.reduceAdd, ↓reduceIte, Nat.reduceEqDiff, intsD, intssD, zvi, zdi, zbp, sD, zc0, zc7, zf1, zcl, zaj, zao, zp9, jhc, zqa, za2, htl3, hdl3, List.length_map]; first | done | rfl)) ?_
   refine Rt.trans (Rt.nilc 2 3 1 rfl rfl) ?_
   refine jn3 [0,1,2,5] ?_
   refine jhy ?_
   refine jxt ?_; simp [et, ed, intsD, intssD, htl3, hdl3, zp5, zbp, avs, sD, iD]
  rintro τ' H' mm ⟨i, hi, rfl, rfl, rfl⟩
  refine zaa fun K25 hK25 => ?_
  refine szq hp (fun _ hZ => zdg hZ) ?_
  refine zah rfl (fun ht => ?_) (fun ht => ?_)
  ·have hlt : i < p.puts.length := by simp at ht; omega
   have hq := zju h i hi
   have hs := jv2 h hlt hq
   have hwt := h.qw i hlt
   have hci := jgl (p := p) (k := i + 1) (by omega)
   rw [cQP] at hci
   have hle := hq.len
   have hb := zkb p h true (zcb p) hn (nth p.puts i).wh (zp5 p i).gs hq.gi (by omega) (zwq h hq.pre) hwt.1
   obtain ⟨r, hr⟩ : ∃ r, r = zci p (zcb p) (zp5 p i).gs (nth p.puts i).wh := ⟨_, rfl⟩
   rw [← hr] at hb hs
   have hrw := hs.wid
   have hql2 := hq.ql
   have g0 : (r.2.map iD)[0]? = some (iD (nth r.2 0)) := zay (by omega)
   have ep : zp5 p (i + 1) = ⟨r.1, (zp5 p i).puts ++ [nth r.2 0]⟩ := by rw [hr, zp5]; rfl
   clear hr
   refine zaf (hK25 _ _ ?_)
   refine zaa fun K27 hK27 => ?_
   refine zac ?_
   refine zas zai hc za8 rfl (q := 1) (by kernel_rfl) (by kernel_rfl) fun K28 hK28 => ?_
   refine zdg ?_
   refine za1 (hb) rfl ?_
   refine zdg ?_
   refine hK28 _ _ ?_
   refine szq hp (fun _ hZ => zdg hZ) ?_
   refine zfj zai hc za8 rfl (q := 2) (by kernel_rfl) (by kernel_rfl) fun K30 hK30 => ?_
   refine zm6 g0 ?_
   refine hK30 _ _ (hK27 _ _ ?_)
   refine za5 hp zai hc rfl fun K31 hK31 => ?_
   refine zdg ?_
   refine hK31 _ _ ⟨_, _, _, ?_, ⟨i + 1, by omega, rfl, rfl, rfl⟩, ?_⟩
   ·first | omega | (simp only [List.length_cons]; omega) | (dsimp only; omega)
   ·refine jn3 [0,1,2,6] ?_
    refine jhy ?_
    refine jxt ?_; simp [ep, iD, zbp, avs, sD]
  ·have hii : i = p.puts.length := by simp at ht; omega
   subst hii
   have hq := zju h _ (Nat.le_refl _)
   have hql3 := hq.ql
   have eq' : zg6 p = (zp5 p p.puts.length).puts := rfl
   refine zau (hK23 _ _ ?_)
   refine zaa fun K32 hK32 => ?_
   refine szq hp (fun _ hZ => jkq hZ) ?_
   refine zac ?_
   refine zan hp (fun τ' H' mm => ∃ (i : Nat), (i ≤ p.takes.length + p.puts.length) ∧ mm = p.takes.length + p.puts.length - i ∧ H' = [.cells (avs (zbp p)), zvi, .cells [.d (iD (zbl p).length), .d (zaj (zd5 p i).1), .d (intsD (zhh p)), .d (intsD (zg6 p)), .d (intssD (zcb p)), .d (iD (zd5 p i).2)]] ∧ τ' = frL [(1, .d (zao (zbl p))), (2, .op 0 0), (4, .op 1 0), (5, .op 2 0), (13, .d (iD i))]) (p.takes.length + p.puts.length) ?_ ⟨0, Nat.zero_le _, rfl, rfl, rfl⟩ ?_
   ·refine Rt.trans (Rt.fz (id := 3) (l := ((zp5 p p.puts.length).puts.map iD)) rfl) ?_
    refine jn3 [0,1,2] ?_
    refine jhy ?_
    refine jxt ?_; simp [eq', intsD, intssD, hql3, zbp, avs, sD, iD, za2, zd5, jbv, gcV]
   rintro τ' H' mm ⟨i, hi, rfl, rfl, rfl⟩
   refine zaa fun K34 hK34 => ?_
   refine szq hp (fun _ hZ => zdg hZ) ?_
   refine zah rfl (fun ht => ?_) (fun ht => ?_)
   ·have hlt : i < p.takes.length + p.puts.length := by simp at ht; omega
    have hle := hq.len
    have hci := jgl (p := p) (k := p.puts.length) (by omega)
    refine zaf (hK34 _ _ ?_)
    refine zaa fun K36 hK36 => ?_
    refine zac ?_
    refine szq hp (fun _ hZ => zdg hZ) ?_
    refine zaa fun K38 hK38 => ?_
    refine szq hp (fun _ hZ => zdg hZ) ?_
    refine zah rfl (fun ht => ?_) (fun ht => ?_)
    ·have hil : i < p.takes.length := by simp at ht; omega
     have gl : i < (zhh p).length := by rw [et]; omega
     have g1 : ((zhh p).map iD)[i]? = some (iD (nth (zhh p) i)) := zay (by rw [et]; omega)
     have hin := in3 (p := p) (i := i) (by omega)
     have hwire := zpa (zbl p) ⟨3, ((i : Nat) : Int), ((0 : Nat) : Int)⟩ (by omega) hin
     have hidx := (zhg hin).1
     have e2 : (2 : Int) + ((jce ⟨3, ((i : Nat) : Int), ((0 : Nat) : Int)⟩ (zbl p) : Nat) : Int) = inp p 3 i 0 := by unfold inp; omega
     obtain ⟨due, hdue⟩ : ∃ due, due = nth (zhh p) i := ⟨_, rfl⟩
     obtain ⟨x, hx⟩ : ∃ x, x = inp p 3 i 0 := ⟨_, rfl⟩
     have hx0 := zij (p := p) hin (zd5 p i).1
     rw [← hx] at hx0 e2
     have ef := jqo (p := p) (k := i) (by omega)
     rw [← hdue, ← hx] at ef
     have hf := jar h hi
     have hfl := hf.len
     have hd0 : NdB (mP p) (zd5 p i).1 due := by rw [hdue]; exact (hk.tn i (by omega)).pre (hq.pre.trans hf.pre)
     have c1 := zmh (zbl p).length (zd5 p i).1 due (by omega) (by omega) hd0
     obtain ⟨A, hA⟩ : ∃ A, A = zj7 (mP p) (zd5 p i).1 due := ⟨_, rfl⟩
     have ra := zfz (m := mP p) mP2 hf.gi hd0
     rw [← hm, ← hA] at c1; rw [← hA] at ra
     have la := ra.len
     have c2 := jbx (zbl p).length A.1 A.2 x (by omega) (by omega) ra.gi ra.nd (hx0.pre ra.pre)
     obtain ⟨B, hB⟩ : ∃ B, B = orB (mP p) A.1 A.2 x := ⟨_, rfl⟩
     have rb := zwo (m := mP p) mP2 ra.gi ra.nd (hx0.pre ra.pre)
     rw [← hm, ← hB] at c2; rw [← hB] at rb
     have lb := rb.len
     have c3 := zhp (zbl p).length B.1 (zd5 p i).2 B.2 (by omega) (by omega) rb.gi (hf.nd.pre (ra.pre.trans rb.pre)) rb.nd
     rw [← hm, show zg4 (mP p) B.1 (zd5 p i).2 B.2 = zd5 p (i + 1) by rw [ef, hB, hA]; rfl] at c3
     clear hA hB ef hx
     refine szq hp (fun _ hZ => jxr g1 hZ) ?_
     refine szs hp (fun _ hZ => zdg hZ) (hK38 _ _ ?_)
     refine zag hp zai hc rfl fun K42 hK42 => ?_
     refine zdg ?_
     refine za1 (c1) rfl ?_
     refine zdg ?_
     refine hK42 _ _ ?_
     refine zas zai hc za8 rfl (q := 1) (by kernel_rfl) (by kernel_rfl) fun K43 hK43 => ?_
     refine zm6 e2 ?_
     refine za1 (hwire) rfl ?_
     refine zm6 e2 ?_
     refine za1 (c2) rfl ?_
     refine zm6 e2 ?_
     refine hK43 _ _ ?_
     refine zag hp zai hc rfl fun K44 hK44 => ?_
     refine zdg ?_
     refine za1 (c3) rfl ?_
     refine zdg ?_
     refine hK44 _ _ ?_
     refine szq hp (fun _ hZ => zdg hZ) ?_
     refine szs hp (fun _ hZ => zdg hZ) (hK36 _ _ ?_)
     refine za5 hp zai hc rfl fun K47 hK47 => ?_
     refine zdg ?_
     refine hK47 _ _ ⟨_, _, _, ?_, ⟨i + 1, by omega, rfl, rfl, rfl⟩, ?_⟩
     ·first | omega | (simp only [List.length_cons]; omega) | (dsimp only; omega)
     ·refine jn3 [0,1,2] ?_
      refine jhy ?_
      exact jxs
    ·have hil : p.takes.length ≤ i := by simp at ht; omega
     have e0 : (i : Int) - (p.takes.length : Int) = ((i - p.takes.length : Nat) : Int) := by omega
     have gl : i - p.takes.length < (zg6 p).length := by rw [eq']; omega
     have g1 : ((zg6 p).map iD)[i - p.takes.length]? = some (iD (nth (zg6 p) (i - p.takes.length))) := zay (by rw [eq']; omega)
     have hin := in4 (p := p) (i := (i - p.takes.length)) (by omega)
     have hwire := zpa (zbl p) ⟨4, (((i - p.takes.length) : Nat) : Int), ((0 : Nat) : Int)⟩ (by omega) hin
     have hidx := (zhg hin).1
     have e2 : (2 : Int) + ((jce ⟨4, (((i - p.takes.length) : Nat) : Int), ((0 : Nat) : Int)⟩ (zbl p) : Nat) : Int) = inp p 4 (i - p.takes.length) 0 := by unfold inp; omega
     obtain ⟨due, hdue⟩ : ∃ due, due = nth (zg6 p) (i - p.takes.length) := ⟨_, rfl⟩
     obtain ⟨x, hx⟩ : ∃ x, x = inp p 4 (i - p.takes.length) 0 := ⟨_, rfl⟩
     have hx0 := zij (p := p) hin (zd5 p i).1
     rw [← hx] at hx0 e2
     have ef := jqp (p := p) (k := i) (by omega)
     rw [← hdue, ← hx] at ef
     have hf := jar h hi
     have hfl := hf.len
     have hd0 : NdB (mP p) (zd5 p i).1 due := by rw [hdue]; exact (hq.qn (i - p.takes.length) (by omega)).pre hf.pre
     have c1 := zmh (zbl p).length (zd5 p i).1 due (by omega) (by omega) hd0
     obtain ⟨A, hA⟩ : ∃ A, A = zj7 (mP p) (zd5 p i).1 due := ⟨_, rfl⟩
     have ra := zfz (m := mP p) mP2 hf.gi hd0
     rw [← hm, ← hA] at c1; rw [← hA] at ra
     have la := ra.len
     have c2 := jbx (zbl p).length A.1 A.2 x (by omega) (by omega) ra.gi ra.nd (hx0.pre ra.pre)
     obtain ⟨B, hB⟩ : ∃ B, B = orB (mP p) A.1 A.2 x := ⟨_, rfl⟩
     have rb := zwo (m := mP p) mP2 ra.gi ra.nd (hx0.pre ra.pre)
     rw [← hm, ← hB] at c2; rw [← hB] at rb
     have lb := rb.len
     have c3 := zhp (zbl p).length B.1 (zd5 p i).2 B.2 (by omega) (by omega) rb.gi (hf.nd.pre (ra.pre.trans rb.pre)) rb.nd
     rw [← hm, show zg4 (mP p) B.1 (zd5 p i).2 B.2 = zd5 p (i + 1) by rw [ef, hB, hA]; rfl] at c3
     clear hA hB ef hx
     refine szq hp (fun _ hZ => jxr (sza e0 g1) hZ) ?_
     refine szs hp (fun _ hZ => zm6 e0 hZ) (hK38 _ _ ?_)
     refine zag hp zai hc rfl fun K50 hK50 => ?_
     refine zdg ?_
     refine za1 (c1) rfl ?_
     refine zdg ?_
     refine hK50 _ _ ?_
     refine zas zai hc za8 rfl (q := 1) (by kernel_rfl) (by kernel_rfl) fun K51 hK51 => ?_
     refine zm6 e2 ?_
     refine za1 (hwire) rfl ?_
     refine zm6 e2 ?_
     refine za1 (c2) rfl ?_
     refine zm6 e2 ?_
     refine hK51 _ _ ?_
     refine zag hp zai hc rfl fun K52 hK52 => ?_
     refine zdg ?_
     refine za1 (c3) rfl ?_
     refine zdg ?_
     refine hK52 _ _ ?_
     refine szq hp (fun _ hZ => zdg hZ) ?_
     refine szs hp (fun _ hZ => zdg hZ) (hK36 _ _ ?_)
     refine za5 hp zai hc rfl fun K55 hK55 => ?_
     refine zdg ?_
     refine hK55 _ _ ⟨_, _, _, ?_, ⟨i + 1, by omega, rfl, rfl, rfl⟩, ?_⟩
     ·first | omega | (simp only [List.length_cons]; omega) | (dsimp only; omega)
     ·refine jn3 [0,1,2] ?_
      refine jhy ?_
      exact jxs
   ·have hii : i = p.takes.length + p.puts.length := by simp at ht; omega
    subst hii
    refine zau (hK32 _ _ ?_)
    refine szq hp (fun _ hZ => zdg hZ) ?_
    refine zal ?_
    try dsimp only [zbm, zaq]
    refine zak rfl ?_
    simp -dsimp -implicitDefEqProofs (disch := first | assumption | omega | (simp only [r_z, zab, za9] <;> omega) | decide) only [r_r, ↓reduceIte, Nat.reduceEqDiff, Nat.reduceAdd, D.fix, Int.reduceToNat, Nat.reduceMul, Nat.reduceBNe, Nat.reduceBEq, intsD, intssD, zvi, zdi, zbp, sD, zc0, zc7, zf1, zcl, zaj, zao, zp9, jhc, zqa, zuu, zuv]
    show closeA _ _ = _
    simp (disch := first | assumption | omega | (simp only [r_z, zab, za9] <;> omega) | decide) only [r_c, Nat.reduceAdd, D.fix, ↓reduceIte, Nat.reduceEqDiff, intsD, intssD, zvi, zdi, zbp, sD, zc0, zc7, zf1, zcl, zaj, zao, zp9, jhc, zqa]
    rw [zcz]; unfold zf3; rw [← jhi]; first | done | rfl
end Go.Proofs.Ytapjobndmmkanaa
