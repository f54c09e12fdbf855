/- Processes that bytes describe: the frame. -/
import Derived.Test.YtapjobndmmkanaaQr
import Derived.Test.YtapjobndmmkanaaVd
set_option linter.unusedVariables false
set_option linter.unusedSimpArgs false
set_option maxRecDepth 100000
set_option maxHeartbeats 4000000
namespace Go.Proofs.Ytapjobndmmkanaa
open Go Go.RowKit
theorem jkf : (((((type_of% @zgb) ∧ (type_of% @zgc)) ∧ ((type_of% @zg0) ∧ ((type_of% @zg1) ∧ (type_of% @zig)))) ∧ (((type_of% @zmb) ∧ (type_of% @zq4)) ∧ ((type_of% @zq5) ∧ ((type_of% @zi3) ∧ (type_of% @zi5))))) ∧ ((((type_of% @zjd) ∧ (type_of% @zdu)) ∧ ((type_of% @zdv) ∧ ((type_of% @zjc) ∧ (type_of% @jfe)))) ∧ (((type_of% @jl6) ∧ ((type_of% @jl5) ∧ (type_of% @jl7))) ∧ ((type_of% @zyv) ∧ ((type_of% @zyw) ∧ (type_of% @zyx)))))) := ⟨⟨⟨⟨@zgb, @zgc⟩, ⟨@zg0, ⟨@zg1, @zig⟩⟩⟩, ⟨⟨@zmb, @zq4⟩, ⟨@zq5, ⟨@zi3, @zi5⟩⟩⟩⟩, ⟨⟨⟨@zjd, @zdu⟩, ⟨@zdv, ⟨@zjc, @jfe⟩⟩⟩, ⟨⟨@jl6, ⟨@jl5, @jl7⟩⟩, ⟨@zyv, ⟨@zyw, @zyx⟩⟩⟩⟩⟩
theorem jwz {P : Program} {t : TypeId} {a b : ByteArray} (h : a.size + b.size ≤ 1000000) : zf2 P .add t (.string a) (.string b) = some (.string (a ++ b)) := by simp [zf2, h]
theorem Imp.agg (cs : List D) : Imp (.d (.agg cs)) (.agg (cs.map .d)) := fun w pl own v h => by
 cases h with
 | d _ _ h =>
  cases h with
  | agg _ vs hl hx =>
   refine .agg _ vs (by simpa using hl) fun j x hj => ?_
   rw [List.getElem?_map, Option.map_eq_some_iff] at hj
   obtain ⟨y, hy, rfl⟩ := hj
   exact .d _ _ (hx j y hy)
theorem ScS.dag {P : Program} {ks : List Nat} {f : FuncId} {cs : List D} {xs : List AV} {S : zad} {K : AV → zad → Prop} (h : ScS P ks f (.agg (cs.map .d) :: xs) S K) : ScS P ks f (.d (.agg cs) :: xs) S K :=
 ⟨h.1, fun E w pl vals hl hx hh hE => h.2 E w pl vals (by simpa using hl) (fun j y hj => by
  cases j with
  | zero => cases hj; exact Imp.agg cs _ _ _ _ (hx 0 _ rfl)
  | succ j => exact hx (j + 1) y hj) hh hE⟩
theorem jb1 {P : Program} {fn : Func} {Q : AV → zad → Prop} {τ : Fr} {H : zad} {t u v : Tmp} {ta tb tc : TypeId} (h : fn.results.toList = [.cell t ta, .cell u tb, .cell v tc])
  (hq : oK (loadF P H.length H ta (τ t)) (tg fun x => oK (loadF P H.length H tb (τ u)) (tg fun y => oK (loadF P H.length H tc (τ v)) (tg fun z => Q (.tup [x, y, z]) H)))) : zhs P fn Q .ret τ H := by
 obtain ⟨x, h1, y, h2, z, h3, h4⟩ := hq
 show jb9 P τ H fn.results.toList _
 rw [h]; exact ⟨x, zis h1, y, zis h2, z, zis h3, h4⟩
theorem jp6 {p q : Prop} (hq : q) (h : p = q := by
 conv => lhs; simp -dsimp -implicitDefEqProofs (disch := first | assumption | omega | (simp only [r_z, zb6, zb3] <;> omega) | decide) only [r_r, ↓reduceIte, Nat.reduceEqDiff, Nat.reduceAdd, D.fix, Int.reduceToNat, Nat.reduceMul, Nat.reduceBNe, Nat.reduceBEq, ze8, zbu, scV, nI, exR, zd1, zb4, zb5, jkf]) : p := h.mpr hq
theorem jb2 {p q : Prop} (hq : q) (h : p = q := by
 conv => lhs; simp -dsimp -implicitDefEqProofs (disch := first | assumption | omega | (simp only [r_z, zb6, zb3] <;> omega) | decide) only [r_r, ↓reduceIte, Nat.reduceEqDiff, Nat.reduceAdd, D.fix, Int.reduceToNat, Nat.reduceMul, Nat.reduceBNe, Nat.reduceBEq, r_w, ze8, zbu, scV, nI, exR, zd1, zb4, zb5, jkf]) : p := h.mpr hq
theorem ybr {m : List Nat} {τ τ' : Fr} {H H' : zad} (h2 : H = H') (h : zgu τ τ' := by
 repeat (first | exact zar _ | refine zam ?_ (by first | rfl | (simp [r_f, zb6, zb3]; done) | simp [r_f, zb6, zb3, *]))) : Rt m τ H τ' H' := Rt.end h h2
theorem jw0 {p q : Prop} (hq : q) (h : p = q := by
 conv => lhs; simp -dsimp -implicitDefEqProofs (disch := first | assumption | omega | (simp only [r_z, zb6, zb3] <;> omega) | decide) only [r_r, ↓reduceIte, Nat.reduceEqDiff, Nat.reduceAdd, D.fix, Int.reduceToNat, Nat.reduceMul, Nat.reduceBNe, Nat.reduceBEq, ze8, zbu, scV, nI, exR, zd1, zb4, zb5, zig, jff]) : p := h.mpr hq
theorem ybs {p q : Prop} (hq : q) (h : p = q := by
 conv => lhs; simp only [r_g, Nat.reduceAdd, ↓reduceIte, Nat.reduceEqDiff, ze8, zbu, scV, nI, exR, zd1, zb4, zb5]) : p := h.mpr hq
theorem jnw (C : Ct) (s : Sc) (b : List Int) (i : Nat) (hC : CtOk C) (hs : ScOk C s) (hb : zfx b) (hl : b.length ≤ maxLen) (hi : i ≤ 7000000) : ScS Try.prog [0] 59 [ze8 b i, .agg (scV s)] ([zdm s, .free]) (TyQ C s b i 1 32 10) := by
 refine zeo (fn := Try.f59) (by kernel_rfl) Try.func59 rfl (Nat.le_of_ble_eq_true rfl) fun c hc hp => ?_
 refine zwe ?_
 have hcp : jb0 2 = 8000000 := by decide
 have hc2 : zvm 2 = 32 := by decide
 have hb2 : byD 2 = 4 := by decide
 obtain ⟨y, hy⟩ : ∃ y : Nat, byN b i = y := ⟨(byN b i).toNat, by have := (zjj hb i).1; omega⟩
 have hy2 := (zjj hb i).2
 have hyb := zmi b i hb hl
 rw [hy] at hyb
 have hcn := jwj 1 1 (by decide) (by decide)
 unfold exC at hcn
 have hT := jwy C s b (i + 1) 1 hC hs hb hl (by decide) (by decide) (by omega)
 refine szq hp (fun _ hZ => jp6 hZ) ?_
 refine zaa fun K2 hK2 => ?_
 refine zag hp zai hc rfl fun K3 hK3 => ?_
 refine jp6 ?_
 refine za1 (hyb) rfl ?_
 refine jp6 ?_
 refine hK3 _ _ ?_
 refine zah rfl (fun ht => ?_) (fun ht => ?_)
 ·refine zcj zai hp hc za8 rfl [(1, []), (0, [1]), (2, []), (3, []), (4, [])] [[], [], [0, 1], [0, 1, 2], [0, 1, 2, 3]] 0 (by kernel_rfl) fun K4 hK4 => ?_
  refine jb2 ?_
  refine zj4 (hcn) rfl ?_
  refine jb2 ?_
  refine zj4 (jj7 b i 1 (by omega) (by omega)) rfl ?_
  refine jb2 ?_
  refine hK4 _ _ ?_
  refine zbg hp (τ' := frL [(4, .op 1 0)]) (H' := [zdm s, .cells [.d (iD 1), .d nS, .d (iD (1 : Nat)), .d nS, .d (iD (1 : Nat)), .d nS, .d (.fs [] 0), .d (bytesD b), .d (iD (i + 1 : Nat))]]) ?_ ?_
  ·refine Rt.trans (Rt.gc (keep := [0,4]) (by decide) (by decide) (by simp [fzH, gcH])) ?_
   refine ybr ?_
   refine ybs ?_; simp [bytesD, iD, nS]
  refine zal ?_
  try dsimp only [zbm, zaq]
  refine zak rfl ?_
  refine jw0 ?_
  show ∃ _, _
  exact ⟨.con 1 1, i + 1, ⟨⟨by decide, by decide, by decide⟩, rfl, by simp [zbw]⟩, by omega, by omega, by simp [tyV, exC, exR, zbu, nS, iD, bytesD], _, rfl⟩
 ·refine zaf (hK2 _ _ ?_)
  refine zcj zai hp hc za8 rfl [(0, []), (2, []), (3, []), (1, [2]), (4, []), (5, [])] [[], [0], [], [], [0, 1, 2, 3], [0, 1, 2, 3, 4]] 0 (by kernel_rfl) fun K5 hK5 => ?_
  refine jb2 ?_
  refine zj4 (jj7 b i 1 (by omega) (by omega)) rfl ?_
  refine jb2 ?_
  refine jba (S := [zdm s, .free]) (T := [.cells (avs (zbu b i)), .cells (scV s), zd1]) (hT.dag) rfl (Nat.le_of_ble_eq_true rfl) (by first | rfl | (simp [AV.allIs, AV.allI, zbi, za3, za4, okI, ltI, zat, zb2, zd1, zba, scV, zbu]; done) | (intro o ho; simp at ho; done)) (fun t => zc8 (by first | rfl | (simp [AV.allIs, AV.allI, zbi, za3, za4, okI, ltI, zat, zb2, zd1, zba, scV, zbu]; done) | (intro o ho; simp at ho; done)) t) (fun t => zc8 (by first | rfl | (simp [AV.allIs, AV.allI, zbi, za3, za4, okI, ltI, zat, zb2, zd1, zba, scV, zbu]; done) | (intro o ho; simp at ho; done)) t) (by first | rfl | (simp [AV.allIs, AV.allI, zbi, za3, za4, okI, ltI, zat, zb2, zd1, zba, scV, zbu]; done) | (intro o ho; simp at ho; done)) (by first | rfl | (simp [AV.allIs, AV.allI, zbi, za3, za4, okI, ltI, zat, zb2, zd1, zba, scV, zbu]; done) | (intro o ho; simp at ho; done)) (by first | rfl | (simp [AV.allIs, AV.allI, zbi, za3, za4, okI, ltI, zat, zb2, zd1, zba, scV, zbu]; done) | (intro o ho; simp at ho; done)) ?_
  rintro _ _ ⟨e, j, he, hj1, hj2, rfl, g, rfl⟩
  refine ⟨rfl, ?_⟩
  obtain ⟨xo, xk, xw, xc, xn, hex⟩ := zce e; unfold tyV; rw [hex]; dsimp only [List.map_cons, List.map_nil, List.cons_append, List.nil_append, zbu]
  refine jb2 ?_
  refine hK5 _ _ ?_
  refine zbg hp (τ' := frL [(4, .op 1 0)]) (H' := [zdm s, .cells [.d (iD xo), .d nS, .d (iD xk), .d nS, .d (iD xw), .d nS, .d (.fs xc xn), .d (bytesD b), .d (iD j)]]) ?_ ?_
  ·refine Rt.trans (Rt.gc (keep := [0,4]) (by decide) (by decide) (by simp [fzH, gcH])) ?_
   refine ybr ?_
   refine ybs ?_; simp [bytesD, iD, nS]
  refine zal ?_
  try dsimp only [zbm, zaq]
  refine zak rfl ?_
  refine jw0 ?_
  show ∃ _, _
  exact ⟨e, j, ⟨he.t, he.w, by have := he.n; omega⟩, by omega, by omega, by unfold tyV; rw [hex]; simp [zbu, iD, bytesD], _, rfl⟩
theorem zgj {s : ByteArray} : zc3 (.d (.val (.string s))) = some [.d (.val (.string s))] := rfl
theorem zvc {p q : Prop} (hq : q) (h : p = q := by
 conv => lhs; simp -dsimp -implicitDefEqProofs (disch := first | assumption | omega | (simp only [r_z] <;> omega) | decide) only [r_r, ↓reduceIte, Nat.reduceEqDiff, Nat.reduceAdd, D.fix, Int.reduceToNat, Nat.reduceMul, Nat.reduceBNe, Nat.reduceBEq, sD, zgj, jkf]) : p := h.mpr hq
theorem jkg {p q : Prop} (hq : q) (h : p = q := by
 conv => lhs; simp -dsimp -implicitDefEqProofs (disch := first | assumption | omega | (simp only [r_z] <;> omega) | decide) only [r_r, ↓reduceIte, Nat.reduceEqDiff, Nat.reduceAdd, D.fix, Int.reduceToNat, Nat.reduceMul, Nat.reduceBNe, Nat.reduceBEq, sD, zgj, jfe, jun]) : p := h.mpr hq
theorem jyl {p q : Prop} (hq : q) (h : p = q := by
 conv => lhs; simp (disch := first | assumption | omega | (simp only [r_z] <;> omega) | decide) only [r_c, Nat.reduceAdd, D.fix, ↓reduceIte, Nat.reduceEqDiff, sD, zgj]) : p := h.mpr hq
theorem jnx (n : Nat) (s : ByteArray) (hn : n < 1000) : zf5 Try.prog 93 [iD n, sD s] (fun r => ∃ rk rf rn, r = .d (.agg [iD rk, sD rf, iD rn])) := by
 have h4 : (n : Int) % 4 = ((n % 4 : Nat) : Int) := by omega
 refine zit (fn := Try.f93) (by kernel_rfl) Try.func93 rfl (Nat.le_of_ble_eq_true rfl) fun c hc hp => ?_
 refine za0 (τ' := frL [(0, .d (iD n)), (1, .d (sD s))]) (by repeat (first | exact zar _ | refine zam ?_ (by first | rfl | (simp [r_f]; done) | simp [r_f, *]))) ?_
 refine szq hp (fun _ hZ => zvc hZ) ?_
 refine zaa fun K2 hK2 => ?_
 refine zag hp zai hc rfl fun K3 hK3 => ?_
 simp -dsimp -implicitDefEqProofs (disch := first | assumption | omega | (simp only [r_z] <;> omega) | decide) only [r_r, ↓reduceIte, Nat.reduceEqDiff, Nat.reduceAdd, D.fix, Int.reduceToNat, Nat.reduceMul, Nat.reduceBNe, Nat.reduceBEq, sD, zgj, h4, jkf]
 refine hK3 _ _ ?_
 refine zac ?_
 refine szq hp (fun _ hZ => zvc hZ) ?_
 refine zah rfl (fun ht => ?_) (fun ht => ?_)
 ·refine szq hp (fun _ hZ => zvc hZ) ?_
  refine zal ?_
  try dsimp only [zbm, zaq]
  refine zak rfl ?_
  refine jkg ?_
  show ∃ r, closeA _ _ = some r ∧ _
  refine jyl ?_
  exact ⟨_, rfl, 1, ⟨#[]⟩, 0, by simp [iD, sD]⟩
 ·refine szq hp (fun _ hZ => zvc hZ) ?_
  refine zah rfl (fun ht => ?_) (fun ht => ?_)
  ·refine szq hp (fun _ hZ => zvc hZ) ?_
   refine zal ?_
   try dsimp only [zbm, zaq]
   refine zak rfl ?_
   refine jkg ?_
   show ∃ r, closeA _ _ = some r ∧ _
   refine jyl ?_
   exact ⟨_, rfl, 2, s, 0, by simp [iD, sD]⟩
  ·refine szq hp (fun _ hZ => zvc hZ) ?_
   refine zah rfl (fun ht => ?_) (fun ht => ?_)
   ·refine szq hp (fun _ hZ => zvc hZ) ?_
    refine zal ?_
    try dsimp only [zbm, zaq]
    refine zak rfl ?_
    refine jkg ?_
    show ∃ r, closeA _ _ = some r ∧ _
    refine jyl ?_
    exact ⟨_, rfl, 3, s, (n : Int) / 4 % 5, by simp [iD, sD]⟩
   ·refine zaf (hK2 _ _ ?_)
    refine szq hp (fun _ hZ => zvc hZ) ?_
    refine zal ?_
    try dsimp only [zbm, zaq]
    refine zak rfl ?_
    refine jkg ?_
    show ∃ r, closeA _ _ = some r ∧ _
    refine jyl ?_
    exact ⟨_, rfl, 0, ⟨#[]⟩, 0, by simp [iD, sD]⟩
def jb3 : List D := [iD 0, nS, iD 0, nS, iD 0, nS, .val (.slice none 0 0)]
def exO : Option Ex → List D
 | none => jb3
 | some e => exC e
theorem zik (o : Option Ex) : (exO o).length = 7 := by cases o <;> simp [exO, jb3, jcf]
structure RG where
 name : ByteArray
 w : Nat
 init : Nat
 nx : Option Ex
 rk : Int
 rf : ByteArray
 rn : Int
 deriving Inhabited
structure MG where
 name : ByteArray
 w : Nat
 words : Nat
 en : Option Ex
 ad : Option Ex
 da : Option Ex
 rk : Int
 rf : ByteArray
 rn : Int
 deriving Inhabited
structure TG where
 chan : Nat
 w : Nat
 wh : Option Ex
 deriving Inhabited
structure QG where
 chan : Nat
 w : Nat
 wh : Option Ex
 da : Option Ex
 deriving Inhabited
def rgC (r : RG) : List D := [sD r.name, iD r.w, iD r.init] ++ (exO r.nx ++ [iD r.rk, sD r.rf, iD r.rn])
def mgC (m : MG) : List D := [sD m.name, iD m.w, iD m.words] ++ (exO m.en ++ (exO m.ad ++ (exO m.da ++ [iD m.rk, sD m.rf, iD m.rn])))
def tgC (t : TG) : List D := [iD t.chan, iD t.w] ++ exO t.wh
def qgC (q : QG) : List D := [iD q.chan, iD q.w] ++ (exO q.wh ++ exO q.da)
theorem yaa (r : RG) : (rgC r).length = 13 := by simp [rgC, zik]
theorem jw1 (r : MG) : (mgC r).length = 27 := by simp [mgC, zik]
theorem yab (r : TG) : (tgC r).length = 9 := by simp [tgC, zik]
theorem jym (r : QG) : (qgC r).length = 16 := by simp [qgC, zik]
theorem zcr {l : List RG} : (l.flatMap rgC).length = l.length * 13 := zc1 yaa l
theorem zcs {l : List MG} : (l.flatMap mgC).length = l.length * 27 := zc1 jw1 l
theorem zct {l : List TG} : (l.flatMap tgC).length = l.length * 9 := zc1 yab l
theorem zco {l : List QG} : (l.flatMap qgC).length = l.length * 16 := zc1 jym l
theorem ybt {l : List RG} {k : Nat} (h : k < l.length) : (l.flatMap rgC)[k * 13 + 1]? = some (iD (nth l k).w) := (zcq (j := 1) yaa h (by omega)).trans rfl
theorem ycy {l : List MG} {k : Nat} (h : k < l.length) : (l.flatMap mgC)[k * 27 + 1]? = some (iD (nth l k).w) := (zcq (j := 1) jw1 h (by omega)).trans rfl
theorem ycz {l : List TG} {k : Nat} (h : k < l.length) : (l.flatMap tgC)[k * 9 + 1]? = some (iD (nth l k).w) := (zcq (j := 1) yab h (by omega)).trans rfl
theorem yc0 {l : List QG} {k : Nat} (h : k < l.length) : (l.flatMap qgC)[k * 16 + 1]? = some (iD (nth l k).w) := (zcq (j := 1) jym h (by omega)).trans rfl
theorem jyn {a b c d : Int} {i : Nat} (h : i < 4) : ([.d (.val (.int .i64 a)), .d (.val (.int .i64 b)), .d (.val (.int .i64 c)), .d (.val (.int .i64 d))] : List AV)[i]? = some (.d (.val (.int .i64 (nth [a, b, c, d] i)))) := by
 rcases (show i = 0 ∨ i = 1 ∨ i = 2 ∨ i = 3 by omega) with rfl | rfl | rfl | rfl <;> rfl
theorem yac {a b c d : Int} {i : Nat} (h : i < 4) : ([.val (.int .i64 a), .val (.int .i64 b), .val (.int .i64 c), .val (.int .i64 d)] : List D)[i]? = some (.val (.int .i64 (nth [a, b, c, d] i))) := by
 rcases (show i = 0 ∨ i = 1 ∨ i = 2 ∨ i = 3 by omega) with rfl | rfl | rfl | rfl <;> rfl
theorem jg3 (a b c d : Nat) {i : Nat} (h : i < 4) : nth ([(a : Int), b, c, d] : List Int) i = ((nth [a, b, c, d] i : Nat) : Int) ∧ (nth [a, b, c, d] i = a ∨ nth [a, b, c, d] i = b ∨ nth [a, b, c, d] i = c ∨ nth [a, b, c, d] i = d) := by
 rcases (show i = 0 ∨ i = 1 ∨ i = 2 ∨ i = 3 by omega) with rfl | rfl | rfl | rfl <;> exact ⟨rfl, by simp [nth]⟩
structure FrR (rs : List RG) (ms : List MG) (ts : List TG) (qs : List QG) : Prop where
 r1 : 1 ≤ rs.length
 r3 : rs.length ≤ 3
 rw : ∀ r ∈ rs, 1 ≤ r.w ∧ r.w ≤ 3
 m1 : ms.length ≤ 1
 mw : ∀ m ∈ ms, 1 ≤ m.w ∧ m.w ≤ 2 ∧ (m.words = 1 ∨ m.words = 2 ∨ m.words = 4)
 t2 : ts.length ≤ 2
 tw : ∀ t ∈ ts, 1 ≤ t.w ∧ t.w ≤ 2
 q2 : qs.length ≤ 2
 qw : ∀ q ∈ qs, 1 ≤ q.w ∧ q.w ≤ 2
def FrK (b : List Int) (i : Nat) (x : AV) (S' : zad) : Prop := ∃ (rs : List RG) (ms : List MG) (ts : List TG) (qs : List QG), FrR rs ms ts qs ∧
 x = .tup [.agg [.d (sD ⟨#[112]⟩), .d (sD ⟨#[97]⟩), .os 13 0 0 rs.length, .os 27 2 0 ms.length, .os 9 3 0 ts.length, .os 16 5 0 qs.length], .agg [.os 1 1 0 rs.length, .os 1 4 0 ts.length, .os 27 2 0 ms.length, .d (oD true)], .agg [.d (bytesD b), .d (iD (i + 9 : Nat))]] ∧
 ∃ g1 g2 g3, S' = [.cells (avs (rs.flatMap rgC)), .cells (avs (rs.map fun r => iD r.w)), .cells (avs (ms.flatMap mgC)), .cells (avs (ts.flatMap tgC)), .cells (avs (ts.map fun t => iD t.w)), .cells (avs (qs.flatMap qgC)), .cells g1, .cells g2, .cells g3]
end Go.Proofs.Ytapjobndmmkanaa
