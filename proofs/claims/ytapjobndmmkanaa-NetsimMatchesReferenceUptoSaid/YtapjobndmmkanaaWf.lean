/- The reference's builder: the bits of an expression. -/
import Derived.Test.YtapjobndmmkanaaQr
import Derived.Test.YtapjobndmmkanaaWe
import Derived.Test.YtapjobndmmkanaaVj
set_option linter.unusedVariables false
set_option linter.unusedSimpArgs false
set_option maxRecDepth 100000
set_option maxHeartbeats 4000000
namespace Go.Proofs.Ytapjobndmmkanaa
open Go Go.RowKit
theorem jkl : (((((((type_of% @zq7) ∧ (type_of% @zq8)) ∧ ((type_of% @zem) ∧ (type_of% @zen))) ∧ (((type_of% @zd6) ∧ (type_of% @zel)) ∧ ((type_of% @zg2) ∧ ((type_of% @zo0) ∧ (type_of% @zjr))))) ∧ ((((type_of% @zzx) ∧ (type_of% @zht)) ∧ ((type_of% @zhu) ∧ ((type_of% @zkq) ∧ (type_of% @zul)))) ∧ (((type_of% @znj) ∧ (type_of% @ji2)) ∧ ((type_of% @ji3) ∧ ((type_of% @ji4) ∧ (type_of% @zev)))))) ∧ (((((type_of% @zew) ∧ (type_of% @zuk)) ∧ ((type_of% @ze0) ∧ (type_of% @ze1))) ∧ (((type_of% @zdc) ∧ (type_of% @zdd)) ∧ ((type_of% @zdh) ∧ ((type_of% @zzy) ∧ (type_of% @zn5))))) ∧ ((((type_of% @zn6) ∧ (type_of% @znh)) ∧ ((type_of% @zyt) ∧ ((type_of% @jfd) ∧ (type_of% @zys)))) ∧ (((type_of% @zho) ∧ (type_of% @zfo)) ∧ ((type_of% @zny) ∧ ((type_of% @zgr) ∧ (type_of% @zpq))))))) ∧ ((((((type_of% @zpr) ∧ (type_of% @zup)) ∧ ((type_of% @zix) ∧ (type_of% @zn0))) ∧ (((type_of% @zfp) ∧ (type_of% @zfq)) ∧ ((type_of% @zmu) ∧ ((type_of% @zfc) ∧ (type_of% @zfd))))) ∧ ((((type_of% @zfe) ∧ (type_of% @zms)) ∧ ((type_of% @zzv) ∧ ((type_of% @zjd) ∧ (type_of% @zdu)))) ∧ (((type_of% @zdv) ∧ (type_of% @zjc)) ∧ ((type_of% @zef) ∧ ((type_of% @zgg) ∧ (type_of% @zex)))))) ∧ (((((type_of% @zdz) ∧ (type_of% @zmd)) ∧ ((type_of% @zgd) ∧ (type_of% @zge))) ∧ (((type_of% @zgf) ∧ (type_of% @zmc)) ∧ ((type_of% @zid) ∧ ((type_of% @zps) ∧ (type_of% @zpt))))) ∧ ((((type_of% @zuq) ∧ (type_of% @znl)) ∧ ((type_of% @ziy) ∧ ((type_of% @zmw) ∧ (type_of% @zff)))) ∧ (((type_of% @zfg) ∧ (type_of% @zif)) ∧ ((type_of% @zlo) ∧ ((type_of% @jfc) ∧ (type_of% @zmv)))))))) := ⟨⟨⟨⟨⟨⟨@zq7, @zq8⟩, ⟨@zem, @zen⟩⟩, ⟨⟨@zd6, @zel⟩, ⟨@zg2, ⟨@zo0, @zjr⟩⟩⟩⟩, ⟨⟨⟨@zzx, @zht⟩, ⟨@zhu, ⟨@zkq, @zul⟩⟩⟩, ⟨⟨@znj, @ji2⟩, ⟨@ji3, ⟨@ji4, @zev⟩⟩⟩⟩⟩, ⟨⟨⟨⟨@zew, @zuk⟩, ⟨@ze0, @ze1⟩⟩, ⟨⟨@zdc, @zdd⟩, ⟨@zdh, ⟨@zzy, @zn5⟩⟩⟩⟩, ⟨⟨⟨@zn6, @znh⟩, ⟨@zyt, ⟨@jfd, @zys⟩⟩⟩, ⟨⟨@zho, @zfo⟩, ⟨@zny, ⟨@zgr, @zpq⟩⟩⟩⟩⟩⟩, ⟨⟨⟨⟨⟨@zpr, @zup⟩, ⟨@zix, @zn0⟩⟩, ⟨⟨@zfp, @zfq⟩, ⟨@zmu, ⟨@zfc, @zfd⟩⟩⟩⟩, ⟨⟨⟨@zfe, @zms⟩, ⟨@zzv, ⟨@zjd, @zdu⟩⟩⟩, ⟨⟨@zdv, @zjc⟩, ⟨@zef, ⟨@zgg, @zex⟩⟩⟩⟩⟩, ⟨⟨⟨⟨@zdz, @zmd⟩, ⟨@zgd, @zge⟩⟩, ⟨⟨@zgf, @zmc⟩, ⟨@zid, ⟨@zps, @zpt⟩⟩⟩⟩, ⟨⟨⟨@zuq, @znl⟩, ⟨@ziy, ⟨@zmw, @zff⟩⟩⟩, ⟨⟨@zfg, @zif⟩, ⟨@zlo, ⟨@jfc, @zmv⟩⟩⟩⟩⟩⟩⟩
/-- A process with its inputs, and the data of its takes. -/
def zds (p : Pr) (data : List (List Int)) : List D := zbp p ++ [zao (zbl p), intssD data]
/-! ### Arguments -/
def zbs : Ex → List Ex
  | .con _ _ => []
  | .reg _ => []
  | .dat _ => []
  | .not a => [a]
  | .two _ a b => [a, b]
  | .add a b => [a, b]
  | .sub a b => [a, b]
  | .eq a b => [a, b]
  | .lt a b => [a, b]
  | .mux a b c => [a, b, c]
  | .cat a b => [a, b]
  | .slc _ _ a => [a]
  | .ext _ a => [a]
  | .rd _ a => [a]
def zte : Ex → Int
  | .con _ _ => 1
  | .reg _ => 16
  | .dat _ => 18
  | .not _ => 2
  | .two o _ _ => o
  | .add _ _ => 6
  | .sub _ _ => 7
  | .eq _ _ => 8
  | .lt _ _ => 9
  | .mux _ _ _ => 10
  | .cat _ _ => 11
  | .slc _ _ _ => 12
  | .ext _ _ => 13
  | .rd _ _ => 17
def kEx : Ex → Int
  | .con v _ => v
  | .reg i => i
  | .dat i => i
  | .slc k _ _ => k
  | .rd k _ => k
  | _ => 0
def wEx : Ex → Int
  | .con _ w => w
  | .slc _ w _ => w
  | .ext w _ => w
  | _ => 0
def exS (e : Ex) : List D := exR (zte e) (kEx e) (wEx e) ((zbs e).flatMap exC) (zbs e).length
theorem jqh (e : Ex) : exC e = exS e := by
  cases e <;> simp [exC, zbs, zte, kEx, wEx, exS]
theorem zcp {c : Ct} {q : Bool} {e : Ex} (h : WT c q e) : ∀ k, k < (zbs e).length → WT c q (nth (zbs e) k) := by
  intro k hk
  cases e with
  | con v w => simp [zbs] at hk
  | reg i => simp [zbs] at hk
  | dat i => simp [zbs] at hk
  | not a => obtain rfl : k = 0 := by simpa [zbs] using hk
             exact h
  | slc i w a => obtain rfl : k = 0 := by simpa [zbs] using hk
                 exact h.1
  | ext w a => obtain rfl : k = 0 := by simpa [zbs] using hk
               exact h.1
  | rd i a => obtain rfl : k = 0 := by simpa [zbs] using hk
              exact h.1
  | mux a b d =>
    rcases (show k = 0 ∨ k = 1 ∨ k = 2 by simp [zbs] at hk; omega) with rfl | rfl | rfl
    · exact h.1
    · exact h.2.1
    · exact h.2.2.1
  | two o a b =>
    rcases (show k = 0 ∨ k = 1 by simp [zbs] at hk; omega) with rfl | rfl
    · exact h.2.1
    · exact h.2.2.1
  | _ a b =>
    rcases (show k = 0 ∨ k = 1 by simp [zbs] at hk; omega) with rfl | rfl
    · exact h.1
    · exact h.2.1
def jkm (c : Ct) (l : List Ex) : Nat → Nat
  | 0 => 0
  | k + 1 => jkm c l k + zbw c (nth l k)
theorem jap {c : Ct} {l : List Ex} : ∀ {k n : Nat}, k ≤ n → jkm c l k ≤ jkm c l n
  | k, 0, h => by have : k = 0 := by omega
                  subst this; exact Nat.le_refl _
  | k, n + 1, h => by
    by_cases e : k = n + 1
    · subst e; exact Nat.le_refl _
    · have := jap (c := c) (l := l) (show k ≤ n by omega)
      rw [jkm]; omega
theorem jkn {c : Ct} {e : Ex} : jkm c (zbs e) (zbs e).length ≤ zbw c e := by
  cases e <;> simp [zbs, jkm, zbw, nth] <;> omega
def jn0 (f : Gs → Ex → Gs × List Int) (gs : Gs) (l : List Ex) : Nat → Gs × List (List Int)
  | 0 => (gs, [])
  | k + 1 => let s := jn0 f gs l k; let r := f s.1 (nth l k); (r.1, s.2 ++ [r.2])
structure ArgOk (c : Ct) (m : Nat) (gs : Gs) (l : List Ex) (k : Nat) (s : Gs × List (List Int)) : Prop where
  pre : gs <+: s.1
  gi : GI m s.1
  len : s.1.length ≤ gs.length + jkm c l k
  ln : s.2.length = k
  wid : ∀ j, j < k → (nth s.2 j).length = zck c (nth l j)
  nd : ∀ j, j < k → ∀ i, i < zck c (nth l j) → NdB m s.1 (nth (nth s.2 j) i)
theorem jn1 {c : Ct} {q : Bool} {inp : Int → Nat → Nat → Int} {m : Nat} {data : List (List Int)} {gs : Gs} {l : List Ex} (h2 : 2 ≤ m) (hc : CtOk c) (hi : InOk c inp m) (hg : GI m gs) (hd : DaOk c q m gs data) (hw : ∀ k, k < l.length → WT c q (nth l k)) :
    ∀ k, k ≤ l.length → ArgOk c m gs l k (jn0 (zbz c inp m data) gs l k)
  | 0, _ => ⟨List.prefix_refl _, hg, by simp [jn0], rfl, fun j hj => by omega, fun j hj => by omega⟩
  | k + 1, hk => by
    have ih := jn1 h2 hc hi hg hd hw k (by omega)
    rw [jn0]
    generalize jn0 (zbz c inp m data) gs l k = s at *
    have hb := zwp (q := q) h2 hc hi (nth l k) ih.gi (hd.pre ih.pre) (hw k (by omega))
    refine ⟨ih.pre.trans hb.pre, hb.gi, ?_, by simp [ih.ln], fun j hj => ?_, fun j hj i hi => ?_⟩
    · have h1 := ih.len; have h3 := hb.len
      rw [jkm]; simp only; omega
    · rcases zhi (x := (zbz c inp m data s.1 (nth l k)).2) ih.ln hj with ⟨hl, e⟩ | ⟨hl, e⟩
      · simp only; rw [e]; exact ih.wid j hl
      · simp only; rw [e, hl]; exact hb.wid
    · rcases zhi (x := (zbz c inp m data s.1 (nth l k)).2) ih.ln hj with ⟨hl, e⟩ | ⟨hl, e⟩
      · simp only; rw [e]; exact (ih.nd j hl i hi).pre hb.pre
      · simp only; rw [e]; subst hl; exact hb.nd i hi
/-- What Bits does with an expression. -/
def jqi (p : Pr) (q : Bool) (data : List (List Int)) (e : Ex) : Prop := ∀ gs : Gs, GI (2 + (zbl p).length) gs → gs.length + zbw (ctP p) e ≤ 600000 → DaOk (ctP p) q (2 + (zbl p).length) gs data → WT (ctP p) q e →
  zaz Try.prog 80 [.agg (zds p data), .agg (zcn (zbl p).length gs), .agg (exC e)] (.d (zf1 (zbl p).length (zci p data gs e)))
theorem jko {c : Ct} {q : Bool} {e : Ex} (h : WT c q e) : (∃ v w, e = .con v w) ∨ (∃ i, e = .reg i) ∨ (∃ i, e = .dat i) ∨ (∃ a, e = .not a) ∨ (∃ a b, e = .two 3 a b) ∨ (∃ a b, e = .two 4 a b) ∨ (∃ a b, e = .two 5 a b) ∨ (∃ a b, e = .add a b) ∨ (∃ a b, e = .sub a b) ∨ (∃ a b, e = .eq a b) ∨ (∃ a b, e = .lt a b) ∨ (∃ a b d, e = .mux a b d) ∨ (∃ a b, e = .cat a b) ∨ (∃ k w a, e = .slc k w a) ∨ (∃ w a, e = .ext w a) ∨ ∃ k a, e = .rd k a := by
  cases e with
  | two o a b =>
    rcases h.1 with rfl | rfl | rfl <;> simp
  | _ => simp
theorem yak {v k : Nat} (hv : v < 2 ^ 62) (hk : k < 64) : zvp .and .i64 ((v : Int).fdiv (2 ^ min k 64)) 1 = ((v / 2 ^ k % 2 : Nat) : Int) := by
  rw [Nat.min_eq_left (by omega)]
  have e2 : (v : Int).fdiv (2 ^ k) = ((v / 2 ^ k : Nat) : Int) := by
    rw [Int.fdiv_eq_ediv_of_nonneg _ (by have : (0 : Int) < 2 ^ k := Int.pow_pos (by decide); omega)]
    push_cast; rfl
  rw [e2]
  show IntKind.i64.wrap ((BitVec.ofInt 64 ((v / 2 ^ k : Nat) : Int) &&& BitVec.ofInt 64 1).toNat : Int) = _
  have : (BitVec.ofInt 64 ((v / 2 ^ k : Nat) : Int) &&& BitVec.ofInt 64 1).toNat = (v / 2 ^ k) % 2 := by
    rw [BitVec.toNat_and]
    have h1 : (BitVec.ofInt 64 1).toNat = 1 := by decide
    have h2 : (BitVec.ofInt 64 ((v / 2 ^ k : Nat) : Int)).toNat = v / 2 ^ k := by
      have hu : v / 2 ^ k ≤ v := Nat.div_le_self _ _
      rw [BitVec.toNat_ofInt]
      generalize v / 2 ^ k = u at hu ⊢
      omega
    rw [h1, h2, Nat.and_one_is_mod]
  rw [this]
  exact zua (by omega) (by omega)
theorem jhb {e : Ex} {k : Nat} (hk : k < (zbs e).length) : SizeOf.sizeOf (nth (zbs e) k) < SizeOf.sizeOf e := by
  have hm := zb0 hk
  generalize nth (zbs e) k = x at hm
  cases e <;> simp only [zbs, List.mem_cons, List.not_mem_nil, or_false] at hm <;> (first | (rcases hm with rfl | rfl | rfl) | (rcases hm with rfl | rfl) | (rcases hm with rfl) | cases hm) <;> simp only [Ex.not.sizeOf_spec, Ex.two.sizeOf_spec, Ex.add.sizeOf_spec, Ex.sub.sizeOf_spec, Ex.eq.sizeOf_spec, Ex.lt.sizeOf_spec, Ex.mux.sizeOf_spec, Ex.cat.sizeOf_spec, Ex.slc.sizeOf_spec, Ex.ext.sizeOf_spec, Ex.rd.sizeOf_spec] <;> omega
theorem yc1 {l : List PMem} {k : Nat} (h : k < l.length) : (l.flatMap pmC)[k * 27 + 1]? = some (iD (nth l k).w) := (zcq (j := 1) jxf h (by omega)).trans rfl
theorem yb4 {l : List PMem} {k : Nat} (h : k < l.length) : (l.flatMap pmC)[k * 27 + 2]? = some (iD (nth l k).words) := (zcq (j := 2) jxf h (by omega)).trans rfl
theorem jxi {l : List PReg} {k : Nat} (h : k < l.length) : (l.flatMap prC)[k * 13 + 1]? = some (iD (nth l k).w) := (zcq (j := 1) ybu h (by omega)).trans rfl
theorem zav {p q : Prop} (hq : q) (h : p = q := by
  conv => lhs; simp -dsimp -implicitDefEqProofs (disch := first | assumption | omega | (simp only [r_z, zb3] <;> omega) | decide) only [r_r, ↓reduceIte, Nat.reduceEqDiff, Nat.reduceAdd, D.fix, Int.reduceToNat, Nat.reduceMul, Nat.reduceBNe, Nat.reduceBEq, zds, zbp, zao, zcn, zaj, zc0, zc7, zf1, zcl, exS, exR, sD, nS, zky, jcf, zay, intssD, jkl]) : p := h.mpr hq
theorem zvh {p q : Prop} (hq : q) (h : p = q := by
  conv => lhs; simp -dsimp -implicitDefEqProofs (disch := first | assumption | omega | (simp only [r_z, zb3] <;> omega) | decide) only [r_r, ↓reduceIte, Nat.reduceEqDiff, Nat.reduceAdd, D.fix, Int.reduceToNat, Nat.reduceMul, Nat.reduceBNe, Nat.reduceBEq, zds, zbp, zao, zcn, zaj, zc0, zc7, zf1, zcl, exS, exR, sD, nS, zky, jcf, zay, intssD]) : p := h.mpr hq
theorem zpd {m : List Nat} {τ τ' : Fr} {H H' : zad} (h2 : H = H') (h : zgu τ τ' := by
  repeat (first | exact zar _ | refine zam ?_ (by first | rfl | (simp [r_f, zb3]; done) | simp [r_f, zb3, *]))) : Rt m τ H τ' H' := Rt.end h h2
theorem jn2 (k : List Nat) {m : List Nat} {τ τ1 : Fr} {H H1 : zad} (h : Rt m (fun t => gcV k (τ t)) (gcH k H) τ1 H1) (a : ∀ i ∈ m, k[i]? = some i := by decide) (b : k.Nodup := by decide) (c : ∀ i ∈ k, i < H.length := by
  simp [fzH, gcH]) : Rt m τ H τ1 H1 := Rt.trans (Rt.gc a b c) h
theorem zd4 {p q r : Prop} (e : r) (hq : q) (h : r → p = q := by
  intro hY
  conv => lhs; simp -dsimp -implicitDefEqProofs (disch := first | assumption | omega | (simp only [r_z, zb3] <;> omega) | decide) only [r_r, ↓reduceIte, Nat.reduceEqDiff, Nat.reduceAdd, D.fix, Int.reduceToNat, Nat.reduceMul, Nat.reduceBNe, Nat.reduceBEq, zds, zbp, zao, zcn, zaj, zc0, zc7, zf1, zcl, exS, exR, sD, nS, zky, jcf, zay, intssD, jkl, hY]) : p := (h e).mpr hq
theorem zjk {p q : Prop} (hq : q) (h : p = q := by
  conv => lhs; simp -dsimp -implicitDefEqProofs (disch := first | assumption | omega | (simp only [r_z, zb3] <;> omega) | decide) only [r_r, ↓reduceIte, Nat.reduceEqDiff, Nat.reduceAdd, D.fix, Int.reduceToNat, Nat.reduceMul, Nat.reduceBNe, Nat.reduceBEq, zds, zbp, zao, zcn, zaj, zc0, zc7, zf1, zcl, exS, exR, sD, nS, zky, jcf, zay, intssD, zg2, zo0]) : p := h.mpr hq
theorem zww {p q : Prop} (hq : q) (h : p = q := by
  conv => lhs; simp only [r_g, Nat.reduceAdd, ↓reduceIte, Nat.reduceEqDiff, zds, zbp, zao, zcn, zaj, zc0, zc7, zf1, zcl, exS, exR, sD, nS, zky, jcf, zay, intssD]) : p := h.mpr hq
theorem jqj {p : Prop} (h : p := by
  first | rfl | (simp only [r_g, Nat.reduceAdd, ↓reduceIte, Nat.reduceEqDiff, zds, zbp, zao, zcn, zaj, zc0, zc7, zf1, zcl, exS, exR, sD, nS, zky, jcf, zay, intssD]; first | done | rfl)) : p := h
theorem zvn {p q : Prop} (hq : q) (h : p = q := by
  conv => lhs; simp (disch := first | assumption | omega | (simp only [r_z, zb3] <;> omega) | decide) only [r_c, Nat.reduceAdd, D.fix, ↓reduceIte, Nat.reduceEqDiff, zds, zbp, zao, zcn, zaj, zc0, zc7, zf1, zcl, exS, exR, sD, nS, zky, jcf, zay, intssD]) : p := h.mpr hq
theorem jqk (p : Pr) (hp0 : PrOk p) (q : Bool) (data : List (List Int)) (e : Ex) (hn : (zbl p).length ≤ 1000) (ih : ∀ k, k < (zbs e).length → jqi p q data (nth (zbs e) k)) (gs : Gs) (hg0 : GI (2 + (zbl p).length) gs) (hl : gs.length + zbw (ctP p) e ≤ 600000) (hda : DaOk (ctP p) q (2 + (zbl p).length) gs data) (hwt : WT (ctP p) q e) : zaz Try.prog 80 [.agg (zds p data), .agg (zcn (zbl p).length gs), .agg (exS e)] (.d (zf1 (zbl p).length (zci p data gs e))) := by
  have hm : mP p = 2 + (zbl p).length := rfl
  obtain ⟨S, hS⟩ : ∃ S : Nat → Gs × List (List Int), S = jn0 (zci p data) gs (zbs e) := ⟨_, rfl⟩
  have hso : ∀ k, k ≤ (zbs e).length → ArgOk (ctP p) (2 + (zbl p).length) gs (zbs e) k (S k) := by
    rw [hS]; exact jn1 (q := q) (by omega) hp0.ct (jzv hp0) hg0 hda (zcp hwt)
  have hcs := jkn (c := ctP p) (e := e)
  have hsl : (zbs e).length ≤ 3 := by cases e <;> simp [zbs]
  refine zaw (fn := Try.f80) (by kernel_rfl) Try.func80 rfl (Nat.le_of_ble_eq_true rfl) fun c hc hp => ?_
  refine za0 (τ' := frL [(0, .d (.agg (zds p data))), (1, .d (.agg (zcn (zbl p).length gs))), (2, .d (.agg (exS e)))]) (by repeat (first | exact zar _ | refine zam ?_ (by first | rfl | (simp [r_f, zb3]; done) | simp [r_f, zb3, *]))) ?_
  refine szq hp (fun _ hZ => zav hZ) ?_
  refine szq hp (fun _ hZ => zav hZ) ?_
  refine zaa fun K3 hK3 => ?_
  refine szq hp (fun _ hZ => zvh hZ) ?_
  refine zac ?_
  refine zan hp (fun τ' H' mm => ∃ (k : Nat), (k ≤ (zbs e).length) ∧ mm = (zbs e).length - k ∧ H' = [.cells (avs (zds p data)), .cells (avs (zcn (zbl p).length (S k).1)), .cells (avs (exS e)), .cells [.d (iD 0), .d (.val (.slice none 0 0)), .d (.val (.slice none 0 0))], .cells (avs ((S k).2.map intsD))] ∧ τ' = frL [(3, .op 0 0), (4, .op 1 0), (5, .op 2 0), (6, .op 3 0), (7, .os 1 4 0 k), (8, .d (iD k))]) ((zbs e).length) ?_ ⟨0, Nat.zero_le _, rfl, rfl, rfl⟩ ?_
  · refine zpd ?_
    first | rfl | (simp [hS, jn0, avs, zds, zbp, zcn, zaj, exR, iD]; done) | (rw [hS]; rfl)
  rintro τ' H' mm ⟨k, hk, rfl, rfl, rfl⟩
  refine zaa fun K5 hK5 => ?_
  refine szq hp (fun _ hZ => zav hZ) ?_
  refine zah rfl (fun ht => ?_) (fun ht => ?_)
  · have hlt : k < (zbs e).length := by simp at ht; omega
    have ha := hso k hk
    have hln := ha.ln
    have hcm := jap (c := ctP p) (l := zbs e) (show k + 1 ≤ (zbs e).length by omega)
    have hle := ha.len
    rw [jkm] at hcm
    have hcall := ih k hlt (S k).1 ha.gi (by omega) (hda.pre ha.pre) (zcp hwt k hlt)
    have es : S (k + 1) = ((zci p data (S k).1 (nth (zbs e) k)).1, (S k).2 ++ [(zci p data (S k).1 (nth (zbs e) k)).2]) := by rw [hS, jn0]
    clear hS
    refine zaf (hK5 _ _ ?_)
    refine zaa fun K7 hK7 => ?_
    refine zac ?_
    refine zas zai hc za8 rfl (q := 1) (by kernel_rfl) (by kernel_rfl) fun K8 hK8 => ?_
    refine zav ?_
    refine za1 (hcall) rfl ?_
    refine zav ?_
    refine hK8 _ _ ?_
    refine szq hp (fun _ hZ => zav hZ) ?_
    refine szs hp (fun _ hZ => zav hZ) (hK7 _ _ ?_)
    refine za5 hp zai hc rfl fun K11 hK11 => ?_
    refine zav ?_
    refine hK11 _ _ ⟨_, _, _, ?_, ⟨k + 1, by omega, rfl, rfl, rfl⟩, ?_⟩
    · first | omega | (simp only [List.length_cons]; omega) | (dsimp only; omega)
    · refine jn2 [0,1,2,3,7] ?_
      refine zpd ?_
      refine zww ?_; simp [es, iD, intsD]
  · have hkk : k = (zbs e).length := by simp at ht; omega
    subst hkk
    have ha := hso _ (Nat.le_refl _)
    have hle := ha.len
    obtain ⟨T, hT⟩ : ∃ T, T = S (zbs e).length := ⟨_, rfl⟩
    rw [← hT] at ha hle ⊢
    refine zau (hK3 _ _ ?_)
    refine zag hp zai hc rfl fun K12 hK12 => ?_
    rcases jko hwt with ⟨v, w, rfl⟩ | ⟨i, rfl⟩ | ⟨i, rfl⟩ | ⟨a, rfl⟩ | ⟨a, b, rfl⟩ | ⟨a, b, rfl⟩ | ⟨a, b, rfl⟩ | ⟨a, b, rfl⟩ | ⟨a, b, rfl⟩ | ⟨a, b, rfl⟩ | ⟨a, b, rfl⟩ | ⟨a, b, d, rfl⟩ | ⟨a, b, rfl⟩ | ⟨i, w, a, rfl⟩ | ⟨w, a, rfl⟩ | ⟨i, a, rfl⟩
    · have hres : zci p data gs (.con v w) = (T.1, (List.range w).map fun i => ((v / 2 ^ i % 2 : Nat) : Int)) := by rw [hT, hS]; rfl
      have hw8 := hwt.2.1
      simp only [zbs, zte, kEx, wEx, List.length_cons, List.length_nil, Nat.zero_add, Nat.reduceAdd]
      have hTl : T.2.length = 0 := ha.ln
      refine zav ?_
      refine hK12 _ _ ?_
      refine zaa fun K13 hK13 => ?_
      refine szq hp (fun _ hZ => zav hZ) ?_
      refine zac ?_
      refine szq hp (fun _ hZ => zav hZ) ?_
      refine szt ?_
      refine szq hp (fun _ hZ => zvh hZ) ?_
      refine zac ?_
      refine zan hp (fun τ' H' mm => ∃ (k : Nat), (k ≤ w) ∧ mm = w - k ∧ H' = [.cells (avs (zds p data)), .cells (avs (zcn (zbl p).length T.1)), .cells (avs (exR 1 v w [] 0)), .cells [.d (iD 0), .d (.val (.slice none 0 0)), .d (.val (.slice none 0 0))], .cells (avs (T.2.map intsD)), .cells [.d (iD (zbl p).length), .d (zaj T.1), .os 1 6 0 k], .cells (avs (((List.range k).map fun i => ((v / 2 ^ i % 2 : Nat) : Int)).map iD))] ∧ τ' = frL [(3, .op 0 0), (4, .op 1 0), (5, .op 2 0), (6, .op 3 0), (7, .os 1 4 0 0), (10, .op 5 0), (11, .d (iD k))]) (w) ?_ ⟨0, Nat.zero_le _, rfl, rfl, rfl⟩ ?_
      · refine Rt.trans (Rt.nilc 5 2 1 rfl rfl) ?_
        refine zpd ?_
        exact jqj
      rintro τ' H' mm ⟨k, hk, rfl, rfl, rfl⟩
      refine zaa fun K17 hK17 => ?_
      refine szq hp (fun _ hZ => zav hZ) ?_
      refine zah rfl (fun ht => ?_) (fun ht => ?_)
      · have hlt : k < w := by simp at ht; omega
        have hbv := yak (v := v) (k := k) (by have := hwt.2.2; have := Nat.pow_le_pow_right (show 0 < 2 by decide) hw8; omega) (by omega)
        refine zaf (hK17 _ _ ?_)
        refine zaa fun K19 hK19 => ?_
        refine zac ?_
        refine szs hp (fun _ hZ => zd4 hbv hZ) (hK19 _ _ ?_)
        refine za5 hp zai hc rfl fun K21 hK21 => ?_
        refine zav ?_
        refine hK21 _ _ ⟨_, _, _, ?_, ⟨k + 1, by omega, rfl, rfl, rfl⟩, ?_⟩
        · first | omega | (simp only [List.length_cons]; omega) | (dsimp only; omega)
        · refine jn2 [0,1,2,3,4,5,8] ?_
          refine zpd ?_
          refine zww ?_; simp [List.range_succ, iD, nS, exR]
      · have hkk : k = w := by simp at ht; omega
        subst hkk
        have hwid : ((List.range k).map fun i => ((v / 2 ^ i % 2 : Nat) : Int)).length = k := by simp
        refine zau (hK13 _ _ ?_)
        refine zbg hp (τ' := frL [(6, .op 3 0), (10, .op 5 0)]) (H' := [.cells (avs (zds p data)), .cells (avs (zcn (zbl p).length T.1)), .cells (avs (exR 1 v k [] 0)), .cells [.d (iD 0), .d (.val (.slice none 0 0)), .d (.val (.slice none 0 0))], .cells (avs (T.2.map intsD)), .cells (avs (zcl (zbl p).length (T.1, ((List.range k).map fun i => ((v / 2 ^ i % 2 : Nat) : Int))))), .dead]) ?_ ?_
        · refine Rt.trans (Rt.fz (id := 6) (l := (((List.range k).map fun i => ((v / 2 ^ i % 2 : Nat) : Int)).map iD)) rfl) ?_
          refine zpd ?_
          refine zww ?_; simp [za2, hwid, zcl, intsD, avs, iD]
        refine szq hp (fun _ hZ => zav hZ) ?_
        refine zal ?_
        try dsimp only [zbm, zaq]
        refine zak rfl ?_
        refine zjk ?_
        show closeA _ _ = _
        refine zvn ?_
        rw [hres]; simp only [zf1, zcl, zaj, intsD, List.length_map]; first | done | rfl
    · have hres : zci p data gs (.reg i) = (T.1, (List.range (nth (ctP p).regs i)).map fun k => inp p 1 i k) := by rw [hT, hS]; rfl
      have hil : i < p.regs.length := by have := hwt; simpa [WT, ctP] using this
      have em : nth (ctP p).regs i = (nth p.regs i).w := jpt hil
      have hr8 := hp0.ct.r i hwt
      rw [em] at hr8 hres
      have m1 := jxi hil
      simp only [zbs, zte, kEx, wEx, List.length_cons, List.length_nil, Nat.zero_add, Nat.reduceAdd]
      have hTl : T.2.length = 0 := ha.ln
      refine zav ?_
      refine hK12 _ _ ?_
      refine zaa fun K23 hK23 => ?_
      refine szq hp (fun _ hZ => zav hZ) ?_
      refine zac ?_
      refine szq hp (fun _ hZ => zav hZ) ?_
      refine szf ?_
      refine szq hp (fun _ hZ => zav hZ) ?_
      refine szt ?_
      refine szq hp (fun _ hZ => zvh hZ) ?_
      refine zac ?_
      refine zan hp (fun τ' H' mm => ∃ (k : Nat), (k ≤ (nth p.regs i).w) ∧ mm = (nth p.regs i).w - k ∧ H' = [.cells (avs (zds p data)), .cells (avs (zcn (zbl p).length T.1)), .cells (avs (exR 16 i 0 [] 0)), .cells [.d (iD 0), .d (.val (.slice none 0 0)), .d (.val (.slice none 0 0))], .cells (avs (T.2.map intsD)), .cells [.d (iD (zbl p).length), .d (zaj T.1), .os 1 6 0 k], .cells (avs (((List.range k).map fun j => inp p 1 i j).map iD))] ∧ τ' = frL [(3, .op 0 0), (4, .op 1 0), (5, .op 2 0), (6, .op 3 0), (7, .os 1 4 0 0), (10, .op 5 0), (12, .d (iD k))]) ((nth p.regs i).w) ?_ ⟨0, Nat.zero_le _, rfl, rfl, rfl⟩ ?_
      · refine Rt.trans (Rt.nilc 5 2 1 rfl rfl) ?_
        refine zpd ?_
        exact jqj
      rintro τ' H' mm ⟨k, hk, rfl, rfl, rfl⟩
      refine zaa fun K28 hK28 => ?_
      refine szq hp (fun _ hZ => zd4 m1 hZ) ?_
      refine zah rfl (fun ht => ?_) (fun ht => ?_)
      · have hlt : k < (nth p.regs i).w := by simp at ht; omega
        have hin := in1 hil hlt
        have hcall := zpa (zbl p) ⟨1, (i : Int), (k : Int)⟩ (by omega) hin
        have hidx := (zhg hin).1
        refine zaf (hK28 _ _ ?_)
        refine zaa fun K30 hK30 => ?_
        refine zac ?_
        refine zfj zai hc za8 rfl (q := 2) (by kernel_rfl) (by kernel_rfl) fun K31 hK31 => ?_
        refine zav ?_
        refine za1 (hcall) rfl ?_
        refine zav ?_
        refine hK31 _ _ (hK30 _ _ ?_)
        refine za5 hp zai hc rfl fun K32 hK32 => ?_
        refine zav ?_
        refine hK32 _ _ ⟨_, _, _, ?_, ⟨k + 1, by omega, rfl, rfl, rfl⟩, ?_⟩
        · first | omega | (simp only [List.length_cons]; omega) | (dsimp only; omega)
        · refine jn2 [0,1,2,3,4,5,8] ?_
          refine zpd ?_
          refine zww ?_; simp [List.range_succ, iD, nS, exR, inp]
      · have hkk : k = (nth p.regs i).w := by simp at ht; omega
        subst hkk
        have hwid : ((List.range (nth p.regs i).w).map fun j => inp p 1 i j).length = (nth p.regs i).w := by simp
        refine zau (hK23 _ _ ?_)
        refine zbg hp (τ' := frL [(6, .op 3 0), (10, .op 5 0)]) (H' := [.cells (avs (zds p data)), .cells (avs (zcn (zbl p).length T.1)), .cells (avs (exR 16 i 0 [] 0)), .cells [.d (iD 0), .d (.val (.slice none 0 0)), .d (.val (.slice none 0 0))], .cells (avs (T.2.map intsD)), .cells (avs (zcl (zbl p).length (T.1, ((List.range (nth p.regs i).w).map fun j => inp p 1 i j)))), .dead]) ?_ ?_
        · refine Rt.trans (Rt.fz (id := 6) (l := (((List.range (nth p.regs i).w).map fun j => inp p 1 i j).map iD)) rfl) ?_
          refine zpd ?_
          refine zww ?_; simp [za2, hwid, zcl, intsD, avs, iD]
        refine szq hp (fun _ hZ => zav hZ) ?_
        refine zal ?_
        try dsimp only [zbm, zaq]
        refine zak rfl ?_
        refine zjk ?_
        show closeA _ _ = _
        refine zvn ?_
        rw [hres]; simp only [zf1, zcl, zaj, intsD, List.length_map]; first | done | rfl
    · have hres : zci p data gs (.dat i) = (T.1, nth data i) := by rw [hT, hS]; rfl
      have hil : i < data.length := by rw [hda.l hwt.1]; exact hwt.2
      have gd : (data.map intsD)[i]? = some (intsD (nth data i)) := zay (by rw [hda.l hwt.1]; exact hwt.2)
      simp only [zbs, zte, kEx, wEx, List.length_cons, List.length_nil, Nat.zero_add, Nat.reduceAdd]
      have hTl : T.2.length = 0 := ha.ln
      refine zav ?_
      refine hK12 _ _ ?_
      refine zaa fun K34 hK34 => ?_
      refine szq hp (fun _ hZ => zav hZ) ?_
      refine zac ?_
      refine szq hp (fun _ hZ => zav hZ) ?_
      refine szf ?_
      refine szq hp (fun _ hZ => zav hZ) ?_
      refine szf ?_
      refine szq hp (fun _ hZ => zav hZ) ?_
      refine szt ?_
      refine szs hp (fun _ hZ => zd4 gd hZ) (hK34 _ _ ?_)
      refine szq hp (fun _ hZ => zav hZ) ?_
      refine zal ?_
      try dsimp only [zbm, zaq]
      refine zak rfl ?_
      refine zjk ?_
      show closeA _ _ = _
      refine zvn ?_
      rw [hres]; first | done | rfl
    · obtain ⟨X, hX⟩ : ∃ X, X = nth T.2 0 := ⟨_, rfl⟩
      have wX : X.length = zck (ctP p) a := by rw [hX]; exact ha.wid 0 (by simp [zbs])
      have nX : ∀ i, i < X.length → NdB (2 + (zbl p).length) T.1 (nth X i) := fun i hi => by rw [hX]; exact ha.nd 0 (by simp [zbs]) i (by rw [wX] at hi; exact hi)
      have gX : (T.2.map intsD)[0]? = some (intsD X) := by rw [hX]; exact zay (by have := ha.ln; simp [zbs] at this; omega)
      have bX := (zcu hp0.ct (zcp hwt 0 (by simp [zbs]))).2
      simp only [zbs, nth, List.getD_cons_zero, List.getD_cons_succ] at bX
      have hres : zci p data gs (.not a) = zbh (fun gs i => zj7 (2 + (zbl p).length) gs (nth X i)) T.1 X.length := by rw [hX, hT, hS]; rfl
      have c1 := jgt (zbl p).length T.1 X (by omega) (by omega) (by omega) ha.gi nX
      simp only [zbs, zte, kEx, wEx, List.length_cons, List.length_nil, Nat.zero_add, Nat.reduceAdd]
      have hTl : T.2.length = 1 := ha.ln
      refine zav ?_
      refine hK12 _ _ ?_
      refine zaa fun K41 hK41 => ?_
      refine szq hp (fun _ hZ => zav hZ) ?_
      refine zac ?_
      refine szq hp (fun _ hZ => zav hZ) ?_
      refine szf ?_
      refine szq hp (fun _ hZ => zav hZ) ?_
      refine szf ?_
      refine szq hp (fun _ hZ => zav hZ) ?_
      refine szf ?_
      refine szq hp (fun _ hZ => zav hZ) ?_
      refine szt ?_
      refine zas zai hc za8 rfl (q := 0) (by kernel_rfl) (by kernel_rfl) fun K47 hK47 => ?_
      refine zd4 gX ?_
      refine za1 (c1) rfl ?_
      refine zd4 gX ?_
      refine hK47 _ _ ?_
      refine zal ?_
      try dsimp only [zbm, zaq]
      refine zak rfl ?_
      refine zjk ?_
      show closeA _ _ = _
      refine zvn ?_
      rw [hres]; first | done | rfl
    · obtain ⟨X, hX⟩ : ∃ X, X = nth T.2 0 := ⟨_, rfl⟩
      have wX : X.length = zck (ctP p) a := by rw [hX]; exact ha.wid 0 (by simp [zbs])
      have nX : ∀ i, i < X.length → NdB (2 + (zbl p).length) T.1 (nth X i) := fun i hi => by rw [hX]; exact ha.nd 0 (by simp [zbs]) i (by rw [wX] at hi; exact hi)
      have gX : (T.2.map intsD)[0]? = some (intsD X) := by rw [hX]; exact zay (by have := ha.ln; simp [zbs] at this; omega)
      have bX := (zcu hp0.ct (zcp hwt 0 (by simp [zbs]))).2
      simp only [zbs, nth, List.getD_cons_zero, List.getD_cons_succ] at bX
      obtain ⟨Y, hY⟩ : ∃ Y, Y = nth T.2 1 := ⟨_, rfl⟩
      have wY : Y.length = zck (ctP p) b := by rw [hY]; exact ha.wid 1 (by simp [zbs])
      have nY : ∀ i, i < Y.length → NdB (2 + (zbl p).length) T.1 (nth Y i) := fun i hi => by rw [hY]; exact ha.nd 1 (by simp [zbs]) i (by rw [wY] at hi; exact hi)
      have gY : (T.2.map intsD)[1]? = some (intsD Y) := by rw [hY]; exact zay (by have := ha.ln; simp [zbs] at this; omega)
      have bY := (zcu hp0.ct (zcp hwt 1 (by simp [zbs]))).2
      simp only [zbs, nth, List.getD_cons_zero, List.getD_cons_succ] at bY
      obtain ⟨st, hst⟩ : ∃ st : Gs → Nat → Re, st = fun gs i => opB 3 (2 + (zbl p).length) gs (nth X i) (nth Y i) := ⟨_, rfl⟩
      have hres : zci p data gs (.two 3 a b) = zbh st T.1 X.length := by rw [hst, hX, hY, hT, hS]; rfl
      have lXY : Y.length = X.length := by rw [wX, wY]; exact hwt.2.2.2.symm
      have hbs : ∀ k, k ≤ X.length → Bs (2 + (zbl p).length) (1 * k) k T.1 (zbh st T.1 k) := fun k hk => zda ha.gi fun i hi gs' hp hg' => by rw [hst]; exact jj1 (by omega) hg' ((nX i (by omega)).pre hp) ((nY i (by omega)).pre hp)
      simp only [zbs, zte, kEx, wEx, List.length_cons, List.length_nil, Nat.zero_add, Nat.reduceAdd]
      have hTl : T.2.length = 2 := ha.ln
      refine zav ?_
      refine hK12 _ _ ?_
      refine zaa fun K48 hK48 => ?_
      refine szq hp (fun _ hZ => zav hZ) ?_
      refine zac ?_
      refine szq hp (fun _ hZ => zav hZ) ?_
      refine szf ?_
      refine szq hp (fun _ hZ => zav hZ) ?_
      refine szf ?_
      refine szq hp (fun _ hZ => zav hZ) ?_
      refine szf ?_
      refine szq hp (fun _ hZ => zav hZ) ?_
      refine szf ?_
      refine zaa fun K54 hK54 => ?_
      refine szq hp (fun _ hZ => zav hZ) ?_
      refine szt ?_
      refine zaf (hK54 _ _ ?_)
      refine szt ?_
      refine szq hp (fun _ hZ => zvh hZ) ?_
      refine zac ?_
      refine zan hp (fun τ' H' mm => ∃ (k : Nat), (k ≤ X.length) ∧ mm = X.length - k ∧ H' = [.cells (avs (zds p data)), .cells (avs (zcn (zbl p).length T.1)), .cells (avs (exR 3 0 0 ([a, b].flatMap exC) 2)), .cells [.d (iD 0), .d (.val (.slice none 0 0)), .d (.val (.slice none 0 0))], .cells (avs (T.2.map intsD)), .cells [.d (iD (zbl p).length), .d (zaj (zbh st T.1 k).1), .os 1 6 0 k], .cells (avs ((zbh st T.1 k).2.map iD))] ∧ τ' = frL [(3, .op 0 0), (4, .op 1 0), (5, .op 2 0), (6, .op 3 0), (7, .os 1 4 0 2), (10, .op 5 0), (13, .d (iD k))]) (X.length) ?_ ⟨0, Nat.zero_le _, rfl, rfl, rfl⟩ ?_
      · refine Rt.trans (Rt.nilc 5 2 1 rfl rfl) ?_
        refine zpd ?_
        exact jqj
      rintro τ' H' mm ⟨k, hk, rfl, rfl, rfl⟩
      refine zaa fun K57 hK57 => ?_
      refine szq hp (fun _ hZ => zd4 gX hZ) ?_
      refine zah rfl (fun ht => ?_) (fun ht => ?_)
      · have hlt : k < X.length := by simp at ht; omega
        have hb := hbs k hk
        have hlen := hb.len
        have hwid := hb.wid
        have hcall := jgs (zbl p).length (zbh st T.1 k).1 3 (nth X k) (nth Y k) (by omega) (by omega) hb.gi ((nX k hlt).pre hb.pre) ((nY k (by omega)).pre hb.pre)
        rw [show opB 3 (2 + (zbl p).length) (zbh st T.1 k).1 (nth X k) (nth Y k) = st (zbh st T.1 k).1 k by rw [hst]] at hcall
        clear hst
        refine zaf (hK57 _ _ ?_)
        refine zaa fun K59 hK59 => ?_
        refine zac ?_
        refine zas zai hc za8 rfl (q := 1) (by kernel_rfl) (by kernel_rfl) fun K60 hK60 => ?_
        refine zd4 (sza gX gY) ?_
        refine za1 (hcall) rfl ?_
        refine zd4 (sza gX gY) ?_
        refine hK60 _ _ ?_
        refine szq hp (fun _ hZ => zav hZ) ?_
        refine szs hp (fun _ hZ => zav hZ) (hK59 _ _ ?_)
        refine za5 hp zai hc rfl fun K63 hK63 => ?_
        refine zav ?_
        refine hK63 _ _ ⟨_, _, _, ?_, ⟨k + 1, by omega, rfl, rfl, rfl⟩, ?_⟩
        · first | omega | (simp only [List.length_cons]; omega) | (dsimp only; omega)
        · refine jn2 [0,1,2,3,4,5,9] ?_
          refine zpd ?_
          refine zww ?_; simp [zbh, iD, nS, exR]
      · have hkk : k = X.length := by simp at ht; omega
        subst hkk
        have hwid := (hbs _ (Nat.le_refl _)).wid
        refine zau (hK48 _ _ ?_)
        refine zbg hp (τ' := frL [(6, .op 3 0), (10, .op 5 0)]) (H' := [.cells (avs (zds p data)), .cells (avs (zcn (zbl p).length T.1)), .cells (avs (exR 3 0 0 ([a, b].flatMap exC) 2)), .cells [.d (iD 0), .d (.val (.slice none 0 0)), .d (.val (.slice none 0 0))], .cells (avs (T.2.map intsD)), .cells (avs (zcl (zbl p).length (zbh st T.1 X.length))), .dead]) ?_ ?_
        · refine Rt.trans (Rt.fz (id := 6) (l := ((zbh st T.1 X.length).2.map iD)) rfl) ?_
          refine zpd ?_
          refine zww ?_; simp [za2, hwid, zcl, intsD, avs, iD]
        refine szq hp (fun _ hZ => zav hZ) ?_
        refine zal ?_
        try dsimp only [zbm, zaq]
        refine zak rfl ?_
        refine zjk ?_
        show closeA _ _ = _
        refine zvn ?_
        rw [hres]; first | done | rfl
    · obtain ⟨X, hX⟩ : ∃ X, X = nth T.2 0 := ⟨_, rfl⟩
      have wX : X.length = zck (ctP p) a := by rw [hX]; exact ha.wid 0 (by simp [zbs])
      have nX : ∀ i, i < X.length → NdB (2 + (zbl p).length) T.1 (nth X i) := fun i hi => by rw [hX]; exact ha.nd 0 (by simp [zbs]) i (by rw [wX] at hi; exact hi)
      have gX : (T.2.map intsD)[0]? = some (intsD X) := by rw [hX]; exact zay (by have := ha.ln; simp [zbs] at this; omega)
      have bX := (zcu hp0.ct (zcp hwt 0 (by simp [zbs]))).2
      simp only [zbs, nth, List.getD_cons_zero, List.getD_cons_succ] at bX
      obtain ⟨Y, hY⟩ : ∃ Y, Y = nth T.2 1 := ⟨_, rfl⟩
      have wY : Y.length = zck (ctP p) b := by rw [hY]; exact ha.wid 1 (by simp [zbs])
      have nY : ∀ i, i < Y.length → NdB (2 + (zbl p).length) T.1 (nth Y i) := fun i hi => by rw [hY]; exact ha.nd 1 (by simp [zbs]) i (by rw [wY] at hi; exact hi)
      have gY : (T.2.map intsD)[1]? = some (intsD Y) := by rw [hY]; exact zay (by have := ha.ln; simp [zbs] at this; omega)
      have bY := (zcu hp0.ct (zcp hwt 1 (by simp [zbs]))).2
      simp only [zbs, nth, List.getD_cons_zero, List.getD_cons_succ] at bY
      obtain ⟨st, hst⟩ : ∃ st : Gs → Nat → Re, st = fun gs i => opB 4 (2 + (zbl p).length) gs (nth X i) (nth Y i) := ⟨_, rfl⟩
      have hres : zci p data gs (.two 4 a b) = zbh st T.1 X.length := by rw [hst, hX, hY, hT, hS]; rfl
      have lXY : Y.length = X.length := by rw [wX, wY]; exact hwt.2.2.2.symm
      have hbs : ∀ k, k ≤ X.length → Bs (2 + (zbl p).length) (1 * k) k T.1 (zbh st T.1 k) := fun k hk => zda ha.gi fun i hi gs' hp hg' => by rw [hst]; exact jj1 (by omega) hg' ((nX i (by omega)).pre hp) ((nY i (by omega)).pre hp)
      simp only [zbs, zte, kEx, wEx, List.length_cons, List.length_nil, Nat.zero_add, Nat.reduceAdd]
      have hTl : T.2.length = 2 := ha.ln
      refine zav ?_
      refine hK12 _ _ ?_
      refine zaa fun K65 hK65 => ?_
      refine szq hp (fun _ hZ => zav hZ) ?_
      refine zac ?_
      refine szq hp (fun _ hZ => zav hZ) ?_
      refine szf ?_
      refine szq hp (fun _ hZ => zav hZ) ?_
      refine szf ?_
      refine szq hp (fun _ hZ => zav hZ) ?_
      refine szf ?_
      refine szq hp (fun _ hZ => zav hZ) ?_
      refine szf ?_
      refine zaa fun K71 hK71 => ?_
      refine szq hp (fun _ hZ => zav hZ) ?_
      refine szf ?_
      refine szq hp (fun _ hZ => zav hZ) ?_
      refine szt ?_
      refine zaf (hK71 _ _ ?_)
      refine szt ?_
      refine szq hp (fun _ hZ => zvh hZ) ?_
      refine zac ?_
      refine zan hp (fun τ' H' mm => ∃ (k : Nat), (k ≤ X.length) ∧ mm = X.length - k ∧ H' = [.cells (avs (zds p data)), .cells (avs (zcn (zbl p).length T.1)), .cells (avs (exR 4 0 0 ([a, b].flatMap exC) 2)), .cells [.d (iD 0), .d (.val (.slice none 0 0)), .d (.val (.slice none 0 0))], .cells (avs (T.2.map intsD)), .cells [.d (iD (zbl p).length), .d (zaj (zbh st T.1 k).1), .os 1 6 0 k], .cells (avs ((zbh st T.1 k).2.map iD))] ∧ τ' = frL [(3, .op 0 0), (4, .op 1 0), (5, .op 2 0), (6, .op 3 0), (7, .os 1 4 0 2), (10, .op 5 0), (13, .d (iD k))]) (X.length) ?_ ⟨0, Nat.zero_le _, rfl, rfl, rfl⟩ ?_
      · refine Rt.trans (Rt.nilc 5 2 1 rfl rfl) ?_
        refine zpd ?_
        exact jqj
      rintro τ' H' mm ⟨k, hk, rfl, rfl, rfl⟩
      refine zaa fun K75 hK75 => ?_
      refine szq hp (fun _ hZ => zd4 gX hZ) ?_
      refine zah rfl (fun ht => ?_) (fun ht => ?_)
      · have hlt : k < X.length := by simp at ht; omega
        have hb := hbs k hk
        have hlen := hb.len
        have hwid := hb.wid
        have hcall := jgs (zbl p).length (zbh st T.1 k).1 4 (nth X k) (nth Y k) (by omega) (by omega) hb.gi ((nX k hlt).pre hb.pre) ((nY k (by omega)).pre hb.pre)
        rw [show opB 4 (2 + (zbl p).length) (zbh st T.1 k).1 (nth X k) (nth Y k) = st (zbh st T.1 k).1 k by rw [hst]] at hcall
        clear hst
        refine zaf (hK75 _ _ ?_)
        refine zaa fun K77 hK77 => ?_
        refine zac ?_
        refine zas zai hc za8 rfl (q := 1) (by kernel_rfl) (by kernel_rfl) fun K78 hK78 => ?_
        refine zd4 (sza gX gY) ?_
        refine za1 (hcall) rfl ?_
        refine zd4 (sza gX gY) ?_
        refine hK78 _ _ ?_
        refine szq hp (fun _ hZ => zav hZ) ?_
        refine szs hp (fun _ hZ => zav hZ) (hK77 _ _ ?_)
        refine za5 hp zai hc rfl fun K81 hK81 => ?_
        refine zav ?_
        refine hK81 _ _ ⟨_, _, _, ?_, ⟨k + 1, by omega, rfl, rfl, rfl⟩, ?_⟩
        · first | omega | (simp only [List.length_cons]; omega) | (dsimp only; omega)
        · refine jn2 [0,1,2,3,4,5,9] ?_
          refine zpd ?_
          refine zww ?_; simp [zbh, iD, nS, exR]
      · have hkk : k = X.length := by simp at ht; omega
        subst hkk
        have hwid := (hbs _ (Nat.le_refl _)).wid
        refine zau (hK65 _ _ ?_)
        refine zbg hp (τ' := frL [(6, .op 3 0), (10, .op 5 0)]) (H' := [.cells (avs (zds p data)), .cells (avs (zcn (zbl p).length T.1)), .cells (avs (exR 4 0 0 ([a, b].flatMap exC) 2)), .cells [.d (iD 0), .d (.val (.slice none 0 0)), .d (.val (.slice none 0 0))], .cells (avs (T.2.map intsD)), .cells (avs (zcl (zbl p).length (zbh st T.1 X.length))), .dead]) ?_ ?_
        · refine Rt.trans (Rt.fz (id := 6) (l := ((zbh st T.1 X.length).2.map iD)) rfl) ?_
          refine zpd ?_
          refine zww ?_; simp [za2, hwid, zcl, intsD, avs, iD]
        refine szq hp (fun _ hZ => zav hZ) ?_
        refine zal ?_
        try dsimp only [zbm, zaq]
        refine zak rfl ?_
        refine zjk ?_
        show closeA _ _ = _
        refine zvn ?_
        rw [hres]; first | done | rfl
    · obtain ⟨X, hX⟩ : ∃ X, X = nth T.2 0 := ⟨_, rfl⟩
      have wX : X.length = zck (ctP p) a := by rw [hX]; exact ha.wid 0 (by simp [zbs])
      have nX : ∀ i, i < X.length → NdB (2 + (zbl p).length) T.1 (nth X i) := fun i hi => by rw [hX]; exact ha.nd 0 (by simp [zbs]) i (by rw [wX] at hi; exact hi)
      have gX : (T.2.map intsD)[0]? = some (intsD X) := by rw [hX]; exact zay (by have := ha.ln; simp [zbs] at this; omega)
      have bX := (zcu hp0.ct (zcp hwt 0 (by simp [zbs]))).2
      simp only [zbs, nth, List.getD_cons_zero, List.getD_cons_succ] at bX
      obtain ⟨Y, hY⟩ : ∃ Y, Y = nth T.2 1 := ⟨_, rfl⟩
      have wY : Y.length = zck (ctP p) b := by rw [hY]; exact ha.wid 1 (by simp [zbs])
      have nY : ∀ i, i < Y.length → NdB (2 + (zbl p).length) T.1 (nth Y i) := fun i hi => by rw [hY]; exact ha.nd 1 (by simp [zbs]) i (by rw [wY] at hi; exact hi)
      have gY : (T.2.map intsD)[1]? = some (intsD Y) := by rw [hY]; exact zay (by have := ha.ln; simp [zbs] at this; omega)
      have bY := (zcu hp0.ct (zcp hwt 1 (by simp [zbs]))).2
      simp only [zbs, nth, List.getD_cons_zero, List.getD_cons_succ] at bY
      obtain ⟨st, hst⟩ : ∃ st : Gs → Nat → Re, st = fun gs i => opB 5 (2 + (zbl p).length) gs (nth X i) (nth Y i) := ⟨_, rfl⟩
      have hres : zci p data gs (.two 5 a b) = zbh st T.1 X.length := by rw [hst, hX, hY, hT, hS]; rfl
      have lXY : Y.length = X.length := by rw [wX, wY]; exact hwt.2.2.2.symm
      have hbs : ∀ k, k ≤ X.length → Bs (2 + (zbl p).length) (1 * k) k T.1 (zbh st T.1 k) := fun k hk => zda ha.gi fun i hi gs' hp hg' => by rw [hst]; exact jj1 (by omega) hg' ((nX i (by omega)).pre hp) ((nY i (by omega)).pre hp)
      simp only [zbs, zte, kEx, wEx, List.length_cons, List.length_nil, Nat.zero_add, Nat.reduceAdd]
      have hTl : T.2.length = 2 := ha.ln
      refine zav ?_
      refine hK12 _ _ ?_
      refine zaa fun K83 hK83 => ?_
      refine szq hp (fun _ hZ => zav hZ) ?_
      refine zac ?_
      refine szq hp (fun _ hZ => zav hZ) ?_
      refine szf ?_
      refine szq hp (fun _ hZ => zav hZ) ?_
      refine szf ?_
      refine szq hp (fun _ hZ => zav hZ) ?_
      refine szf ?_
      refine szq hp (fun _ hZ => zav hZ) ?_
      refine szf ?_
      refine zaa fun K89 hK89 => ?_
      refine szq hp (fun _ hZ => zav hZ) ?_
      refine szf ?_
      refine szq hp (fun _ hZ => zav hZ) ?_
      refine szf ?_
      refine szs hp (fun _ hZ => zav hZ) (hK89 _ _ ?_)
      refine szt ?_
      refine szq hp (fun _ hZ => zvh hZ) ?_
      refine zac ?_
      refine zan hp (fun τ' H' mm => ∃ (k : Nat), (k ≤ X.length) ∧ mm = X.length - k ∧ H' = [.cells (avs (zds p data)), .cells (avs (zcn (zbl p).length T.1)), .cells (avs (exR 5 0 0 ([a, b].flatMap exC) 2)), .cells [.d (iD 0), .d (.val (.slice none 0 0)), .d (.val (.slice none 0 0))], .cells (avs (T.2.map intsD)), .cells [.d (iD (zbl p).length), .d (zaj (zbh st T.1 k).1), .os 1 6 0 k], .cells (avs ((zbh st T.1 k).2.map iD))] ∧ τ' = frL [(3, .op 0 0), (4, .op 1 0), (5, .op 2 0), (6, .op 3 0), (7, .os 1 4 0 2), (10, .op 5 0), (13, .d (iD k))]) (X.length) ?_ ⟨0, Nat.zero_le _, rfl, rfl, rfl⟩ ?_
      · refine Rt.trans (Rt.nilc 5 2 1 rfl rfl) ?_
        refine zpd ?_
        exact jqj
      rintro τ' H' mm ⟨k, hk, rfl, rfl, rfl⟩
      refine zaa fun K94 hK94 => ?_
      refine szq hp (fun _ hZ => zd4 gX hZ) ?_
      refine zah rfl (fun ht => ?_) (fun ht => ?_)
      · have hlt : k < X.length := by simp at ht; omega
        have hb := hbs k hk
        have hlen := hb.len
        have hwid := hb.wid
        have hcall := jgs (zbl p).length (zbh st T.1 k).1 5 (nth X k) (nth Y k) (by omega) (by omega) hb.gi ((nX k hlt).pre hb.pre) ((nY k (by omega)).pre hb.pre)
        rw [show opB 5 (2 + (zbl p).length) (zbh st T.1 k).1 (nth X k) (nth Y k) = st (zbh st T.1 k).1 k by rw [hst]] at hcall
        clear hst
        refine zaf (hK94 _ _ ?_)
        refine zaa fun K96 hK96 => ?_
        refine zac ?_
        refine zas zai hc za8 rfl (q := 1) (by kernel_rfl) (by kernel_rfl) fun K97 hK97 => ?_
        refine zd4 (sza gX gY) ?_
        refine za1 (hcall) rfl ?_
        refine zd4 (sza gX gY) ?_
        refine hK97 _ _ ?_
        refine szq hp (fun _ hZ => zav hZ) ?_
        refine szs hp (fun _ hZ => zav hZ) (hK96 _ _ ?_)
        refine za5 hp zai hc rfl fun K100 hK100 => ?_
        refine zav ?_
        refine hK100 _ _ ⟨_, _, _, ?_, ⟨k + 1, by omega, rfl, rfl, rfl⟩, ?_⟩
        · first | omega | (simp only [List.length_cons]; omega) | (dsimp only; omega)
        · refine jn2 [0,1,2,3,4,5,9] ?_
          refine zpd ?_
          refine zww ?_; simp [zbh, iD, nS, exR]
      · have hkk : k = X.length := by simp at ht; omega
        subst hkk
        have hwid := (hbs _ (Nat.le_refl _)).wid
        refine zau (hK83 _ _ ?_)
        refine zbg hp (τ' := frL [(6, .op 3 0), (10, .op 5 0)]) (H' := [.cells (avs (zds p data)), .cells (avs (zcn (zbl p).length T.1)), .cells (avs (exR 5 0 0 ([a, b].flatMap exC) 2)), .cells [.d (iD 0), .d (.val (.slice none 0 0)), .d (.val (.slice none 0 0))], .cells (avs (T.2.map intsD)), .cells (avs (zcl (zbl p).length (zbh st T.1 X.length))), .dead]) ?_ ?_
        · refine Rt.trans (Rt.fz (id := 6) (l := ((zbh st T.1 X.length).2.map iD)) rfl) ?_
          refine zpd ?_
          refine zww ?_; simp [za2, hwid, zcl, intsD, avs, iD]
        refine szq hp (fun _ hZ => zav hZ) ?_
        refine zal ?_
        try dsimp only [zbm, zaq]
        refine zak rfl ?_
        refine zjk ?_
        show closeA _ _ = _
        refine zvn ?_
        rw [hres]; first | done | rfl
    · obtain ⟨X, hX⟩ : ∃ X, X = nth T.2 0 := ⟨_, rfl⟩
      have wX : X.length = zck (ctP p) a := by rw [hX]; exact ha.wid 0 (by simp [zbs])
      have nX : ∀ i, i < X.length → NdB (2 + (zbl p).length) T.1 (nth X i) := fun i hi => by rw [hX]; exact ha.nd 0 (by simp [zbs]) i (by rw [wX] at hi; exact hi)
      have gX : (T.2.map intsD)[0]? = some (intsD X) := by rw [hX]; exact zay (by have := ha.ln; simp [zbs] at this; omega)
      have bX := (zcu hp0.ct (zcp hwt 0 (by simp [zbs]))).2
      simp only [zbs, nth, List.getD_cons_zero, List.getD_cons_succ] at bX
      obtain ⟨Y, hY⟩ : ∃ Y, Y = nth T.2 1 := ⟨_, rfl⟩
      have wY : Y.length = zck (ctP p) b := by rw [hY]; exact ha.wid 1 (by simp [zbs])
      have nY : ∀ i, i < Y.length → NdB (2 + (zbl p).length) T.1 (nth Y i) := fun i hi => by rw [hY]; exact ha.nd 1 (by simp [zbs]) i (by rw [wY] at hi; exact hi)
      have gY : (T.2.map intsD)[1]? = some (intsD Y) := by rw [hY]; exact zay (by have := ha.ln; simp [zbs] at this; omega)
      have bY := (zcu hp0.ct (zcp hwt 1 (by simp [zbs]))).2
      simp only [zbs, nth, List.getD_cons_zero, List.getD_cons_succ] at bY
      have hres : zci p data gs (.add a b) = ((zm1 (2 + (zbl p).length) T.1 X Y 0 X.length).gs, (zm1 (2 + (zbl p).length) T.1 X Y 0 X.length).l) := by rw [hX, hY, hT, hS]; rfl
      have c1 := jns (zbl p).length T.1 X Y 0 (by omega) (by omega) (by omega) (by rw [wX, wY]; exact hwt.2.2.symm) ha.gi nX (fun i hi => nY i (by rw [wY, ← hwt.2.2, ← wX]; exact hi)) ⟨by decide, by omega⟩
      simp only [zbs, zte, kEx, wEx, List.length_cons, List.length_nil, Nat.zero_add, Nat.reduceAdd]
      have hTl : T.2.length = 2 := ha.ln
      refine zav ?_
      refine hK12 _ _ ?_
      refine zaa fun K102 hK102 => ?_
      refine szq hp (fun _ hZ => zav hZ) ?_
      refine zac ?_
      refine szq hp (fun _ hZ => zav hZ) ?_
      refine szf ?_
      refine szq hp (fun _ hZ => zav hZ) ?_
      refine szf ?_
      refine szq hp (fun _ hZ => zav hZ) ?_
      refine szf ?_
      refine szq hp (fun _ hZ => zav hZ) ?_
      refine szf ?_
      refine zaa fun K108 hK108 => ?_
      refine szq hp (fun _ hZ => zav hZ) ?_
      refine szf ?_
      refine szq hp (fun _ hZ => zav hZ) ?_
      refine szf ?_
      refine szs hp (fun _ hZ => zav hZ) (hK108 _ _ ?_)
      refine szf ?_
      refine szq hp (fun _ hZ => zav hZ) ?_
      refine szt ?_
      refine zas zai hc za8 rfl (q := 0) (by kernel_rfl) (by kernel_rfl) fun K113 hK113 => ?_
      refine zd4 (sza gX gY) ?_
      refine za1 (c1) rfl ?_
      refine zd4 (sza gX gY) ?_
      refine hK113 _ _ ?_
      refine zal ?_
      try dsimp only [zbm, zaq]
      refine zak rfl ?_
      refine zjk ?_
      show closeA _ _ = _
      refine zvn ?_
      rw [hres]; first | done | rfl
    · obtain ⟨X, hX⟩ : ∃ X, X = nth T.2 0 := ⟨_, rfl⟩
      have wX : X.length = zck (ctP p) a := by rw [hX]; exact ha.wid 0 (by simp [zbs])
      have nX : ∀ i, i < X.length → NdB (2 + (zbl p).length) T.1 (nth X i) := fun i hi => by rw [hX]; exact ha.nd 0 (by simp [zbs]) i (by rw [wX] at hi; exact hi)
      have gX : (T.2.map intsD)[0]? = some (intsD X) := by rw [hX]; exact zay (by have := ha.ln; simp [zbs] at this; omega)
      have bX := (zcu hp0.ct (zcp hwt 0 (by simp [zbs]))).2
      simp only [zbs, nth, List.getD_cons_zero, List.getD_cons_succ] at bX
      obtain ⟨Y, hY⟩ : ∃ Y, Y = nth T.2 1 := ⟨_, rfl⟩
      have wY : Y.length = zck (ctP p) b := by rw [hY]; exact ha.wid 1 (by simp [zbs])
      have nY : ∀ i, i < Y.length → NdB (2 + (zbl p).length) T.1 (nth Y i) := fun i hi => by rw [hY]; exact ha.nd 1 (by simp [zbs]) i (by rw [wY] at hi; exact hi)
      have gY : (T.2.map intsD)[1]? = some (intsD Y) := by rw [hY]; exact zay (by have := ha.ln; simp [zbs] at this; omega)
      have bY := (zcu hp0.ct (zcp hwt 1 (by simp [zbs]))).2
      simp only [zbs, nth, List.getD_cons_zero, List.getD_cons_succ] at bY
      obtain ⟨N, hN⟩ : ∃ N, N = zbh (fun gs i => zj7 (2 + (zbl p).length) gs (nth Y i)) T.1 Y.length := ⟨_, rfl⟩
      have hres : zci p data gs (.sub a b) = ((zm1 (2 + (zbl p).length) N.1 X N.2 1 X.length).gs, (zm1 (2 + (zbl p).length) N.1 X N.2 1 X.length).l) := by rw [hN, hX, hY, hT, hS]; rfl
      have hbN : Bs (2 + (zbl p).length) (1 * Y.length) Y.length T.1 N := by rw [hN]; exact zda ha.gi fun i hi gs' hp hg' => zfz (by omega) hg' ((nY i hi).pre hp)
      have c1 := jgt (zbl p).length T.1 Y (by omega) (by omega) (by omega) ha.gi nY
      rw [← hN] at c1
      have lN := hbN.len
      have lXY : Y.length = X.length := by rw [wX, wY]; exact hwt.2.2.symm
      have c2 := jns (zbl p).length N.1 X N.2 1 (by omega) (by omega) (by omega) (by rw [hbN.wid]; exact lXY) hbN.gi (fun i hi => (nX i hi).pre hbN.pre) (fun i hi => hbN.nd i (by omega)) ⟨by decide, by omega⟩
      clear hN
      simp only [zbs, zte, kEx, wEx, List.length_cons, List.length_nil, Nat.zero_add, Nat.reduceAdd]
      have hTl : T.2.length = 2 := ha.ln
      refine zav ?_
      refine hK12 _ _ ?_
      refine zaa fun K114 hK114 => ?_
      refine szq hp (fun _ hZ => zav hZ) ?_
      refine zac ?_
      refine szq hp (fun _ hZ => zav hZ) ?_
      refine szf ?_
      refine szq hp (fun _ hZ => zav hZ) ?_
      refine szf ?_
      refine szq hp (fun _ hZ => zav hZ) ?_
      refine szf ?_
      refine szq hp (fun _ hZ => zav hZ) ?_
      refine szf ?_
      refine zaa fun K120 hK120 => ?_
      refine szq hp (fun _ hZ => zav hZ) ?_
      refine szf ?_
      refine szq hp (fun _ hZ => zav hZ) ?_
      refine szf ?_
      refine szs hp (fun _ hZ => zav hZ) (hK120 _ _ ?_)
      refine szf ?_
      refine szq hp (fun _ hZ => zav hZ) ?_
      refine szf ?_
      refine szq hp (fun _ hZ => zav hZ) ?_
      refine szt ?_
      refine zas zai hc za8 rfl (q := 1) (by kernel_rfl) (by kernel_rfl) fun K126 hK126 => ?_
      refine zd4 gY ?_
      refine za1 (c1) rfl ?_
      refine zd4 gY ?_
      refine hK126 _ _ ?_
      refine zas zai hc za8 rfl (q := 0) (by kernel_rfl) (by kernel_rfl) fun K127 hK127 => ?_
      refine zd4 gX ?_
      refine za1 (c2) rfl ?_
      refine zd4 gX ?_
      refine hK127 _ _ ?_
      refine zal ?_
      try dsimp only [zbm, zaq]
      refine zak rfl ?_
      refine zjk ?_
      show closeA _ _ = _
      refine zvn ?_
      rw [hres]; first | done | rfl
    · obtain ⟨X, hX⟩ : ∃ X, X = nth T.2 0 := ⟨_, rfl⟩
      have wX : X.length = zck (ctP p) a := by rw [hX]; exact ha.wid 0 (by simp [zbs])
      have nX : ∀ i, i < X.length → NdB (2 + (zbl p).length) T.1 (nth X i) := fun i hi => by rw [hX]; exact ha.nd 0 (by simp [zbs]) i (by rw [wX] at hi; exact hi)
      have gX : (T.2.map intsD)[0]? = some (intsD X) := by rw [hX]; exact zay (by have := ha.ln; simp [zbs] at this; omega)
      have bX := (zcu hp0.ct (zcp hwt 0 (by simp [zbs]))).2
      simp only [zbs, nth, List.getD_cons_zero, List.getD_cons_succ] at bX
      obtain ⟨Y, hY⟩ : ∃ Y, Y = nth T.2 1 := ⟨_, rfl⟩
      have wY : Y.length = zck (ctP p) b := by rw [hY]; exact ha.wid 1 (by simp [zbs])
      have nY : ∀ i, i < Y.length → NdB (2 + (zbl p).length) T.1 (nth Y i) := fun i hi => by rw [hY]; exact ha.nd 1 (by simp [zbs]) i (by rw [wY] at hi; exact hi)
      have gY : (T.2.map intsD)[1]? = some (intsD Y) := by rw [hY]; exact zay (by have := ha.ln; simp [zbs] at this; omega)
      have bY := (zcu hp0.ct (zcp hwt 1 (by simp [zbs]))).2
      simp only [zbs, nth, List.getD_cons_zero, List.getD_cons_succ] at bY
      have hres : zci p data gs (.eq a b) = ((ztc (2 + (zbl p).length) T.1 X Y X.length).1, [(ztc (2 + (zbl p).length) T.1 X Y X.length).2]) := by rw [hX, hY, hT, hS]; rfl
      have c1 := jwf (zbl p).length T.1 X Y (by omega) (by omega) (by omega) (by rw [wX, wY]; exact hwt.2.2.symm) ha.gi nX (fun i hi => nY i (by rw [wY, ← hwt.2.2, ← wX]; exact hi))
      simp only [zbs, zte, kEx, wEx, List.length_cons, List.length_nil, Nat.zero_add, Nat.reduceAdd]
      have hTl : T.2.length = 2 := ha.ln
      refine zav ?_
      refine hK12 _ _ ?_
      refine zaa fun K128 hK128 => ?_
      refine szq hp (fun _ hZ => zav hZ) ?_
      refine zac ?_
      refine szq hp (fun _ hZ => zav hZ) ?_
      refine szf ?_
      refine szq hp (fun _ hZ => zav hZ) ?_
      refine szf ?_
      refine szq hp (fun _ hZ => zav hZ) ?_
      refine szf ?_
      refine szq hp (fun _ hZ => zav hZ) ?_
      refine szf ?_
      refine zaa fun K134 hK134 => ?_
      refine szq hp (fun _ hZ => zav hZ) ?_
      refine szf ?_
      refine szq hp (fun _ hZ => zav hZ) ?_
      refine szf ?_
      refine szs hp (fun _ hZ => zav hZ) (hK134 _ _ ?_)
      refine szf ?_
      refine szq hp (fun _ hZ => zav hZ) ?_
      refine szf ?_
      refine szq hp (fun _ hZ => zav hZ) ?_
      refine szf ?_
      refine szq hp (fun _ hZ => zav hZ) ?_
      refine szt ?_
      refine zas zai hc za8 rfl (q := 0) (by kernel_rfl) (by kernel_rfl) fun K141 hK141 => ?_
      refine zd4 (sza gX gY) ?_
      refine za1 (c1) rfl ?_
      refine zd4 (sza gX gY) ?_
      refine hK141 _ _ ?_
      refine zal ?_
      try dsimp only [zbm, zaq]
      refine zak rfl ?_
      refine zjk ?_
      show closeA _ _ = _
      refine zvn ?_
      rw [hres]; first | done | rfl
    · obtain ⟨X, hX⟩ : ∃ X, X = nth T.2 0 := ⟨_, rfl⟩
      have wX : X.length = zck (ctP p) a := by rw [hX]; exact ha.wid 0 (by simp [zbs])
      have nX : ∀ i, i < X.length → NdB (2 + (zbl p).length) T.1 (nth X i) := fun i hi => by rw [hX]; exact ha.nd 0 (by simp [zbs]) i (by rw [wX] at hi; exact hi)
      have gX : (T.2.map intsD)[0]? = some (intsD X) := by rw [hX]; exact zay (by have := ha.ln; simp [zbs] at this; omega)
      have bX := (zcu hp0.ct (zcp hwt 0 (by simp [zbs]))).2
      simp only [zbs, nth, List.getD_cons_zero, List.getD_cons_succ] at bX
      obtain ⟨Y, hY⟩ : ∃ Y, Y = nth T.2 1 := ⟨_, rfl⟩
      have wY : Y.length = zck (ctP p) b := by rw [hY]; exact ha.wid 1 (by simp [zbs])
      have nY : ∀ i, i < Y.length → NdB (2 + (zbl p).length) T.1 (nth Y i) := fun i hi => by rw [hY]; exact ha.nd 1 (by simp [zbs]) i (by rw [wY] at hi; exact hi)
      have gY : (T.2.map intsD)[1]? = some (intsD Y) := by rw [hY]; exact zay (by have := ha.ln; simp [zbs] at this; omega)
      have bY := (zcu hp0.ct (zcp hwt 1 (by simp [zbs]))).2
      simp only [zbs, nth, List.getD_cons_zero, List.getD_cons_succ] at bY
      have hres : zci p data gs (.lt a b) = ((zj7 (2 + (zbl p).length) (ltB (2 + (zbl p).length) T.1 X Y X.length).1 (ltB (2 + (zbl p).length) T.1 X Y X.length).2).1, [(zj7 (2 + (zbl p).length) (ltB (2 + (zbl p).length) T.1 X Y X.length).1 (ltB (2 + (zbl p).length) T.1 X Y X.length).2).2]) := by rw [hX, hY, hT, hS]; rfl
      have c1 := jz3 (zbl p).length T.1 X Y (by omega) (by omega) (by omega) (by rw [wX, wY]; exact hwt.2.2.symm) ha.gi nX (fun i hi => nY i (by rw [wY, ← hwt.2.2, ← wX]; exact hi))
      simp only [zbs, zte, kEx, wEx, List.length_cons, List.length_nil, Nat.zero_add, Nat.reduceAdd]
      have hTl : T.2.length = 2 := ha.ln
      refine zav ?_
      refine hK12 _ _ ?_
      refine zaa fun K142 hK142 => ?_
      refine szq hp (fun _ hZ => zav hZ) ?_
      refine zac ?_
      refine szq hp (fun _ hZ => zav hZ) ?_
      refine szf ?_
      refine szq hp (fun _ hZ => zav hZ) ?_
      refine szf ?_
      refine szq hp (fun _ hZ => zav hZ) ?_
      refine szf ?_
      refine szq hp (fun _ hZ => zav hZ) ?_
      refine szf ?_
      refine zaa fun K148 hK148 => ?_
      refine szq hp (fun _ hZ => zav hZ) ?_
      refine szf ?_
      refine szq hp (fun _ hZ => zav hZ) ?_
      refine szf ?_
      refine szs hp (fun _ hZ => zav hZ) (hK148 _ _ ?_)
      refine szf ?_
      refine szq hp (fun _ hZ => zav hZ) ?_
      refine szf ?_
      refine szq hp (fun _ hZ => zav hZ) ?_
      refine szf ?_
      refine szq hp (fun _ hZ => zav hZ) ?_
      refine szf ?_
      refine szq hp (fun _ hZ => zav hZ) ?_
      refine szt ?_
      refine zas zai hc za8 rfl (q := 0) (by kernel_rfl) (by kernel_rfl) fun K156 hK156 => ?_
      refine zd4 (sza gX gY) ?_
      refine za1 (c1) rfl ?_
      refine zd4 (sza gX gY) ?_
      refine hK156 _ _ ?_
      refine zal ?_
      try dsimp only [zbm, zaq]
      refine zak rfl ?_
      refine zjk ?_
      show closeA _ _ = _
      refine zvn ?_
      rw [hres]; first | done | rfl
    · obtain ⟨X, hX⟩ : ∃ X, X = nth T.2 0 := ⟨_, rfl⟩
      have wX : X.length = zck (ctP p) a := by rw [hX]; exact ha.wid 0 (by simp [zbs])
      have nX : ∀ i, i < X.length → NdB (2 + (zbl p).length) T.1 (nth X i) := fun i hi => by rw [hX]; exact ha.nd 0 (by simp [zbs]) i (by rw [wX] at hi; exact hi)
      have gX : (T.2.map intsD)[0]? = some (intsD X) := by rw [hX]; exact zay (by have := ha.ln; simp [zbs] at this; omega)
      have bX := (zcu hp0.ct (zcp hwt 0 (by simp [zbs]))).2
      simp only [zbs, nth, List.getD_cons_zero, List.getD_cons_succ] at bX
      obtain ⟨Y, hY⟩ : ∃ Y, Y = nth T.2 1 := ⟨_, rfl⟩
      have wY : Y.length = zck (ctP p) b := by rw [hY]; exact ha.wid 1 (by simp [zbs])
      have nY : ∀ i, i < Y.length → NdB (2 + (zbl p).length) T.1 (nth Y i) := fun i hi => by rw [hY]; exact ha.nd 1 (by simp [zbs]) i (by rw [wY] at hi; exact hi)
      have gY : (T.2.map intsD)[1]? = some (intsD Y) := by rw [hY]; exact zay (by have := ha.ln; simp [zbs] at this; omega)
      have bY := (zcu hp0.ct (zcp hwt 1 (by simp [zbs]))).2
      simp only [zbs, nth, List.getD_cons_zero, List.getD_cons_succ] at bY
      obtain ⟨Z, hZ⟩ : ∃ Z, Z = nth T.2 2 := ⟨_, rfl⟩
      have wZ : Z.length = zck (ctP p) d := by rw [hZ]; exact ha.wid 2 (by simp [zbs])
      have nZ : ∀ i, i < Z.length → NdB (2 + (zbl p).length) T.1 (nth Z i) := fun i hi => by rw [hZ]; exact ha.nd 2 (by simp [zbs]) i (by rw [wZ] at hi; exact hi)
      have gZ : (T.2.map intsD)[2]? = some (intsD Z) := by rw [hZ]; exact zay (by have := ha.ln; simp [zbs] at this; omega)
      have bZ := (zcu hp0.ct (zcp hwt 2 (by simp [zbs]))).2
      simp only [zbs, nth, List.getD_cons_zero, List.getD_cons_succ] at bZ
      obtain ⟨st, hst⟩ : ∃ st : Gs → Nat → Re, st = fun gs i => ztb (2 + (zbl p).length) gs (nth X 0) (nth Y i) (nth Z i) := ⟨_, rfl⟩
      have hres : zci p data gs (.mux a b d) = zbh st T.1 Y.length := by rw [hst, hX, hY, hZ, hT, hS]; rfl
      have w1 : X.length = 1 := by rw [wX]; exact hwt.2.2.2.1
      have lYZ : Z.length = Y.length := by rw [wY, wZ]; exact hwt.2.2.2.2.symm
      have hbs : ∀ k, k ≤ Y.length → Bs (2 + (zbl p).length) (2 * k) k T.1 (zbh st T.1 k) := fun k hk => zda ha.gi fun i hi gs' hp hg' => by rw [hst]; exact jaf (by omega) hg' ((nX 0 (by omega)).pre hp) ((nY i (by omega)).pre hp) ((nZ i (by omega)).pre hp)
      simp only [zbs, zte, kEx, wEx, List.length_cons, List.length_nil, Nat.zero_add, Nat.reduceAdd]
      have hTl : T.2.length = 3 := ha.ln
      refine zav ?_
      refine hK12 _ _ ?_
      refine zaa fun K157 hK157 => ?_
      refine szq hp (fun _ hZ => zav hZ) ?_
      refine zac ?_
      refine szq hp (fun _ hZ => zav hZ) ?_
      refine szf ?_
      refine szq hp (fun _ hZ => zav hZ) ?_
      refine szf ?_
      refine szq hp (fun _ hZ => zav hZ) ?_
      refine szf ?_
      refine szq hp (fun _ hZ => zav hZ) ?_
      refine szf ?_
      refine zaa fun K163 hK163 => ?_
      refine szq hp (fun _ hZ => zav hZ) ?_
      refine szf ?_
      refine szq hp (fun _ hZ => zav hZ) ?_
      refine szf ?_
      refine szs hp (fun _ hZ => zav hZ) (hK163 _ _ ?_)
      refine szf ?_
      refine szq hp (fun _ hZ => zav hZ) ?_
      refine szf ?_
      refine szq hp (fun _ hZ => zav hZ) ?_
      refine szf ?_
      refine szq hp (fun _ hZ => zav hZ) ?_
      refine szf ?_
      refine szq hp (fun _ hZ => zav hZ) ?_
      refine szf ?_
      refine szq hp (fun _ hZ => zav hZ) ?_
      refine szt ?_
      refine szq hp (fun _ hZ => zvh hZ) ?_
      refine zac ?_
      refine zan hp (fun τ' H' mm => ∃ (k : Nat), (k ≤ Y.length) ∧ mm = Y.length - k ∧ H' = [.cells (avs (zds p data)), .cells (avs (zcn (zbl p).length T.1)), .cells (avs (exR 10 0 0 ([a, b, d].flatMap exC) 3)), .cells [.d (iD 0), .d (.val (.slice none 0 0)), .d (.val (.slice none 0 0))], .cells (avs (T.2.map intsD)), .cells [.d (iD (zbl p).length), .d (zaj (zbh st T.1 k).1), .os 1 6 0 k], .cells (avs ((zbh st T.1 k).2.map iD))] ∧ τ' = frL [(3, .op 0 0), (4, .op 1 0), (5, .op 2 0), (6, .op 3 0), (7, .os 1 4 0 3), (10, .op 5 0), (16, .d (iD k))]) (Y.length) ?_ ⟨0, Nat.zero_le _, rfl, rfl, rfl⟩ ?_
      · refine Rt.trans (Rt.nilc 5 2 1 rfl rfl) ?_
        refine zpd ?_
        exact jqj
      rintro τ' H' mm ⟨k, hk, rfl, rfl, rfl⟩
      refine zaa fun K173 hK173 => ?_
      refine szq hp (fun _ hZ => zd4 gY hZ) ?_
      refine zah rfl (fun ht => ?_) (fun ht => ?_)
      · have hlt : k < Y.length := by simp at ht; omega
        have hb := hbs k hk
        have hlen := hb.len
        have hwid := hb.wid
        have hcall := jno (zbl p).length (zbh st T.1 k).1 (nth X 0) (nth Y k) (nth Z k) (by omega) (by omega) hb.gi ((nX 0 (by omega)).pre hb.pre) ((nY k hlt).pre hb.pre) ((nZ k (by omega)).pre hb.pre)
        rw [show ztb (2 + (zbl p).length) (zbh st T.1 k).1 (nth X 0) (nth Y k) (nth Z k) = st (zbh st T.1 k).1 k by rw [hst]] at hcall
        clear hst
        refine zaf (hK173 _ _ ?_)
        refine zaa fun K175 hK175 => ?_
        refine zac ?_
        refine zas zai hc za8 rfl (q := 1) (by kernel_rfl) (by kernel_rfl) fun K176 hK176 => ?_
        refine zd4 (sza gX (sza gY gZ)) ?_
        refine za1 (hcall) rfl ?_
        refine zd4 (sza gX (sza gY gZ)) ?_
        refine hK176 _ _ ?_
        refine szq hp (fun _ hZ => zav hZ) ?_
        refine szs hp (fun _ hZ => zav hZ) (hK175 _ _ ?_)
        refine za5 hp zai hc rfl fun K179 hK179 => ?_
        refine zav ?_
        refine hK179 _ _ ⟨_, _, _, ?_, ⟨k + 1, by omega, rfl, rfl, rfl⟩, ?_⟩
        · first | omega | (simp only [List.length_cons]; omega) | (dsimp only; omega)
        · refine jn2 [0,1,2,3,4,5,9] ?_
          refine zpd ?_
          refine zww ?_; simp [zbh, iD, nS, exR]
      · have hkk : k = Y.length := by simp at ht; omega
        subst hkk
        have hwid := (hbs _ (Nat.le_refl _)).wid
        refine zau (hK157 _ _ ?_)
        refine zbg hp (τ' := frL [(6, .op 3 0), (10, .op 5 0)]) (H' := [.cells (avs (zds p data)), .cells (avs (zcn (zbl p).length T.1)), .cells (avs (exR 10 0 0 ([a, b, d].flatMap exC) 3)), .cells [.d (iD 0), .d (.val (.slice none 0 0)), .d (.val (.slice none 0 0))], .cells (avs (T.2.map intsD)), .cells (avs (zcl (zbl p).length ((zbh st T.1 Y.length).1, (zbh st T.1 Y.length).2))), .dead]) ?_ ?_
        · refine Rt.trans (Rt.fz (id := 6) (l := ((zbh st T.1 Y.length).2.map iD)) rfl) ?_
          refine zpd ?_
          refine zww ?_; simp [za2, hwid, zcl, intsD, avs, iD]
        refine szq hp (fun _ hZ => zav hZ) ?_
        refine zal ?_
        try dsimp only [zbm, zaq]
        refine zak rfl ?_
        refine zjk ?_
        show closeA _ _ = _
        refine zvn ?_
        rw [hres]; first | done | rfl
    · obtain ⟨X, hX⟩ : ∃ X, X = nth T.2 0 := ⟨_, rfl⟩
      have wX : X.length = zck (ctP p) a := by rw [hX]; exact ha.wid 0 (by simp [zbs])
      have nX : ∀ i, i < X.length → NdB (2 + (zbl p).length) T.1 (nth X i) := fun i hi => by rw [hX]; exact ha.nd 0 (by simp [zbs]) i (by rw [wX] at hi; exact hi)
      have gX : (T.2.map intsD)[0]? = some (intsD X) := by rw [hX]; exact zay (by have := ha.ln; simp [zbs] at this; omega)
      have bX := (zcu hp0.ct (zcp hwt 0 (by simp [zbs]))).2
      simp only [zbs, nth, List.getD_cons_zero, List.getD_cons_succ] at bX
      obtain ⟨Y, hY⟩ : ∃ Y, Y = nth T.2 1 := ⟨_, rfl⟩
      have wY : Y.length = zck (ctP p) b := by rw [hY]; exact ha.wid 1 (by simp [zbs])
      have nY : ∀ i, i < Y.length → NdB (2 + (zbl p).length) T.1 (nth Y i) := fun i hi => by rw [hY]; exact ha.nd 1 (by simp [zbs]) i (by rw [wY] at hi; exact hi)
      have gY : (T.2.map intsD)[1]? = some (intsD Y) := by rw [hY]; exact zay (by have := ha.ln; simp [zbs] at this; omega)
      have bY := (zcu hp0.ct (zcp hwt 1 (by simp [zbs]))).2
      simp only [zbs, nth, List.getD_cons_zero, List.getD_cons_succ] at bY
      have hres : zci p data gs (.cat a b) = (T.1, Y ++ X) := by rw [hX, hY, hT, hS]; rfl
      have hw8 := hwt.2.2
      rw [← wX, ← wY] at hw8
      simp only [zbs, zte, kEx, wEx, List.length_cons, List.length_nil, Nat.zero_add, Nat.reduceAdd]
      have hTl : T.2.length = 2 := ha.ln
      refine zav ?_
      refine hK12 _ _ ?_
      refine zaa fun K181 hK181 => ?_
      refine szq hp (fun _ hZ => zav hZ) ?_
      refine zac ?_
      refine szq hp (fun _ hZ => zav hZ) ?_
      refine szf ?_
      refine szq hp (fun _ hZ => zav hZ) ?_
      refine szf ?_
      refine szq hp (fun _ hZ => zav hZ) ?_
      refine szf ?_
      refine szq hp (fun _ hZ => zav hZ) ?_
      refine szf ?_
      refine zaa fun K187 hK187 => ?_
      refine szq hp (fun _ hZ => zav hZ) ?_
      refine szf ?_
      refine szq hp (fun _ hZ => zav hZ) ?_
      refine szf ?_
      refine szs hp (fun _ hZ => zav hZ) (hK187 _ _ ?_)
      refine szf ?_
      refine szq hp (fun _ hZ => zav hZ) ?_
      refine szf ?_
      refine szq hp (fun _ hZ => zav hZ) ?_
      refine szf ?_
      refine szq hp (fun _ hZ => zav hZ) ?_
      refine szf ?_
      refine szq hp (fun _ hZ => zav hZ) ?_
      refine szf ?_
      refine szq hp (fun _ hZ => zav hZ) ?_
      refine szf ?_
      refine szq hp (fun _ hZ => zav hZ) ?_
      refine szt ?_
      refine zfj zai hc za8 rfl (q := 2) (by kernel_rfl) (by kernel_rfl) fun K197 hK197 => ?_
      simp -dsimp -implicitDefEqProofs (disch := first | assumption | omega | (simp only [r_z, zb3] <;> omega) | decide) only [r_r, ↓reduceIte, Nat.reduceEqDiff, Nat.reduceAdd, D.fix, Int.reduceToNat, Nat.reduceMul, Nat.reduceBNe, Nat.reduceBEq, zds, zbp, zao, zcn, zaj, zc0, zc7, zf1, zcl, exS, exR, sD, nS, zky, jcf, zay, intssD, gX, gY, zpb, List.filterMap_cons, jkl]
      refine hK197 _ _ (hK181 _ _ ?_)
      refine szq hp (fun _ hZ => zav hZ) ?_
      refine zal ?_
      try dsimp only [zbm, zaq]
      refine zak rfl ?_
      refine zjk ?_
      show closeA _ _ = _
      refine zvn ?_
      have e5 : (Y.map iD ++ X.map iD).map D.fix = (Y ++ X).map iD := by rw [← List.map_append, List.map_map]; rfl
      rw [hres, e5]; simp only [zf1, zcl, zaj, intsD, List.length_append]; first | done | rfl
    · obtain ⟨X, hX⟩ : ∃ X, X = nth T.2 0 := ⟨_, rfl⟩
      have wX : X.length = zck (ctP p) a := by rw [hX]; exact ha.wid 0 (by simp [zbs])
      have nX : ∀ i, i < X.length → NdB (2 + (zbl p).length) T.1 (nth X i) := fun i hi => by rw [hX]; exact ha.nd 0 (by simp [zbs]) i (by rw [wX] at hi; exact hi)
      have gX : (T.2.map intsD)[0]? = some (intsD X) := by rw [hX]; exact zay (by have := ha.ln; simp [zbs] at this; omega)
      have bX := (zcu hp0.ct (zcp hwt 0 (by simp [zbs]))).2
      simp only [zbs, nth, List.getD_cons_zero, List.getD_cons_succ] at bX
      have hres : zci p data gs (.slc i w a) = (T.1, (X.drop i).take w) := by rw [hX, hT, hS]; rfl
      have hkw := hwt.2.2
      rw [← wX] at hkw
      simp only [zbs, zte, kEx, wEx, List.length_cons, List.length_nil, Nat.zero_add, Nat.reduceAdd]
      have hTl : T.2.length = 1 := ha.ln
      refine zav ?_
      refine hK12 _ _ ?_
      refine zaa fun K199 hK199 => ?_
      refine szq hp (fun _ hZ => zav hZ) ?_
      refine zac ?_
      refine szq hp (fun _ hZ => zav hZ) ?_
      refine szf ?_
      refine szq hp (fun _ hZ => zav hZ) ?_
      refine szf ?_
      refine szq hp (fun _ hZ => zav hZ) ?_
      refine szf ?_
      refine szq hp (fun _ hZ => zav hZ) ?_
      refine szf ?_
      refine zaa fun K205 hK205 => ?_
      refine szq hp (fun _ hZ => zav hZ) ?_
      refine szf ?_
      refine szq hp (fun _ hZ => zav hZ) ?_
      refine szf ?_
      refine szs hp (fun _ hZ => zav hZ) (hK205 _ _ ?_)
      refine szf ?_
      refine szq hp (fun _ hZ => zav hZ) ?_
      refine szf ?_
      refine szq hp (fun _ hZ => zav hZ) ?_
      refine szf ?_
      refine szq hp (fun _ hZ => zav hZ) ?_
      refine szf ?_
      refine szq hp (fun _ hZ => zav hZ) ?_
      refine szf ?_
      refine szq hp (fun _ hZ => zav hZ) ?_
      refine szf ?_
      refine szq hp (fun _ hZ => zav hZ) ?_
      refine szf ?_
      refine szq hp (fun _ hZ => zav hZ) ?_
      refine szt ?_
      refine zfj zai hc za8 rfl (q := 0) (by kernel_rfl) (by kernel_rfl) fun K216 hK216 => ?_
      refine zd4 gX ?_
      refine hK216 _ _ (hK199 _ _ ?_)
      refine szq hp (fun _ hZ => zav hZ) ?_
      refine zal ?_
      try dsimp only [zbm, zaq]
      refine zak rfl ?_
      refine zjk ?_
      show closeA _ _ = _
      refine zvn ?_
      have e4 : ((X.drop i).take w).length = w := by simp; omega
      rw [hres, show ((i : Int) + w - i).toNat = w by omega]; simp only [zf1, zcl, intsD, zaj, e4, List.map_take, List.map_drop]
    · obtain ⟨X, hX⟩ : ∃ X, X = nth T.2 0 := ⟨_, rfl⟩
      have wX : X.length = zck (ctP p) a := by rw [hX]; exact ha.wid 0 (by simp [zbs])
      have nX : ∀ i, i < X.length → NdB (2 + (zbl p).length) T.1 (nth X i) := fun i hi => by rw [hX]; exact ha.nd 0 (by simp [zbs]) i (by rw [wX] at hi; exact hi)
      have gX : (T.2.map intsD)[0]? = some (intsD X) := by rw [hX]; exact zay (by have := ha.ln; simp [zbs] at this; omega)
      have bX := (zcu hp0.ct (zcp hwt 0 (by simp [zbs]))).2
      simp only [zbs, nth, List.getD_cons_zero, List.getD_cons_succ] at bX
      have hres : zci p data gs (.ext w a) = (T.1, X ++ List.replicate (w - X.length) 0) := by rw [hX, hT, hS]; rfl
      have hw8 := hwt.2.2
      have hwx := hwt.2.1
      rw [← wX] at hwx
      simp only [zbs, zte, kEx, wEx, List.length_cons, List.length_nil, Nat.zero_add, Nat.reduceAdd]
      have hTl : T.2.length = 1 := ha.ln
      refine zav ?_
      refine hK12 _ _ ?_
      refine zaa fun K218 hK218 => ?_
      refine szq hp (fun _ hZ => zav hZ) ?_
      refine zac ?_
      refine szq hp (fun _ hZ => zav hZ) ?_
      refine szf ?_
      refine szq hp (fun _ hZ => zav hZ) ?_
      refine szf ?_
      refine szq hp (fun _ hZ => zav hZ) ?_
      refine szf ?_
      refine szq hp (fun _ hZ => zav hZ) ?_
      refine szf ?_
      refine zaa fun K224 hK224 => ?_
      refine szq hp (fun _ hZ => zav hZ) ?_
      refine szf ?_
      refine szq hp (fun _ hZ => zav hZ) ?_
      refine szf ?_
      refine szs hp (fun _ hZ => zav hZ) (hK224 _ _ ?_)
      refine szf ?_
      refine szq hp (fun _ hZ => zav hZ) ?_
      refine szf ?_
      refine szq hp (fun _ hZ => zav hZ) ?_
      refine szf ?_
      refine szq hp (fun _ hZ => zav hZ) ?_
      refine szf ?_
      refine szq hp (fun _ hZ => zav hZ) ?_
      refine szf ?_
      refine szq hp (fun _ hZ => zav hZ) ?_
      refine szf ?_
      refine szq hp (fun _ hZ => zav hZ) ?_
      refine szf ?_
      refine szq hp (fun _ hZ => zav hZ) ?_
      refine szf ?_
      refine szq hp (fun _ hZ => zav hZ) ?_
      refine szt ?_
      refine zfj zai hc za8 rfl (q := 2) (by kernel_rfl) (by kernel_rfl) fun K236 hK236 => ?_
      simp -dsimp -implicitDefEqProofs (disch := first | assumption | omega | (simp only [r_z, zb3] <;> omega) | decide) only [r_r, ↓reduceIte, Nat.reduceEqDiff, Nat.reduceAdd, D.fix, Int.reduceToNat, Nat.reduceMul, Nat.reduceBNe, Nat.reduceBEq, zds, zbp, zao, zcn, zaj, zc0, zc7, zf1, zcl, exS, exR, sD, nS, zky, jcf, zay, intssD, gX, zuk, Option.isSome_some, zpb, List.filterMap_cons, jkl]
      refine hK236 _ _ (hK218 _ _ ?_)
      refine szq hp (fun _ hZ => zav hZ) ?_
      refine zal ?_
      try dsimp only [zbm, zaq]
      refine zak rfl ?_
      refine zjk ?_
      show closeA _ _ = _
      refine zvn ?_
      have e6 : ((w : Int) - X.length).toNat = w - X.length := by omega
      have e5 : (X.map iD ++ List.replicate (w - X.length) (D.val (.int .i64 0))).map D.fix = (X ++ List.replicate (w - X.length) 0).map iD := by rw [List.map_append, List.map_append, List.map_replicate, List.map_replicate, List.map_map]; rfl
      rw [hres, e6, e5]; simp only [zf1, zcl, zaj, intsD, List.length_append, List.length_replicate]; first | done | rfl
    · obtain ⟨X, hX⟩ : ∃ X, X = nth T.2 0 := ⟨_, rfl⟩
      have wX : X.length = zck (ctP p) a := by rw [hX]; exact ha.wid 0 (by simp [zbs])
      have nX : ∀ i, i < X.length → NdB (2 + (zbl p).length) T.1 (nth X i) := fun i hi => by rw [hX]; exact ha.nd 0 (by simp [zbs]) i (by rw [wX] at hi; exact hi)
      have gX : (T.2.map intsD)[0]? = some (intsD X) := by rw [hX]; exact zay (by have := ha.ln; simp [zbs] at this; omega)
      have bX := (zcu hp0.ct (zcp hwt 0 (by simp [zbs]))).2
      simp only [zbs, nth, List.getD_cons_zero, List.getD_cons_succ] at bX
      obtain ⟨ad, had⟩ : ∃ ad, ad = jcd X (nth (ctP p).mems i).1 := ⟨_, rfl⟩
      obtain ⟨st, hst⟩ : ∃ st : Gs → Nat → Re, st = fun gs k => zjg (2 + (zbl p).length) gs ⟨7, nth ad 0, nth ad 1, nth ad 2, ((8 * i + k : Nat) : Int)⟩ := ⟨_, rfl⟩
      have hres : zci p data gs (.rd i a) = zbh st T.1 (nth (ctP p).mems i).2 := by rw [hst, had, hX, hT, hS]; rfl
      have hil : i < p.mems.length := by have := hwt.2; simpa [ctP] using this
      have em : nth (ctP p).mems i = ((nth p.mems i).words, (nth p.mems i).w) := jpt hil
      have hmm := hp0.ct.m i hwt.2
      have hml := hp0.ct.l
      have hi8 := hwt.2
      rw [em] at hmm had hres
      simp only at hmm had hres
      have lad : ad.length = 3 := by rw [had]; exact zj8 _ _
      have hadr := jgx X (nth p.mems i).words (by omega) (by omega)
      rw [← had] at hadr
      have m1 := yc1 hil; have m2 := yb4 hil
      have hna : ∀ {gs' : Gs}, T.1 <+: gs' → ∀ j, j < 3 → NdB (2 + (zbl p).length) gs' (nth ad j) := fun hp j hj => by rw [had]; exact zu5 (by omega) (fun j hj => (nX j hj).pre hp) hj
      have hbs : ∀ k, k ≤ (nth p.mems i).w → Bs (2 + (zbl p).length) (1 * k) k T.1 (zbh st T.1 k) := fun k hk => zda ha.gi fun j hj gs' hp hg' => by
        rw [hst]
        have n0 := hna hp 0 (by decide); have n1 := hna hp 1 (by decide); have n2 := hna hp 2 (by decide)
        exact zii hg' ⟨by simp, by simp, n0.1, n0.2, n1.1, n1.2, n2.1, n2.2, by simp only; omega, by simp only; omega, fun e => absurd rfl e, fun e => absurd e (by simp), fun e => absurd e (by simp)⟩
          ⟨fun e => absurd e (by simp), fun _ e => absurd e (by simp), fun e => absurd e (by simp), fun e => absurd e (by simp)⟩
      have hgt := fun k => zka (zbl p).length (zbh st T.1 k).1 ⟨7, nth ad 0, nth ad 1, nth ad 2, 8 * (i : Int) + k⟩ (by omega)
      simp only [zbs, zte, kEx, wEx, List.length_cons, List.length_nil, Nat.zero_add, Nat.reduceAdd]
      have hTl : T.2.length = 1 := ha.ln
      refine zav ?_
      refine hK12 _ _ ?_
      refine zaa fun K238 hK238 => ?_
      refine szq hp (fun _ hZ => zav hZ) ?_
      refine zac ?_
      refine szq hp (fun _ hZ => zav hZ) ?_
      refine szf ?_
      refine szq hp (fun _ hZ => zav hZ) ?_
      refine szf ?_
      refine szq hp (fun _ hZ => zav hZ) ?_
      refine szf ?_
      refine szq hp (fun _ hZ => zav hZ) ?_
      refine szf ?_
      refine zaa fun K244 hK244 => ?_
      refine szq hp (fun _ hZ => zav hZ) ?_
      refine szf ?_
      refine szq hp (fun _ hZ => zav hZ) ?_
      refine szf ?_
      refine szs hp (fun _ hZ => zav hZ) (hK244 _ _ ?_)
      refine szf ?_
      refine szq hp (fun _ hZ => zav hZ) ?_
      refine szf ?_
      refine szq hp (fun _ hZ => zav hZ) ?_
      refine szf ?_
      refine szq hp (fun _ hZ => zav hZ) ?_
      refine szf ?_
      refine szq hp (fun _ hZ => zav hZ) ?_
      refine szf ?_
      refine szq hp (fun _ hZ => zav hZ) ?_
      refine szf ?_
      refine szq hp (fun _ hZ => zav hZ) ?_
      refine szf ?_
      refine szq hp (fun _ hZ => zav hZ) ?_
      refine szf ?_
      refine szq hp (fun _ hZ => zav hZ) ?_
      refine szf ?_
      refine szq hp (fun _ hZ => zav hZ) ?_
      refine szt ?_
      refine zas zai hc za8 rfl (q := 0) (by kernel_rfl) (by kernel_rfl) fun K257 hK257 => ?_
      refine zd4 (sza gX m2) ?_
      refine za1 (hadr) rfl ?_
      refine zd4 (sza gX m2) ?_
      refine hK257 _ _ ?_
      refine szq hp (fun _ hZ => zvh hZ) ?_
      refine zac ?_
      refine zan hp (fun τ' H' mm => ∃ (k : Nat), (k ≤ (nth p.mems i).w) ∧ mm = (nth p.mems i).w - k ∧ H' = [.cells (avs (zds p data)), .cells (avs (zcn (zbl p).length T.1)), .cells (avs (exR 17 i 0 ([a].flatMap exC) 1)), .cells [.d (iD 0), .d (.val (.slice none 0 0)), .d (.val (.slice none 0 0))], .cells (avs (T.2.map intsD)), .cells [.d (iD (zbl p).length), .d (zaj (zbh st T.1 k).1), .os 1 6 0 k], .cells (avs ((zbh st T.1 k).2.map iD))] ∧ τ' = frL [(3, .op 0 0), (4, .op 1 0), (5, .op 2 0), (6, .op 3 0), (7, .os 1 4 0 1), (10, .op 5 0), (19, .d (iD k)), (18, .d (intsD ad))]) ((nth p.mems i).w) ?_ ⟨0, Nat.zero_le _, rfl, rfl, rfl⟩ ?_
      · refine Rt.trans (Rt.nilc 5 2 1 rfl rfl) ?_
        refine zpd ?_
        exact jqj
      rintro τ' H' mm ⟨k, hk, rfl, rfl, rfl⟩
      refine zaa fun K259 hK259 => ?_
      refine szq hp (fun _ hZ => zd4 m1 hZ) ?_
      refine zah rfl (fun ht => ?_) (fun ht => ?_)
      · have hlt : k < (nth p.mems i).w := by simp at ht; omega
        have hb := hbs k hk
        have hlen := hb.len
        have hwid := hb.wid
        have hcall := hgt k (by omega)
        rw [show zjg (2 + (zbl p).length) (zbh st T.1 k).1 ⟨7, nth ad 0, nth ad 1, nth ad 2, 8 * (i : Int) + k⟩ = st (zbh st T.1 k).1 k by rw [hst]; rfl] at hcall
        clear hst
        refine zaf (hK259 _ _ ?_)
        refine zaa fun K261 hK261 => ?_
        refine zac ?_
        refine zas zai hc za8 rfl (q := 1) (by kernel_rfl) (by kernel_rfl) fun K262 hK262 => ?_
        refine zav ?_
        refine za1 (hcall) rfl ?_
        refine zav ?_
        refine hK262 _ _ ?_
        refine szq hp (fun _ hZ => zav hZ) ?_
        refine szs hp (fun _ hZ => zav hZ) (hK261 _ _ ?_)
        refine za5 hp zai hc rfl fun K265 hK265 => ?_
        refine zav ?_
        refine hK265 _ _ ⟨_, _, _, ?_, ⟨k + 1, by omega, rfl, rfl, rfl⟩, ?_⟩
        · first | omega | (simp only [List.length_cons]; omega) | (dsimp only; omega)
        · refine jn2 [0,1,2,3,4,5,9] ?_
          refine zpd ?_
          refine zww ?_; simp [zbh, iD, nS, exR]
      · have hkk : k = (nth p.mems i).w := by simp at ht; omega
        subst hkk
        have hwid := (hbs _ (Nat.le_refl _)).wid
        refine zau (hK238 _ _ ?_)
        refine zbg hp (τ' := frL [(6, .op 3 0), (10, .op 5 0)]) (H' := [.cells (avs (zds p data)), .cells (avs (zcn (zbl p).length T.1)), .cells (avs (exR 17 i 0 ([a].flatMap exC) 1)), .cells [.d (iD 0), .d (.val (.slice none 0 0)), .d (.val (.slice none 0 0))], .cells (avs (T.2.map intsD)), .cells (avs (zcl (zbl p).length ((zbh st T.1 (nth p.mems i).w).1, (zbh st T.1 (nth p.mems i).w).2))), .dead]) ?_ ?_
        · refine Rt.trans (Rt.fz (id := 6) (l := ((zbh st T.1 (nth p.mems i).w).2.map iD)) rfl) ?_
          refine zpd ?_
          refine zww ?_; simp [za2, hwid, zcl, intsD, avs, iD]
        refine szq hp (fun _ hZ => zav hZ) ?_
        refine zal ?_
        try dsimp only [zbm, zaq]
        refine zak rfl ?_
        refine zjk ?_
        show closeA _ _ = _
        refine zvn ?_
        rw [hres]; first | done | rfl
theorem zkb (p : Pr) (hp0 : PrOk p) (q : Bool) (data : List (List Int)) (hn : (zbl p).length ≤ 1000) (e : Ex) : jqi p q data e := by
  have key : ∀ (m : Nat) (e : Ex), SizeOf.sizeOf e < m → jqi p q data e := by
    intro m
    induction m with
    | zero => intro e h; omega
    | succ m ihm =>
      intro e h gs hg hl hda hwt
      have := jqk p hp0 q data e hn (fun k hk => ihm _ (by have := jhb hk; omega)) gs hg hl hda hwt
      rw [← jqh] at this
      exact this
  exact key (SizeOf.sizeOf e + 1) e (by omega)
end Go.Proofs.Ytapjobndmmkanaa
