/- Leaves of expressions that bytes describe. -/
import Derived.Test.YtapjobndmmkanaaQr
import Derived.Test.YtapjobndmmkanaaVa
set_option linter.unusedVariables false
set_option linter.unusedSimpArgs false
set_option maxRecDepth 100000
set_option maxHeartbeats 4000000
namespace Go.Proofs.Ytapjobndmmkanaa
open Go Go.RowKit
theorem jby : (((((type_of% @zg0) ∧ ((type_of% @zg1) ∧ (type_of% @ji4))) ∧ ((type_of% @jbi) ∧ ((type_of% @zi0) ∧ (type_of% @zdc)))) ∧ (((type_of% @zdd) ∧ ((type_of% @zdh) ∧ (type_of% @zev))) ∧ ((type_of% @zew) ∧ ((type_of% @jbh) ∧ (type_of% @zlq))))) ∧ ((((type_of% @jbg) ∧ ((type_of% @zma) ∧ (type_of% @zga))) ∧ ((type_of% @ziw) ∧ ((type_of% @zd6) ∧ (type_of% @zel)))) ∧ (((type_of% @zq2) ∧ ((type_of% @zl9) ∧ (type_of% @zns))) ∧ ((type_of% @zzj) ∧ ((type_of% @zq0) ∧ (type_of% @zq1)))))) := ⟨⟨⟨⟨@zg0, ⟨@zg1, @ji4⟩⟩, ⟨@jbi, ⟨@zi0, @zdc⟩⟩⟩, ⟨⟨@zdd, ⟨@zdh, @zev⟩⟩, ⟨@zew, ⟨@jbh, @zlq⟩⟩⟩⟩, ⟨⟨⟨@jbg, ⟨@zma, @zga⟩⟩, ⟨@ziw, ⟨@zd6, @zel⟩⟩⟩, ⟨⟨@zq2, ⟨@zl9, @zns⟩⟩, ⟨@zzj, ⟨@zq0, @zq1⟩⟩⟩⟩⟩
def nI (l : List Nat) : D := .fs (l.map fun n : Nat => iD n) l.length
structure SM where
 pre : D
 w : Nat
 post : List D
 deriving Inhabited
def smC (m : SM) : List D := m.pre :: iD m.w :: (m.post ++ List.replicate 25 nS).take 25
theorem ybm (m : SM) : (smC m).length = 27 := by simp [smC]
theorem ycw {l : List SM} {k : Nat} (h : k < l.length) : (l.flatMap smC)[k * 27 + 1]? = some (iD (nth l k).w) := (zcq (j := 1) ybm h (by omega)).trans rfl
theorem zb6 {l : List SM} : (l.flatMap smC).length = l.length * 27 := zc1 ybm l
structure Sc where
 regs : List Nat
 takes : List Nat
 mems : List SM
 q : Bool
def scV (s : Sc) : List AV := [.d (nI s.regs), .d (nI s.takes), .os 27 0 0 s.mems.length, .d (oD s.q)]
def zdm (s : Sc) : AObj := .cells (avs (s.mems.flatMap smC))
structure ScOk (C : Ct) (s : Sc) : Prop where
 r : C.regs = s.regs
 t : s.q = true → C.takes = s.takes
 m : C.mems.map (·.2) = s.mems.map (·.w)
 rl : s.regs.length ≤ 100
 tl : s.takes.length ≤ 100
 ml : s.mems.length ≤ 8
def exZ : Ex → List D
 | .reg i => [iD 16, nS, iD i, nS, iD 0, nS, .val (.slice none 0 0)]
 | .dat i => [iD 18, nS, iD i, nS, iD 0, nS, .val (.slice none 0 0)]
 | e => exC e
theorem jp1 (e : Ex) : (exZ e).length = 7 := by cases e <;> rfl
theorem zd0 {l : List Ex} : (l.flatMap exZ).length = l.length * 7 := zc1 jp1 l
structure Fit (C : Ct) (q : Bool) (w n : Nat) (e : Ex) : Prop where
 t : WT C q e
 w : zck C e = w
 n : zbw C e ≤ n
theorem jan {C : Ct} {q : Bool} {w n : Nat} {l : List Ex} {e : Ex} (h : ∀ x ∈ l, Fit C q w n x) (he : Fit C q w n e) : ∀ x ∈ l ++ [e], Fit C q w n x := fun x hx => by
 rcases List.mem_append.1 hx with hx | hx
 ·exact h x hx
 ·rw [List.mem_singleton.1 hx]; exact he
def LvK (C : Ct) (s : Sc) (w : Nat) (x : AV) (S' : zad) : Prop := ∃ l : List Ex, l.length ≤ 200 ∧ (∀ e ∈ l, Fit C s.q w 0 e) ∧ x = .d (.fs (l.flatMap exZ) l.length) ∧ S' = [zdm s]
theorem zba {p : Nat → Bool} {s : Sc} : (zdm s).allI p = true := zat
theorem zb4 {keep : List Nat} {s : Sc} : gcO keep (zdm s) = zdm s := by unfold zdm; rw [jot, zr3]
theorem zb5 {id : Nat} {l : List D} {s : Sc} : fzO id l (zdm s) = zdm s := by unfold zdm; rw [jou, zr4]
theorem zs3 {p q : Prop} (hq : q) (h : p = q := by
 conv => lhs; simp -dsimp -implicitDefEqProofs (disch := first | assumption | omega | (simp only [r_z, zb6, zd0] <;> omega) | decide) only [r_r, ↓reduceIte, Nat.reduceEqDiff, Nat.reduceAdd, D.fix, Int.reduceToNat, Nat.reduceMul, Nat.reduceBNe, Nat.reduceBEq, scV, nI, zb4, zb5, jby]) : p := h.mpr hq
theorem jj8 {p q : Prop} (hq : q) (h : p = q := by
 conv => lhs; simp -dsimp -implicitDefEqProofs (disch := first | assumption | omega | (simp only [r_z, zb6, zd0] <;> omega) | decide) only [r_r, ↓reduceIte, Nat.reduceEqDiff, Nat.reduceAdd, D.fix, Int.reduceToNat, Nat.reduceMul, Nat.reduceBNe, Nat.reduceBEq, scV, nI, zb4, zb5]) : p := h.mpr hq
theorem jj9 (k : List Nat) {m : List Nat} {τ τ1 : Fr} {H H1 : zad} (h : Rt m (fun t => gcV k (τ t)) (gcH k H) τ1 H1) (a : ∀ i ∈ m, k[i]? = some i := by decide) (b : k.Nodup := by decide) (c : ∀ i ∈ k, i < H.length := by
 simp [fzH, gcH]) : Rt m τ H τ1 H1 := Rt.trans (Rt.gc a b c) h
theorem jcg {m : List Nat} {τ τ' : Fr} {H H' : zad} (h2 : H = H') (h : zgu τ τ' := by
 repeat (first | exact zar _ | refine zam ?_ (by first | rfl | (simp [r_f, zb6, zd0]; done) | simp [r_f, zb6, zd0, *]))) : Rt m τ H τ' H' := Rt.end h h2
theorem jwl {p q : Prop} (hq : q) (h : p = q := by
 conv => lhs; simp -dsimp -implicitDefEqProofs (disch := first | assumption | omega | (simp only [r_z, zb6, zd0] <;> omega) | decide) only [r_r, ↓reduceIte, Nat.reduceEqDiff, Nat.reduceAdd, D.fix, Int.reduceToNat, Nat.reduceMul, Nat.reduceBNe, Nat.reduceBEq, scV, nI, zb4, zb5, zay, jby]) : p := h.mpr hq
theorem jwm {p q r : Prop} (e : r) (hq : q) (h : r → p = q := by
 intro hY
 conv => lhs; simp -dsimp -implicitDefEqProofs (disch := first | assumption | omega | (simp only [r_z, zb6, zd0] <;> omega) | decide) only [r_r, ↓reduceIte, Nat.reduceEqDiff, Nat.reduceAdd, D.fix, Int.reduceToNat, Nat.reduceMul, Nat.reduceBNe, Nat.reduceBEq, scV, nI, zb4, zb5, jby, hY]) : p := (h e).mpr hq
theorem jre {p : Prop} (h : p := by
 first | rfl | (simp only [r_g, Nat.reduceAdd, ↓reduceIte, Nat.reduceEqDiff, scV, nI, zb4, zb5]; first | done | rfl)) : p := h
theorem jka (C : Ct) (s : Sc) (w : Nat) (hs : ScOk C s) (hw : w ≤ 100) : ScS Try.prog [0] 117 [.agg (scV s), .d (iD w)] ([zdm s]) (LvK C s w) := by
 refine zeo (fn := Try.f117) (by kernel_rfl) Try.func117 rfl (Nat.le_of_ble_eq_true rfl) fun c hc hp => ?_
 refine zwe ?_
 have hrl := hs.rl
 have htl := hs.tl
 refine szq hp (fun _ hZ => zs3 hZ) ?_
 refine szq hp (fun _ hZ => zs3 hZ) ?_
 refine zaa fun K3 hK3 => ?_
 refine szq hp (fun _ hZ => jj8 hZ) ?_
 refine zac ?_
 refine zan hp (fun τ' H' mm => ∃ (i : Nat) (l : List Ex), (i ≤ s.regs.length ∧ l.length ≤ i ∧ ∀ e ∈ l, Fit C s.q w 0 e) ∧ mm = s.regs.length - i ∧ H' = [zdm s, .cells (scV s), .cells (avs (l.flatMap exZ))] ∧ τ' = frL [(1, .d (iD w)), (2, .op 1 0), (5, .os 7 2 0 l.length), (6, .d (iD i))]) (s.regs.length) ?_ ⟨0, [], ⟨Nat.zero_le _, Nat.zero_le _, fun e he => by cases he⟩, rfl, rfl, rfl⟩ ?_
 ·refine jj9 [0,1,2] ?_
  refine jcg ?_
  exact jre
 rintro τ' H' mm ⟨i, l, ⟨hi, hll, hl⟩, rfl, rfl, rfl⟩
 refine zaa fun K5 hK5 => ?_
 refine szq hp (fun _ hZ => zs3 hZ) ?_
 refine zah rfl (fun ht => ?_) (fun ht => ?_)
 ·have hlt : i < s.regs.length := by simp at ht; omega
  refine zaf (hK5 _ _ ?_)
  refine zaa fun K7 hK7 => ?_
  refine zac ?_
  refine szq hp (fun _ hZ => jwl hZ) ?_
  refine zah rfl (fun ht => ?_) (fun ht => ?_)
  ·have hwe : nth s.regs i = w := by simp at ht; omega
   refine szs hp (fun _ hZ => zs3 hZ) (hK7 _ _ ?_)
   refine za5 hp zai hc rfl fun K10 hK10 => ?_
   refine zs3 ?_
   refine hK10 _ _ ⟨_, _, _, ?_, ⟨i + 1, l ++ [.reg i], ⟨by omega, by simp; omega, jan hl ⟨by show i < C.regs.length; rw [hs.r]; exact hlt, by show nth C.regs i = w; rw [hs.r, hwe], Nat.le_refl _⟩⟩, rfl, rfl, rfl⟩, ?_⟩
   ·first | omega | (simp only [List.length_cons]; omega) | (dsimp only; omega)
   ·refine jj9 [0,1,4] ?_
    refine jcg ?_
    simp only [r_g, Nat.reduceAdd, ↓reduceIte, Nat.reduceEqDiff, scV, nI, zb4, zb5]; simp [exZ, iD, nS, oD]
  ·refine zaf (hK7 _ _ ?_)
   refine za5 hp zai hc rfl fun K11 hK11 => ?_
   refine zs3 ?_
   refine hK11 _ _ ⟨_, _, _, ?_, ⟨i + 1, l, ⟨by omega, by omega, hl⟩, rfl, rfl, rfl⟩, ?_⟩
   ·first | omega | (simp only [List.length_cons]; omega) | (dsimp only; omega)
   ·refine jcg ?_
    exact jre
 ·have hii : i = s.regs.length := by simp at ht; omega
  subst hii
  refine zau (hK3 _ _ ?_)
  refine zaa fun K12 hK12 => ?_
  refine szq hp (fun _ hZ => jj8 hZ) ?_
  refine zac ?_
  refine zan hp (fun τ' H' mm => ∃ (i : Nat) (l : List Ex), (i ≤ s.takes.length ∧ l.length ≤ 100 + i ∧ ∀ e ∈ l, Fit C s.q w 0 e) ∧ mm = s.takes.length - i ∧ H' = [zdm s, .cells (scV s), .cells (avs (l.flatMap exZ))] ∧ τ' = frL [(1, .d (iD w)), (2, .op 1 0), (5, .os 7 2 0 l.length), (7, .d (iD i))]) (s.takes.length) ?_ ⟨0, l, ⟨Nat.zero_le _, by omega, hl⟩, rfl, rfl, rfl⟩ ?_
  ·refine jcg ?_
   exact jre
  rintro τ' H' mm ⟨i, l, ⟨hi, hll2, hl2⟩, rfl, rfl, rfl⟩
  refine zaa fun K14 hK14 => ?_
  refine zag hp zai hc rfl fun K15 hK15 => ?_
  by_cases q : i < s.takes.length
  ·have q1 : decide ((i : Int) < s.takes.length) = true := decide_eq_true (by omega)
   refine jwm q1 ?_
   refine hK15 _ _ ?_
   refine zah rfl (fun ht => ?_) (fun ht => ?_)
   ·have hq : s.q = true := ht
    refine zaf (hK14 _ _ ?_)
    refine zaa fun K16 hK16 => ?_
    refine zac ?_
    refine szq hp (fun _ hZ => jwl hZ) ?_
    refine zah rfl (fun ht => ?_) (fun ht => ?_)
    ·have hwe : nth s.takes i = w := by simp at ht; omega
     refine szs hp (fun _ hZ => zs3 hZ) (hK16 _ _ ?_)
     refine za5 hp zai hc rfl fun K19 hK19 => ?_
     refine zs3 ?_
     refine hK19 _ _ ⟨_, _, _, ?_, ⟨i + 1, l ++ [.dat i], ⟨by omega, by simp; omega, jan hl2 ⟨(show WT C s.q (.dat i) from ⟨hq, by rw [hs.t hq]; exact q⟩), by show nth C.takes i = w; rw [hs.t hq, hwe], Nat.le_refl _⟩⟩, rfl, rfl, rfl⟩, ?_⟩
     ·first | omega | (simp only [List.length_cons]; omega) | (dsimp only; omega)
     ·refine jj9 [0,1,4] ?_
      refine jcg ?_
      simp only [r_g, Nat.reduceAdd, ↓reduceIte, Nat.reduceEqDiff, scV, nI, zb4, zb5]; simp [exZ, iD, nS, oD]
    ·refine zaf (hK16 _ _ ?_)
     refine za5 hp zai hc rfl fun K20 hK20 => ?_
     refine zs3 ?_
     refine hK20 _ _ ⟨_, _, _, ?_, ⟨i + 1, l, ⟨by omega, by omega, hl2⟩, rfl, rfl, rfl⟩, ?_⟩
     ·first | omega | (simp only [List.length_cons]; omega) | (dsimp only; omega)
     ·refine jcg ?_
      exact jre
   ·refine zau (hK12 _ _ ?_)
    refine szq hp (fun _ hZ => jj8 hZ) ?_
    refine zbg hp (τ' := frL [(4, .d (.fs (l.flatMap exZ) l.length))]) (H' := [zdm s]) ?_ ?_
    ·refine Rt.trans (Rt.fz (id := 2) (l := (l.flatMap exZ)) rfl) ?_
     refine Rt.trans (Rt.slot 4 (zee (za2 (by rw [zd0])))) ?_
     refine jj9 [0] ?_
     refine jcg ?_
     exact jre
    refine zal ?_
    refine zfs (t := 4) rfl ?_
    show ∃ _, _
    exact ⟨l, by omega, hl2, rfl, rfl⟩
  ·have q1 : decide ((i : Int) < s.takes.length) = false := decide_eq_false (by omega)
   refine jwm q1 ?_
   refine hK15 _ _ ?_
   refine szf ?_
   refine zau (hK12 _ _ ?_)
   refine szq hp (fun _ hZ => jj8 hZ) ?_
   refine zbg hp (τ' := frL [(4, .d (.fs (l.flatMap exZ) l.length))]) (H' := [zdm s]) ?_ ?_
   ·refine Rt.trans (Rt.fz (id := 2) (l := (l.flatMap exZ)) rfl) ?_
    refine Rt.trans (Rt.slot 4 (zee (za2 (by rw [zd0])))) ?_
    refine jj9 [0] ?_
    refine jcg ?_
    exact jre
   refine zal ?_
   refine zfs (t := 4) rfl ?_
   show ∃ _, _
   exact ⟨l, by omega, hl2, rfl, rfl⟩
theorem jgy (e : Ex) : (∃ o k w, exZ e = [iD o, nS, iD k, nS, iD w, nS, .val (.slice none 0 0)] ∧ exC e = [iD o, nS, iD k, nS, iD w, nS, .fs [] 0]) ∨ ∃ o k w cs n, exZ e = [iD o, nS, iD k, nS, iD w, nS, .fs cs n] ∧ exC e = [iD o, nS, iD k, nS, iD w, nS, .fs cs n] := by
 cases e <;> first | exact .inl ⟨_, _, _, rfl, rfl⟩ | exact .inr ⟨_, _, _, _, _, rfl, rfl⟩
theorem jp2 {l : List Ex} {k : Nat} (h : k < l.length) : zb7 (l.flatMap exZ) (k * 7) 7 = some (exZ (nth l k)) := zf8 jp1 h
def exV (e : Ex) : List AV := (exC e).map .d
def LfK (C : Ct) (s : Sc) (w : Nat) (x : AV) (S' : zad) : Prop := ∃ e : Ex, Fit C s.q w 0 e ∧ x = .agg (exV e) ∧ ∃ j, S' = [zdm s, .cells j]
theorem jp3 {p q : Prop} (hq : q) (h : p = q := by
 conv => lhs; simp -dsimp -implicitDefEqProofs (disch := first | assumption | omega | (simp only [r_z, zb6, zd0] <;> omega) | decide) only [r_r, ↓reduceIte, Nat.reduceEqDiff, Nat.reduceAdd, D.fix, Int.reduceToNat, Nat.reduceMul, Nat.reduceBNe, Nat.reduceBEq, scV, nI, exR, zb4, zb5, jby]) : p := h.mpr hq
theorem jbz {p q r : Prop} (e : r) (hq : q) (h : r → p = q := by
 intro hY
 conv => lhs; simp -dsimp -implicitDefEqProofs (disch := first | assumption | omega | (simp only [r_z, zb6, zd0] <;> omega) | decide) only [r_r, ↓reduceIte, Nat.reduceEqDiff, Nat.reduceAdd, D.fix, Int.reduceToNat, Nat.reduceMul, Nat.reduceBNe, Nat.reduceBEq, scV, nI, exR, zb4, zb5, jby, hY]) : p := (h e).mpr hq
theorem jkb {p q : Prop} (hq : q) (h : p = q := by
 conv => lhs; simp -dsimp -implicitDefEqProofs (disch := first | assumption | omega | (simp only [r_z, zb6, zd0] <;> omega) | decide) only [r_r, ↓reduceIte, Nat.reduceEqDiff, Nat.reduceAdd, D.fix, Int.reduceToNat, Nat.reduceMul, Nat.reduceBNe, Nat.reduceBEq, scV, nI, exR, zb4, zb5, zd6, zel]) : p := h.mpr hq
theorem jwn {p q r : Prop} (e : r) (hq : q) (h : r → p = q := by
 intro hY
 conv => lhs; simp -dsimp -implicitDefEqProofs (disch := first | assumption | omega | (simp only [r_z, zb6, zd0] <;> omega) | decide) only [r_r, ↓reduceIte, Nat.reduceEqDiff, Nat.reduceAdd, D.fix, Int.reduceToNat, Nat.reduceMul, Nat.reduceBNe, Nat.reduceBEq, scV, nI, exR, zb4, zb5, jp2, jp1, jby, hY]) : p := (h e).mpr hq
theorem jyj {p : Prop} (h : p := by
 first | rfl | (simp only [r_g, Nat.reduceAdd, ↓reduceIte, Nat.reduceEqDiff, scV, nI, exR, zb4, zb5]; first | done | rfl)) : p := h
theorem jnt (C : Ct) (s : Sc) (w b : Nat) (hs : ScOk C s) (hw1 : 1 ≤ w) (hw : w ≤ 8) (hb : b < 1000) : ScS Try.prog [0] 95 [.agg (scV s), .d (iD w), .d (iD b)] ([zdm s, .free]) (LfK C s w) := by
 refine zeo (fn := Try.f95) (by kernel_rfl) Try.func95 rfl (Nat.le_of_ble_eq_true rfl) fun c hc hp => ?_
 refine zle ?_
 have hb4 : (b : Int) / 4 = ((b / 4 : Nat) : Int) := by omega
 have hcn := jwj (b / 4) w (by omega) hw
 unfold exC at hcn
 refine szq hp (fun _ hZ => jp3 hZ) ?_
 refine zag hp zai hc rfl fun K2 hK2 => ?_
 refine jp3 ?_
 refine zwb (S := [zdm s]) (T := [.free, .cells (scV s), .cells [.d (iD 0), .d nS, .d (iD 0), .d nS, .d (iD 0), .d nS, .d (.val (.slice none 0 0))]]) (jka C s w hs (by omega)) rfl (by first | rfl | (simp [AV.allIs, AV.allI, zbi, za3, za4, okI, ltI, zat, zb2, zba, scV]; done) | (intro o ho; simp at ho; done)) (fun t => zc8 (by first | rfl | (simp [AV.allIs, AV.allI, zbi, za3, za4, okI, ltI, zat, zb2, zba, scV]; done) | (intro o ho; simp at ho; done)) t) (by first | rfl | (simp [AV.allIs, AV.allI, zbi, za3, za4, okI, ltI, zat, zb2, zba, scV]; done) | (intro o ho; simp at ho; done)) (by first | rfl | (simp [AV.allIs, AV.allI, zbi, za3, za4, okI, ltI, zat, zb2, zba, scV]; done) | (intro o ho; simp at ho; done)) (by first | rfl | (simp [AV.allIs, AV.allI, zbi, za3, za4, okI, ltI, zat, zb2, zba, scV]; done) | (intro o ho; simp at ho; done)) ?_
 rintro _ _ ⟨l, hll, hl, rfl, rfl⟩
 refine ⟨rfl, ?_⟩
 refine jp3 ?_
 refine hK2 _ _ ?_
 refine zaa fun K3 hK3 => ?_
 refine zag hp zai hc rfl fun K4 hK4 => ?_
 rcases Nat.eq_zero_or_pos l.length with q | q
 ·have q1 : ((l.length : Int) == 0) = true := by simp [q]
  refine jbz q1 ?_
  refine hK4 _ _ ?_
  refine szt ?_
  refine zag hp zai hc rfl fun K5 hK5 => ?_
  refine jbz hb4 ?_
  refine za1 (hcn) rfl ?_
  refine jbz hb4 ?_
  refine hK5 _ _ ?_
  refine zbg hp (τ' := frL [(6, .op 1 0)]) (H' := [zdm s, .cells ((exR 1 ((b / 4 % 2 ^ w : Nat) : Int) w [] 0).map .d)]) ?_ ?_
  ·refine jj9 [0,3] ?_
   refine jcg ?_
   exact jyj
  refine zal ?_
  try dsimp only [zbm, zaq]
  refine zak rfl ?_
  refine jkb ?_
  show ∃ _, _
  exact ⟨.con (b / 4 % 2 ^ w) w, ⟨⟨hw1, hw, jwi⟩, rfl, Nat.le_refl _⟩, rfl, _, rfl⟩
 ·have q1 : ((l.length : Int) == 0) = false := by rw [beq_eq_false_iff_ne]; omega
  refine jbz q1 ?_
  refine hK4 _ _ ?_
  refine zah rfl (fun ht => ?_) (fun ht => ?_)
  ·refine zag hp zai hc rfl fun K6 hK6 => ?_
   refine jbz hb4 ?_
   refine za1 (hcn) rfl ?_
   refine jbz hb4 ?_
   refine hK6 _ _ ?_
   refine zbg hp (τ' := frL [(6, .op 1 0)]) (H' := [zdm s, .cells ((exR 1 ((b / 4 % 2 ^ w : Nat) : Int) w [] 0).map .d)]) ?_ ?_
   ·refine jj9 [0,3] ?_
    refine jcg ?_
    exact jyj
   refine zal ?_
   try dsimp only [zbm, zaq]
   refine zak rfl ?_
   refine jkb ?_
   show ∃ _, _
   exact ⟨.con (b / 4 % 2 ^ w) w, ⟨⟨hw1, hw, jwi⟩, rfl, Nat.le_refl _⟩, rfl, _, rfl⟩
  ·refine zaf (hK3 _ _ ?_)
   obtain ⟨j, hj⟩ : ∃ j : Nat, j = b / 4 % l.length := ⟨_, rfl⟩
   have hjl : j < l.length := by rw [hj]; exact Nat.mod_lt _ q
   have hji : ((b / 4 : Nat) : Int) % (l.length : Int) = (j : Int) := by rw [hj]; exact (Int.natCast_emod _ _).symm
   refine zag hp zai hc rfl fun K7 hK7 => ?_
   rcases jgy (nth l j) with ⟨xo, xk, xw, hex, hex2⟩ | ⟨xo, xk, xw, xc, xn, hex, hex2⟩
   ·refine jwn (sza hb4 (sza hji hex)) ?_
    refine hK7 _ _ ?_
    refine zbg hp (τ' := frL [(6, .op 1 0)]) (H' := [zdm s, .cells [.d (iD xo), .d nS, .d (iD xk), .d nS, .d (iD xw), .d nS, .d (.fs [] 0)]]) ?_ ?_
    ·refine Rt.trans (Rt.fixc 3 6 rfl rfl) ?_
     refine jj9 [0,3] ?_
     refine jcg ?_
     exact jyj
    refine zal ?_
    try dsimp only [zbm, zaq]
    refine zak rfl ?_
    refine jkb ?_
    show ∃ _, _
    exact ⟨nth l j, hl _ (zb0 hjl), by unfold exV; rw [hex2]; rfl, _, rfl⟩
   ·refine jwn (sza hb4 (sza hji hex)) ?_
    refine hK7 _ _ ?_
    refine zbg hp (τ' := frL [(6, .op 1 0)]) (H' := [zdm s, .cells [.d (iD xo), .d nS, .d (iD xk), .d nS, .d (iD xw), .d nS, .d (.fs xc xn)]]) ?_ ?_
    ·refine jj9 [0,3] ?_
     refine jcg ?_
     exact jyj
    refine zal ?_
    try dsimp only [zbm, zaq]
    refine zak rfl ?_
    refine jkb ?_
    show ∃ _, _
    exact ⟨nth l j, hl _ (zb0 hjl), by unfold exV; rw [hex2]; rfl, _, rfl⟩
end Go.Proofs.Ytapjobndmmkanaa
