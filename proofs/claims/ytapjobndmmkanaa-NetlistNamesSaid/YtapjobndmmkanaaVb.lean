/- Values of the nodes that a builder makes. -/
import Derived.Test.YtapjobndmmkanaaOk
import Derived.Test.YtapjobndmmkanaaQr
import Derived.Test.YtapjobndmmkanaaVa
set_option linter.unusedVariables false
set_option linter.unusedSimpArgs false
namespace Go.Proofs.Ytapjobndmmkanaa
open Go Go.RowKit
section
section
variable {mems : List (List Int)} {v0 : List Bool} {m : Nat} {gs gs' : Gs} {x y z : Int}
def mj (a b c : Bool) : Bool := a && b || a && c || b && c
end
section
variable {mems : List (List Int)} {v0 : List Bool} {m : Nat} {gs : Gs}
end
/- The reference's builder of netlists: wires, gates, complements. -/
set_option maxRecDepth 100000
set_option maxHeartbeats 4000000
end
theorem ygz : (type_of% @ztr) := @ztr
/- The reference's builder: operators with two arguments. -/
theorem yg0 : (type_of% @zqk) := @zqk
/- The reference's builder: Or, Xor, Mux, Maj. -/
theorem yg1 : (type_of% @zqk) := @zqk
/- The reference's builder: Maj, words. -/
theorem yg2 : (type_of% @zqk) := @zqk
/- The reference's builder: the bits of an address. -/
theorem yg3 : (type_of% @zd1) := @zd1
def jit (l : List Int) (k : Nat) : List Int := [if 0 < k then nth l 0 else 0, if 1 < k then nth l 1 else 0, if 2 < k then nth l 2 else 0]
theorem zmj {l : List Int} {w k : Nat} (hk : k ≤ 3) (h : ∀ j, j < k → j < l.length ∧ 2 ^ j < w) (he : ¬ (k < 3 ∧ k < l.length ∧ 2 ^ k < w)) : jit l k = zjk l w := by
 have hn : ∀ j, k ≤ j → j < 3 → ¬ (j < l.length ∧ 2 ^ j < w) := fun j h1 h2 h3 => he ⟨by omega, by omega, by
  have := Nat.pow_le_pow_right (show 0 < 2 by decide) h1
  omega⟩
 have key : ∀ j, j < 3 → (if j < k then nth l j else 0) = (if j < l.length ∧ 2 ^ j < w then nth l j else 0) := fun j hj => by
  by_cases h1 : j < k
  ·rw [if_pos h1, if_pos (h j h1)]
  ·rw [if_neg h1, if_neg (hn j (by omega) hj)]
 show [_, _, _] = [_, _, _]
 rw [key 0 (by decide), key 1 (by decide), key 2 (by decide)]
theorem zep {l : List Int} {k : Nat} : (jit l k).length = 3 := rfl
/- Leaves of expressions that bytes describe. -/
theorem jby : (((((type_of% @zg8) ∧ ((type_of% @zg9) ∧ (type_of% @jjx))) ∧ ((type_of% @zpo) ∧ ((type_of% @zjc) ∧ (type_of% @zd1)))) ∧ (((type_of% @zey) ∧ ((type_of% @zc2) ∧ (type_of% @zew))) ∧ ((type_of% @zex) ∧ ((type_of% @zpn) ∧ (type_of% @zgx))))) ∧ ((((type_of% @zpm) ∧ ((type_of% @zhw) ∧ (type_of% @zdr))) ∧ ((type_of% @zen) ∧ ((type_of% @zdj) ∧ (type_of% @zdz)))) ∧ (((type_of% @zhv) ∧ ((type_of% @zhu) ∧ (type_of% @znt))) ∧ ((type_of% @zzo) ∧ ((type_of% @ye3) ∧ (type_of% @ye4)))))) := ⟨⟨⟨⟨@zg8, ⟨@zg9, @jjx⟩⟩, ⟨@zpo, ⟨@zjc, @zd1⟩⟩⟩, ⟨⟨@zey, ⟨@zc2, @zew⟩⟩, ⟨@zex, ⟨@zpn, @zgx⟩⟩⟩⟩, ⟨⟨⟨@zpm, ⟨@zhw, @zdr⟩⟩, ⟨@zen, ⟨@zdj, @zdz⟩⟩⟩, ⟨⟨@zhv, ⟨@zhu, @znt⟩⟩, ⟨@zzo, ⟨@ye3, @ye4⟩⟩⟩⟩⟩
def nI (l : List Nat) : D := .fs (l.map fun n : Nat => iD n) l.length
structure SM where
 pre : D
 w : Nat
 post : List D
 deriving Inhabited
def smC (m : SM) : List D := m.pre :: iD m.w :: (m.post ++ List.replicate 25 nS).take 25
theorem yfa (m : SM) : (smC m).length = 27 := by simp [smC]
theorem yg4 {l : List SM} {k : Nat} (h : k < l.length) : (l.flatMap smC)[k * 27 + 1]? = some (iD (nth l k).w) := (zci (j := 1) yfa h (by omega)).trans rfl
theorem zb0 {l : List SM} : (l.flatMap smC).length = l.length * 27 := zca yfa l
structure Sc where
 regs : List Nat
 takes : List Nat
 mems : List SM
 q : Bool
def scV (s : Sc) : List AV := [.d (nI s.regs), .d (nI s.takes), .os 27 0 0 s.mems.length, .d (oD s.q)]
def zde (s : Sc) : AObj := .cells (avs (s.mems.flatMap smC))
structure ScOk (C : Ct) (s : Sc) : Prop where
 r : C.regs = s.regs
 t : s.q = true → C.takes = s.takes
 m : C.mems.map (·.2) = s.mems.map (·.w)
 rl : s.regs.length ≤ 100
 tl : s.takes.length ≤ 100
 ml : s.mems.length ≤ 8
def exZ : Ex → List D
 | .reg i => [iD 16, nS, iD i, nS, iD 0, nS, .val (.slice none 0 0)]
 | .dat i => [iD 18, nS, iD i, nS, iD 0, nS, .val (.slice none 0 0)]
 | e => exC e
theorem jqb (e : Ex) : (exZ e).length = 7 := by cases e <;> rfl
theorem zds {l : List Ex} : (l.flatMap exZ).length = l.length * 7 := zca jqb l
structure Fit (C : Ct) (q : Bool) (w n : Nat) (e : Ex) : Prop where
 t : WT C q e
 w : zb4 C e = w
 n : za0 C e ≤ n
theorem zz9 {C : Ct} {q : Bool} {w n : Nat} {l : List Ex} {e : Ex} (h : ∀ x ∈ l, Fit C q w n x) (he : Fit C q w n e) : ∀ x ∈ l ++ [e], Fit C q w n x := fun x hx => by
 rcases List.mem_append.1 hx with hx | hx
 ·exact h x hx
 ·rw [List.mem_singleton.1 hx]; exact he
def LvK (C : Ct) (s : Sc) (w : Nat) (x : AV) (S' : zae) : Prop := ∃ l : List Ex, l.length ≤ 200 ∧ (∀ e ∈ l, Fit C s.q w 0 e) ∧ x = .d (.fs (l.flatMap exZ) l.length) ∧ S' = [zde s]
theorem zbe {p : Nat → Bool} {s : Sc} : (zde s).allI p = true := zad
theorem zbw {keep : List Nat} {s : Sc} : gcO keep (zde s) = zde s := by unfold zde; rw [jp1, zq7]
theorem zbx {id : Nat} {l : List D} {s : Sc} : fzO id l (zde s) = zde s := by unfold zde; rw [jp2, zq8]
theorem zrk {p q : Prop} (hq : q) (h : p = q := by
 conv => lhs; simp -dsimp -implicitDefEqProofs (disch := first | assumption | omega | (simp only [r_z, zb0, zds] <;> omega) | decide) only [r_r, ↓reduceIte, Nat.reduceEqDiff, Nat.reduceAdd, D.fix, Int.reduceToNat, Nat.reduceMul, Nat.reduceBNe, Nat.reduceBEq, scV, nI, zbw, zbx, jby]) : p := h.mpr hq
theorem jj3 {p q : Prop} (hq : q) (h : p = q := by
 conv => lhs; simp -dsimp -implicitDefEqProofs (disch := first | assumption | omega | (simp only [r_z, zb0, zds] <;> omega) | decide) only [r_r, ↓reduceIte, Nat.reduceEqDiff, Nat.reduceAdd, D.fix, Int.reduceToNat, Nat.reduceMul, Nat.reduceBNe, Nat.reduceBEq, scV, nI, zbw, zbx]) : p := h.mpr hq
theorem jj4 (k : List Nat) {m : List Nat} {τ τ1 : Fr} {H H1 : zae} (h : Rt m (fun t => gcV k (τ t)) (gcH k H) τ1 H1) (a : ∀ i ∈ m, k[i]? = some i := by decide) (b : k.Nodup := by decide) (c : ∀ i ∈ k, i < H.length := by
 simp [fzH, gcH]) : Rt m τ H τ1 H1 := Rt.trans (Rt.gc a b c) h
theorem jcs {m : List Nat} {τ τ' : Fr} {H H' : zae} (h2 : H = H') (h : zfq τ τ' := by
 repeat (first | exact zas _ | refine zao ?_ (by first | rfl | (simp [r_f, zb0, zds]; done) | simp [r_f, zb0, zds, *]))) : Rt m τ H τ' H' := Rt.end h h2
theorem jwj {p q : Prop} (hq : q) (h : p = q := by
 conv => lhs; simp -dsimp -implicitDefEqProofs (disch := first | assumption | omega | (simp only [r_z, zb0, zds] <;> omega) | decide) only [r_r, ↓reduceIte, Nat.reduceEqDiff, Nat.reduceAdd, D.fix, Int.reduceToNat, Nat.reduceMul, Nat.reduceBNe, Nat.reduceBEq, scV, nI, zbw, zbx, zbj, jby]) : p := h.mpr hq
theorem jwk {p q r : Prop} (e : r) (hq : q) (h : r → p = q := by
 intro hY
 conv => lhs; simp -dsimp -implicitDefEqProofs (disch := first | assumption | omega | (simp only [r_z, zb0, zds] <;> omega) | decide) only [r_r, ↓reduceIte, Nat.reduceEqDiff, Nat.reduceAdd, D.fix, Int.reduceToNat, Nat.reduceMul, Nat.reduceBNe, Nat.reduceBEq, scV, nI, zbw, zbx, jby, hY]) : p := (h e).mpr hq
theorem jss {p : Prop} (h : p := by
 first | rfl | (simp only [r_g, Nat.reduceAdd, ↓reduceIte, Nat.reduceEqDiff, scV, nI, zbw, zbx]; first | done | rfl)) : p := h
theorem jj5 (C : Ct) (s : Sc) (w : Nat) (hs : ScOk C s) (hw : w ≤ 100) : ScS Try.prog [0] 117 [.agg (scV s), .d (iD w)] ([zde s]) (LvK C s w) := by
 refine zbh (fn := Try.f117) (by kernel_rfl) Try.func117 rfl (Nat.le_of_ble_eq_true rfl) fun c hc hp => ?_
 refine zc1 ?_
 have hrl := hs.rl
 have htl := hs.tl
 refine szq hp (fun _ hZ => zrk hZ) ?_
 refine szq hp (fun _ hZ => zrk hZ) ?_
 refine zaa fun K3 hK3 => ?_
 refine szq hp (fun _ hZ => jj3 hZ) ?_
 refine zaf ?_
 refine zan hp (fun τ' H' mm => ∃ (i : Nat) (l : List Ex), (i ≤ s.regs.length ∧ l.length ≤ i ∧ ∀ e ∈ l, Fit C s.q w 0 e) ∧ mm = s.regs.length - i ∧ H' = [zde s, .cells (scV s), .cells (avs (l.flatMap exZ))] ∧ τ' = frL [(1, .d (iD w)), (2, .op 1 0), (5, .os 7 2 0 l.length), (6, .d (iD i))]) (s.regs.length) ?_ ⟨0, [], ⟨Nat.zero_le _, Nat.zero_le _, fun e he => by cases he⟩, rfl, rfl, rfl⟩ ?_
 ·refine jj4 [0,1,2] ?_
  refine jcs ?_
  exact jss
 rintro τ' H' mm ⟨i, l, ⟨hi, hll, hl⟩, rfl, rfl, rfl⟩
 refine zaa fun K5 hK5 => ?_
 refine szq hp (fun _ hZ => zrk hZ) ?_
 refine zal rfl (fun ht => ?_) (fun ht => ?_)
 ·have hlt : i < s.regs.length := by simp at ht; omega
  refine zaj (hK5 _ _ ?_)
  refine zaa fun K7 hK7 => ?_
  refine zaf ?_
  refine szq hp (fun _ hZ => jwj hZ) ?_
  refine zal rfl (fun ht => ?_) (fun ht => ?_)
  ·have hwe : nth s.regs i = w := by simp at ht; omega
   refine szs hp (fun _ hZ => zrk hZ) (hK7 _ _ ?_)
   refine za1 hp zak hc rfl fun K10 hK10 => ?_
   refine zrk ?_
   refine hK10 _ _ ⟨_, _, _, ?_, ⟨i + 1, l ++ [.reg i], ⟨by omega, by simp; omega, zz9 hl ⟨by show i < C.regs.length; rw [hs.r]; exact hlt, by show nth C.regs i = w; rw [hs.r, hwe], Nat.le_refl _⟩⟩, rfl, rfl, rfl⟩, ?_⟩
   ·first | omega | (simp only [List.length_cons]; omega) | (dsimp only; omega)
   ·refine jj4 [0,1,4] ?_
    refine jcs ?_
    simp only [r_g, Nat.reduceAdd, ↓reduceIte, Nat.reduceEqDiff, scV, nI, zbw, zbx]; simp [exZ, iD, nS, oD]
  ·refine zaj (hK7 _ _ ?_)
   refine za1 hp zak hc rfl fun K11 hK11 => ?_
   refine zrk ?_
   refine hK11 _ _ ⟨_, _, _, ?_, ⟨i + 1, l, ⟨by omega, by omega, hl⟩, rfl, rfl, rfl⟩, ?_⟩
   ·first | omega | (simp only [List.length_cons]; omega) | (dsimp only; omega)
   ·refine jcs ?_
    exact jss
 ·have hii : i = s.regs.length := by simp at ht; omega
  subst hii
  refine zau (hK3 _ _ ?_)
  refine zaa fun K12 hK12 => ?_
  refine szq hp (fun _ hZ => jj3 hZ) ?_
  refine zaf ?_
  refine zan hp (fun τ' H' mm => ∃ (i : Nat) (l : List Ex), (i ≤ s.takes.length ∧ l.length ≤ 100 + i ∧ ∀ e ∈ l, Fit C s.q w 0 e) ∧ mm = s.takes.length - i ∧ H' = [zde s, .cells (scV s), .cells (avs (l.flatMap exZ))] ∧ τ' = frL [(1, .d (iD w)), (2, .op 1 0), (5, .os 7 2 0 l.length), (7, .d (iD i))]) (s.takes.length) ?_ ⟨0, l, ⟨Nat.zero_le _, by omega, hl⟩, rfl, rfl, rfl⟩ ?_
  ·refine jcs ?_
   exact jss
  rintro τ' H' mm ⟨i, l, ⟨hi, hll2, hl2⟩, rfl, rfl, rfl⟩
  refine zaa fun K14 hK14 => ?_
  refine zag hp zak hc rfl fun K15 hK15 => ?_
  by_cases q : i < s.takes.length
  ·have q1 : decide ((i : Int) < s.takes.length) = true := decide_eq_true (by omega)
   refine jwk q1 ?_
   refine hK15 _ _ ?_
   refine zal rfl (fun ht => ?_) (fun ht => ?_)
   ·have hq : s.q = true := ht
    refine zaj (hK14 _ _ ?_)
    refine zaa fun K16 hK16 => ?_
    refine zaf ?_
    refine szq hp (fun _ hZ => jwj hZ) ?_
    refine zal rfl (fun ht => ?_) (fun ht => ?_)
    ·have hwe : nth s.takes i = w := by simp at ht; omega
     refine szs hp (fun _ hZ => zrk hZ) (hK16 _ _ ?_)
     refine za1 hp zak hc rfl fun K19 hK19 => ?_
     refine zrk ?_
     refine hK19 _ _ ⟨_, _, _, ?_, ⟨i + 1, l ++ [.dat i], ⟨by omega, by simp; omega, zz9 hl2 ⟨(show WT C s.q (.dat i) from ⟨hq, by rw [hs.t hq]; exact q⟩), by show nth C.takes i = w; rw [hs.t hq, hwe], Nat.le_refl _⟩⟩, rfl, rfl, rfl⟩, ?_⟩
     ·first | omega | (simp only [List.length_cons]; omega) | (dsimp only; omega)
     ·refine jj4 [0,1,4] ?_
      refine jcs ?_
      simp only [r_g, Nat.reduceAdd, ↓reduceIte, Nat.reduceEqDiff, scV, nI, zbw, zbx]; simp [exZ, iD, nS, oD]
    ·refine zaj (hK16 _ _ ?_)
     refine za1 hp zak hc rfl fun K20 hK20 => ?_
     refine zrk ?_
     refine hK20 _ _ ⟨_, _, _, ?_, ⟨i + 1, l, ⟨by omega, by omega, hl2⟩, rfl, rfl, rfl⟩, ?_⟩
     ·first | omega | (simp only [List.length_cons]; omega) | (dsimp only; omega)
     ·refine jcs ?_
      exact jss
   ·refine zau (hK12 _ _ ?_)
    refine szq hp (fun _ hZ => jj3 hZ) ?_
    refine zat hp (τ' := frL [(4, .d (.fs (l.flatMap exZ) l.length))]) (H' := [zde s]) ?_ ?_
    ·refine Rt.trans (Rt.fz (id := 2) (l := (l.flatMap exZ)) rfl) ?_
     refine Rt.trans (Rt.slot 4 (zf9 (zbf (by rw [zds])))) ?_
     refine jj4 [0] ?_
     refine jcs ?_
     exact jss
    refine zam ?_
    refine zap (t := 4) rfl ?_
    show ∃ _, _
    exact ⟨l, by omega, hl2, rfl, rfl⟩
  ·have q1 : decide ((i : Int) < s.takes.length) = false := decide_eq_false (by omega)
   refine jwk q1 ?_
   refine hK15 _ _ ?_
   refine szf ?_
   refine zau (hK12 _ _ ?_)
   refine szq hp (fun _ hZ => jj3 hZ) ?_
   refine zat hp (τ' := frL [(4, .d (.fs (l.flatMap exZ) l.length))]) (H' := [zde s]) ?_ ?_
   ·refine Rt.trans (Rt.fz (id := 2) (l := (l.flatMap exZ)) rfl) ?_
    refine Rt.trans (Rt.slot 4 (zf9 (zbf (by rw [zds])))) ?_
    refine jj4 [0] ?_
    refine jcs ?_
    exact jss
   refine zam ?_
   refine zap (t := 4) rfl ?_
   show ∃ _, _
   exact ⟨l, by omega, hl2, rfl, rfl⟩
theorem jgf (e : Ex) : (∃ o k w, exZ e = [iD o, nS, iD k, nS, iD w, nS, .val (.slice none 0 0)] ∧ exC e = [iD o, nS, iD k, nS, iD w, nS, .fs [] 0]) ∨ ∃ o k w cs n, exZ e = [iD o, nS, iD k, nS, iD w, nS, .fs cs n] ∧ exC e = [iD o, nS, iD k, nS, iD w, nS, .fs cs n] := by
 cases e <;> first | exact .inl ⟨_, _, _, rfl, rfl⟩ | exact .inr ⟨_, _, _, _, _, rfl, rfl⟩
theorem jqc {l : List Ex} {k : Nat} (h : k < l.length) : zbv (l.flatMap exZ) (k * 7) 7 = some (exZ (nth l k)) := zf8 jqb h
def exV (e : Ex) : List AV := (exC e).map .d
def LfK (C : Ct) (s : Sc) (w : Nat) (x : AV) (S' : zae) : Prop := ∃ e : Ex, Fit C s.q w 0 e ∧ x = .agg (exV e) ∧ ∃ j, S' = [zde s, .cells j]
theorem jqd {p q : Prop} (hq : q) (h : p = q := by
 conv => lhs; simp -dsimp -implicitDefEqProofs (disch := first | assumption | omega | (simp only [r_z, zb0, zds] <;> omega) | decide) only [r_r, ↓reduceIte, Nat.reduceEqDiff, Nat.reduceAdd, D.fix, Int.reduceToNat, Nat.reduceMul, Nat.reduceBNe, Nat.reduceBEq, scV, nI, exR, zbw, zbx, jby]) : p := h.mpr hq
theorem jbz {p q r : Prop} (e : r) (hq : q) (h : r → p = q := by
 intro hY
 conv => lhs; simp -dsimp -implicitDefEqProofs (disch := first | assumption | omega | (simp only [r_z, zb0, zds] <;> omega) | decide) only [r_r, ↓reduceIte, Nat.reduceEqDiff, Nat.reduceAdd, D.fix, Int.reduceToNat, Nat.reduceMul, Nat.reduceBNe, Nat.reduceBEq, scV, nI, exR, zbw, zbx, jby, hY]) : p := (h e).mpr hq
theorem jj6 {p q : Prop} (hq : q) (h : p = q := by
 conv => lhs; simp -dsimp -implicitDefEqProofs (disch := first | assumption | omega | (simp only [r_z, zb0, zds] <;> omega) | decide) only [r_r, ↓reduceIte, Nat.reduceEqDiff, Nat.reduceAdd, D.fix, Int.reduceToNat, Nat.reduceMul, Nat.reduceBNe, Nat.reduceBEq, scV, nI, exR, zbw, zbx, zdj, zdz]) : p := h.mpr hq
theorem jwl {p q r : Prop} (e : r) (hq : q) (h : r → p = q := by
 intro hY
 conv => lhs; simp -dsimp -implicitDefEqProofs (disch := first | assumption | omega | (simp only [r_z, zb0, zds] <;> omega) | decide) only [r_r, ↓reduceIte, Nat.reduceEqDiff, Nat.reduceAdd, D.fix, Int.reduceToNat, Nat.reduceMul, Nat.reduceBNe, Nat.reduceBEq, scV, nI, exR, zbw, zbx, jqc, jqb, jby, hY]) : p := (h e).mpr hq
theorem yau {p : Prop} (h : p := by
 first | rfl | (simp only [r_g, Nat.reduceAdd, ↓reduceIte, Nat.reduceEqDiff, scV, nI, exR, zbw, zbx]; first | done | rfl)) : p := h
theorem jn9 (C : Ct) (s : Sc) (w b : Nat) (hs : ScOk C s) (hw1 : 1 ≤ w) (hw : w ≤ 8) (hb : b < 1000) : ScS Try.prog [0] 95 [.agg (scV s), .d (iD w), .d (iD b)] ([zde s, .free]) (LfK C s w) := by
 refine zbh (fn := Try.f95) (by kernel_rfl) Try.func95 rfl (Nat.le_of_ble_eq_true rfl) fun c hc hp => ?_
 refine ze8 ?_
 have hb4 : (b : Int) / 4 = ((b / 4 : Nat) : Int) := by omega
 have hcn := jwf (b / 4) w (by omega) hw
 unfold exC at hcn
 refine szq hp (fun _ hZ => jqd hZ) ?_
 refine zag hp zak hc rfl fun K2 hK2 => ?_
 refine jqd ?_
 refine zjo (S := [zde s]) (T := [.free, .cells (scV s), .cells [.d (iD 0), .d nS, .d (iD 0), .d nS, .d (iD 0), .d nS, .d (.val (.slice none 0 0))]]) (jj5 C s w hs (by omega)) rfl (by first | rfl | (simp [AV.allIs, AV.allI, zaq, zah, zai, okI, ltI, zad, zax, zbe, scV]; done) | (intro o ho; simp at ho; done)) (fun t => zbi (by first | rfl | (simp [AV.allIs, AV.allI, zaq, zah, zai, okI, ltI, zad, zax, zbe, scV]; done) | (intro o ho; simp at ho; done)) t) (by first | rfl | (simp [AV.allIs, AV.allI, zaq, zah, zai, okI, ltI, zad, zax, zbe, scV]; done) | (intro o ho; simp at ho; done)) (by first | rfl | (simp [AV.allIs, AV.allI, zaq, zah, zai, okI, ltI, zad, zax, zbe, scV]; done) | (intro o ho; simp at ho; done)) (by first | rfl | (simp [AV.allIs, AV.allI, zaq, zah, zai, okI, ltI, zad, zax, zbe, scV]; done) | (intro o ho; simp at ho; done)) ?_
 rintro _ _ ⟨l, hll, hl, rfl, rfl⟩
 refine ⟨rfl, ?_⟩
 refine jqd ?_
 refine hK2 _ _ ?_
 refine zaa fun K3 hK3 => ?_
 refine zag hp zak hc rfl fun K4 hK4 => ?_
 rcases Nat.eq_zero_or_pos l.length with q | q
 ·have q1 : ((l.length : Int) == 0) = true := by simp [q]
  refine jbz q1 ?_
  refine hK4 _ _ ?_
  refine szt ?_
  refine zag hp zak hc rfl fun K5 hK5 => ?_
  refine jbz hb4 ?_
  refine zbp (hcn) rfl ?_
  refine jbz hb4 ?_
  refine hK5 _ _ ?_
  refine zat hp (τ' := frL [(6, .op 1 0)]) (H' := [zde s, .cells ((exR 1 ((b / 4 % 2 ^ w : Nat) : Int) w [] 0).map .d)]) ?_ ?_
  ·refine jj4 [0,3] ?_
   refine jcs ?_
   exact yau
  refine zam ?_
  try dsimp only [zco, za8]
  refine zba rfl ?_
  refine jj6 ?_
  show ∃ _, _
  exact ⟨.con (b / 4 % 2 ^ w) w, ⟨⟨hw1, hw, jwe⟩, rfl, Nat.le_refl _⟩, rfl, _, rfl⟩
 ·have q1 : ((l.length : Int) == 0) = false := by rw [beq_eq_false_iff_ne]; omega
  refine jbz q1 ?_
  refine hK4 _ _ ?_
  refine zal rfl (fun ht => ?_) (fun ht => ?_)
  ·refine zag hp zak hc rfl fun K6 hK6 => ?_
   refine jbz hb4 ?_
   refine zbp (hcn) rfl ?_
   refine jbz hb4 ?_
   refine hK6 _ _ ?_
   refine zat hp (τ' := frL [(6, .op 1 0)]) (H' := [zde s, .cells ((exR 1 ((b / 4 % 2 ^ w : Nat) : Int) w [] 0).map .d)]) ?_ ?_
   ·refine jj4 [0,3] ?_
    refine jcs ?_
    exact yau
   refine zam ?_
   try dsimp only [zco, za8]
   refine zba rfl ?_
   refine jj6 ?_
   show ∃ _, _
   exact ⟨.con (b / 4 % 2 ^ w) w, ⟨⟨hw1, hw, jwe⟩, rfl, Nat.le_refl _⟩, rfl, _, rfl⟩
  ·refine zaj (hK3 _ _ ?_)
   obtain ⟨j, hj⟩ : ∃ j : Nat, j = b / 4 % l.length := ⟨_, rfl⟩
   have hjl : j < l.length := by rw [hj]; exact Nat.mod_lt _ q
   have hji : ((b / 4 : Nat) : Int) % (l.length : Int) = (j : Int) := by rw [hj]; exact (Int.natCast_emod _ _).symm
   refine zag hp zak hc rfl fun K7 hK7 => ?_
   rcases jgf (nth l j) with ⟨xo, xk, xw, hex, hex2⟩ | ⟨xo, xk, xw, xc, xn, hex, hex2⟩
   ·refine jwl (sza hb4 (sza hji hex)) ?_
    refine hK7 _ _ ?_
    refine zat hp (τ' := frL [(6, .op 1 0)]) (H' := [zde s, .cells [.d (iD xo), .d nS, .d (iD xk), .d nS, .d (iD xw), .d nS, .d (.fs [] 0)]]) ?_ ?_
    ·refine Rt.trans (Rt.fixc 3 6 rfl rfl) ?_
     refine jj4 [0,3] ?_
     refine jcs ?_
     exact yau
    refine zam ?_
    try dsimp only [zco, za8]
    refine zba rfl ?_
    refine jj6 ?_
    show ∃ _, _
    exact ⟨nth l j, hl _ (zb3 hjl), by unfold exV; rw [hex2]; rfl, _, rfl⟩
   ·refine jwl (sza hb4 (sza hji hex)) ?_
    refine hK7 _ _ ?_
    refine zat hp (τ' := frL [(6, .op 1 0)]) (H' := [zde s, .cells [.d (iD xo), .d nS, .d (iD xk), .d nS, .d (iD xw), .d nS, .d (.fs xc xn)]]) ?_ ?_
    ·refine jj4 [0,3] ?_
     refine jcs ?_
     exact yau
    refine zam ?_
    try dsimp only [zco, za8]
    refine zba rfl ?_
    refine jj6 ?_
    show ∃ _, _
    exact ⟨nth l j, hl _ (zb3 hjl), by unfold exV; rw [hex2]; rfl, _, rfl⟩
end Go.Proofs.Ytapjobndmmkanaa
