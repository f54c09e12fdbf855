/- Comparisons and their order: the law. -/
import Derived.Test.YtignimmnnccblaaQr
import Derived.Test.YtignimmnnccblaaMk
set_option linter.unusedVariables false
set_option linter.unusedSimpArgs false
set_option maxRecDepth 100000
set_option maxHeartbeats 4000000
namespace Go.Proofs.Ytignimmnnccblaa
open Go Go.RowKit
theorem zcp : ((((((type_of% @zsr) ∧ ((type_of% @zss) ∧ (type_of% @zyz))) ∧ ((type_of% @zy0) ∧ ((type_of% @zy1) ∧ (type_of% @zmn)))) ∧ (((type_of% @zmo) ∧ ((type_of% @zre) ∧ (type_of% @zds))) ∧ ((type_of% @zdt) ∧ ((type_of% @zg6) ∧ (type_of% @zg5))))) ∧ ((((type_of% @jep) ∧ ((type_of% @jeq) ∧ (type_of% @jo5))) ∧ ((type_of% @jch) ∧ ((type_of% @jci) ∧ (type_of% @jcj)))) ∧ (((type_of% @jck) ∧ ((type_of% @jcl) ∧ (type_of% @jcm))) ∧ (((type_of% @jcn) ∧ (type_of% @jco)) ∧ ((type_of% @jcp) ∧ (type_of% @jcq)))))) ∧ (((((type_of% @zwu) ∧ ((type_of% @zwv) ∧ (type_of% @jfu))) ∧ ((type_of% @jfv) ∧ ((type_of% @jfw) ∧ (type_of% @jo4)))) ∧ (((type_of% @jo3) ∧ ((type_of% @ze4) ∧ (type_of% @ze5))) ∧ (((type_of% @ze6) ∧ (type_of% @ze7)) ∧ ((type_of% @znz) ∧ (type_of% @zn0))))) ∧ ((((type_of% @zsv) ∧ ((type_of% @zsu) ∧ (type_of% @zle))) ∧ ((type_of% @zlf) ∧ ((type_of% @zjk) ∧ (type_of% @zjl)))) ∧ (((type_of% @zjm) ∧ ((type_of% @zqi) ∧ (type_of% @zqj))) ∧ (((type_of% @zsw) ∧ (type_of% @zif)) ∧ ((type_of% @zig) ∧ (type_of% @zih))))))) := ⟨⟨⟨⟨⟨@zsr, ⟨@zss, @zyz⟩⟩, ⟨@zy0, ⟨@zy1, @zmn⟩⟩⟩, ⟨⟨@zmo, ⟨@zre, @zds⟩⟩, ⟨@zdt, ⟨@zg6, @zg5⟩⟩⟩⟩, ⟨⟨⟨@jep, ⟨@jeq, @jo5⟩⟩, ⟨@jch, ⟨@jci, @jcj⟩⟩⟩, ⟨⟨@jck, ⟨@jcl, @jcm⟩⟩, ⟨⟨@jcn, @jco⟩, ⟨@jcp, @jcq⟩⟩⟩⟩⟩, ⟨⟨⟨⟨@zwu, ⟨@zwv, @jfu⟩⟩, ⟨@jfv, ⟨@jfw, @jo4⟩⟩⟩, ⟨⟨@jo3, ⟨@ze4, @ze5⟩⟩, ⟨⟨@ze6, @ze7⟩, ⟨@znz, @zn0⟩⟩⟩⟩, ⟨⟨⟨@zsv, ⟨@zsu, @zle⟩⟩, ⟨@zlf, ⟨@zjk, @zjl⟩⟩⟩, ⟨⟨@zjm, ⟨@zqi, @zqj⟩⟩, ⟨⟨@zsw, @zif⟩, ⟨@zig, @zih⟩⟩⟩⟩⟩⟩
section
variable {a b a' b' : Net} {sh : Sh} {is is' : Bool} {L L' : List Bool} {E E' : Int}
theorem CmpS.two (h : CmpS a b sh is L E) : E = 2 ∨ E = 0 := by
 rcases h with ⟨_, _, h, _⟩ | ⟨_, _, h, _⟩ | ⟨_, h, _⟩
 ·exact .inl h
 ·exact .inr h
 ·exact .inr h
theorem CmpS.is_iff (h : CmpS a b sh is L E) (h0 : E = 0) : is = true ↔ ∀ l, zk2 a b sh l = false := by
 rcases h with ⟨_, _, h, _⟩ | ⟨h1, _, _, h2⟩ | ⟨h1, _, i, _, h2, _⟩
 ·omega
 ·exact ⟨fun _ => h2, fun _ => h1⟩
 ·exact ⟨fun h => (by rw [h1] at h; cases h), fun h => (by rw [h] at h2; cases h2)⟩
theorem CmpS.uniq (h : CmpS a b sh is L E) (h' : CmpS a' b' sh is' L' E') (hi : a'.ins.length = a.ins.length) (hd : ∀ l, zk2 a' b' sh l = zk2 a b sh l) (h0 : E = 0) (h0' : E' = 0) : is' = is ∧ L' = L := by
 have k1 := h.is_iff h0
 have k2 := h'.is_iff h0'
 have hb : is' = is := by
  rw [Bool.eq_iff_iff, k1, k2]
  exact ⟨fun h l => by rw [← hd]; exact h l, fun h l => by rw [hd]; exact h l⟩
 refine ⟨hb, ?_⟩
 rcases h with ⟨_, _, h, _⟩ | ⟨h1, h2, _, h3⟩ | ⟨h1, _, i, q1, q2, q3, q4⟩
 ·omega
 ·rcases h' with ⟨_, _, h, _⟩ | ⟨_, g2, _, _⟩ | ⟨g1, _⟩
  ·omega
  ·rw [h2, g2]
  ·rw [hb, h1] at g1; cases g1
 ·rcases h' with ⟨_, _, h, _⟩ | ⟨g1, _⟩ | ⟨g1, _, j, p1, p2, p3, p4⟩
  ·omega
  ·rw [hb, h1] at g1; cases g1
  ·rw [hi] at p1 p2 p3 p4
   have e : j = i := by
    rcases Nat.lt_trichotomy j i with hc | hc | hc
    ·have := q3 j hc; rw [hd] at p2; rw [this] at p2; cases p2
    ·exact hc
    ·have := p3 i hc; rw [hd] at this; rw [this] at q2; cases q2
   rw [p4, q4, e]
theorem CmpS.len (h : CmpS a b sh is L E) (hV : zci a.ins.length sh ≤ 60) : L.length ≤ maxLen := by
 unfold maxLen
 rcases h with ⟨_, rfl, _⟩ | ⟨_, rfl, _⟩ | ⟨_, _, i, _, _, _, rfl⟩
 ·simp
 ·simp
 ·simp [zhz]; omega
theorem jej (i1 i2 : Bool) (l1 l2 : List Bool) (e1 e2 : Int) (hl : l1.length ≤ maxLen) (h1 : i1 = i2) (h2 : l1 = l2) (h3 : e1 = e2) : zbf Try.prog 12 [zca i1 l1 e1, zca i2 l2 e2] (.d (oD true)) := by
 have h := jd6 i1 i2 l1 l2 e1 e2 hl
 subst h1 h2 h3
 rw [show ((i1 == i1) && ((e1 == e1) && decide (l1 = l1))) = true by simp] at h
 exact h
end
theorem Chg.pair {m : Nat} {a b : Net} (ha : NetQ m a) (h : Chg m a b) (hm : m + 18 ≤ 100) (hs : a.gates.length + b.gates.length ≤ 180) : Pair a b := ⟨ha.up (by omega), h.q.up hm, h.ins, h.out, h.dl, hs⟩
def fpC (n : Net) : D := .fp (zaz n) 0
def fpM (is : Bool) (L : List Bool) (E : Int) : D := .fp [oD is, boolsD L, iD E] 0
theorem zuo (x : RawN) (hx : RawOk x) (hi : x.ins.length ≤ maxLen) (hg : x.gates.length ≤ maxLen) (ho : x.out.length ≤ maxLen) (k0 k1 k2 k3 n0 n1 n2 n3 : Nat) (h0 : k0 < 256) (h1 : k1 < 256) (h2 : k2 < 256) (h3 : k3 < 256) (m0 : n0 < 256) (m1 : n1 < 256) (m2 : n2 < 256) (m3 : n3 < 256) : zbf Try.prog 3 [.agg (zbp x), .agg [u8D k0, u8D k1, u8D k2, u8D k3], .agg [u8D n0, u8D n1, u8D n2, u8D n3]] (.d (oD true)) := by
 refine zbi (fn := Try.f3) (by kernel_rfl) Try.func3 rfl (Nat.le_of_ble_eq_true rfl) fun c hc hp => ?_
 refine zbk (τ' := frL [(0, .d (.agg (zbp x))), (1, .d (.agg [u8D k0, u8D k1, u8D k2, u8D k3])), (2, .d (.agg [u8D n0, u8D n1, u8D n2, u8D n3]))]) (by repeat (first | exact zal _ | refine zai ?_ (by first | rfl | (simp [r_f, zav, zaw, zab, zaa, zad]; done) | simp [r_f, zav, zaw, zab, zaa, zad, *]))) ?_
 refine zac hp zaj hc rfl fun K1 hK1 => ?_
 simp -dsimp -implicitDefEqProofs (disch := first | assumption | omega | (simp only [r_z, zav, zaw, zab, zaa, zad] <;> omega) | decide) only [r_r, ↓reduceIte, Nat.reduceEqDiff, Nat.reduceAdd, D.fix, Int.reduceToNat, Nat.reduceMul, Nat.reduceBNe, Nat.reduceBEq, zbp, u8D, zas, zaz, zaf, zag, shD, zca, fpC, fpM, zcp]
 refine hK1 _ _ ?_
 refine zac hp zaj hc rfl fun K2 hK2 => ?_
 simp -dsimp -implicitDefEqProofs (disch := first | assumption | omega | (simp only [r_z, zav, zaw, zab, zaa, zad] <;> omega) | decide) only [r_r, ↓reduceIte, Nat.reduceEqDiff, Nat.reduceAdd, D.fix, Int.reduceToNat, Nat.reduceMul, Nat.reduceBNe, Nat.reduceBEq, zbp, u8D, zas, zaz, zaf, zag, shD, zca, fpC, fpM]
 refine zb8 (zpa) rfl ?_
 simp -dsimp -implicitDefEqProofs (disch := first | assumption | omega | (simp only [r_z, zav, zaw, zab, zaa, zad] <;> omega) | decide) only [r_r, ↓reduceIte, Nat.reduceEqDiff, Nat.reduceAdd, D.fix, Int.reduceToNat, Nat.reduceMul, Nat.reduceBNe, Nat.reduceBEq, zbp, u8D, zas, zaz, zaf, zag, shD, zca, fpC, fpM]
 refine hK2 _ _ ?_
 refine zan fun K3 hK3 => ?_
 refine zac hp zaj hc rfl fun K4 hK4 => ?_
 simp -dsimp -implicitDefEqProofs (disch := first | assumption | omega | (simp only [r_z, zav, zaw, zab, zaa, zad] <;> omega) | decide) only [r_r, ↓reduceIte, Nat.reduceEqDiff, Nat.reduceAdd, D.fix, Int.reduceToNat, Nat.reduceMul, Nat.reduceBNe, Nat.reduceBEq, zbp, u8D, zas, zaz, zaf, zag, shD, zca, fpC, fpM, zcp]
 refine hK4 _ _ ?_
 refine zap rfl (fun ht => ?_) (fun ht => ?_)
 ·cases ht
 ·refine za0 (hK3 _ _ ?_)
  refine zac hp zaj hc rfl fun K5 hK5 => ?_
  simp -dsimp -implicitDefEqProofs (disch := first | assumption | omega | (simp only [r_z, zav, zaw, zab, zaa, zad] <;> omega) | decide) only [r_r, ↓reduceIte, Nat.reduceEqDiff, Nat.reduceAdd, D.fix, Int.reduceToNat, Nat.reduceMul, Nat.reduceBNe, Nat.reduceBEq, zbp, u8D, zas, zaz, zaf, zag, shD, zca, fpC, fpM, zcp]
  refine zov (jeb x hx hi hg ho) rfl fun r hr => ?_
  obtain ⟨a, ha, rfl⟩ := hr
  simp -dsimp -implicitDefEqProofs (disch := first | assumption | omega | (simp only [r_z, zav, zaw, zab, zaa, zad] <;> omega) | decide) only [r_r, ↓reduceIte, Nat.reduceEqDiff, Nat.reduceAdd, D.fix, Int.reduceToNat, Nat.reduceMul, Nat.reduceBNe, Nat.reduceBEq, zbp, u8D, zas, zaz, zaf, zag, shD, zca, fpC, fpM, zcp]
  refine hK5 _ _ ?_
  refine zac hp zaj hc rfl fun K6 hK6 => ?_
  simp -dsimp -implicitDefEqProofs (disch := first | assumption | omega | (simp only [r_z, zav, zaw, zab, zaa, zad] <;> omega) | decide) only [r_r, ↓reduceIte, Nat.reduceEqDiff, Nat.reduceAdd, D.fix, Int.reduceToNat, Nat.reduceMul, Nat.reduceBNe, Nat.reduceBEq, zbp, u8D, zas, zaz, zaf, zag, shD, zca, fpC, fpM, zcp]
  refine zov (ztj 60 a ha.q (by omega) (by have := ha.d0; have := ha.d1; omega) k0 k1 k2 k3 h0 h1 h2) rfl fun r hr => ?_
  obtain ⟨b, hb, rfl⟩ := hr
  simp -dsimp -implicitDefEqProofs (disch := first | assumption | omega | (simp only [r_z, zav, zaw, zab, zaa, zad] <;> omega) | decide) only [r_r, ↓reduceIte, Nat.reduceEqDiff, Nat.reduceAdd, D.fix, Int.reduceToNat, Nat.reduceMul, Nat.reduceBNe, Nat.reduceBEq, zbp, u8D, zas, zaz, zaf, zag, shD, zca, fpC, fpM, zcp]
  refine hK6 _ _ ?_
  refine zac hp zaj hc rfl fun K7 hK7 => ?_
  simp -dsimp -implicitDefEqProofs (disch := first | assumption | omega | (simp only [r_z, zav, zaw, zab, zaa, zad] <;> omega) | decide) only [r_r, ↓reduceIte, Nat.reduceEqDiff, Nat.reduceAdd, D.fix, Int.reduceToNat, Nat.reduceMul, Nat.reduceBNe, Nat.reduceBEq, zbp, u8D, zas, zaz, zaf, zag, shD, zca, fpC, fpM, zcp]
  refine zov (ztj 78 b hb.q (by omega) (by have := hb.q.d0; have := hb.q.d1; omega) n0 n1 n2 n3 m0 m1 m2) rfl fun r hr => ?_
  obtain ⟨d, hd, rfl⟩ := hr
  simp -dsimp -implicitDefEqProofs (disch := first | assumption | omega | (simp only [r_z, zav, zaw, zab, zaa, zad] <;> omega) | decide) only [r_r, ↓reduceIte, Nat.reduceEqDiff, Nat.reduceAdd, D.fix, Int.reduceToNat, Nat.reduceMul, Nat.reduceBNe, Nat.reduceBEq, zbp, u8D, zas, zaz, zaf, zag, shD, zca, fpC, fpM, zcp]
  refine hK7 _ _ ?_
  refine zac hp zaj hc rfl fun K8 hK8 => ?_
  simp -dsimp -implicitDefEqProofs (disch := first | assumption | omega | (simp only [r_z, zav, zaw, zab, zaa, zad] <;> omega) | decide) only [r_r, ↓reduceIte, Nat.reduceEqDiff, Nat.reduceAdd, D.fix, Int.reduceToNat, Nat.reduceMul, Nat.reduceBNe, Nat.reduceBEq, zbp, u8D, zas, zaz, zaf, zag, shD, zca, fpC, fpM, zcp]
  refine zb8 (jlc k0 k1 k3 h0 h1 h3) rfl ?_
  simp -dsimp -implicitDefEqProofs (disch := first | assumption | omega | (simp only [r_z, zav, zaw, zab, zaa, zad] <;> omega) | decide) only [r_r, ↓reduceIte, Nat.reduceEqDiff, Nat.reduceAdd, D.fix, Int.reduceToNat, Nat.reduceMul, Nat.reduceBNe, Nat.reduceBEq, zbp, u8D, zas, zaz, zaf, zag, shD, zca, fpC, fpM, zcp]
  obtain ⟨sh, hshd⟩ : ∃ sh, sh = ztm 5 [k0, k1, k3] := ⟨_, rfl⟩
  have hsh : ShOk sh := by rw [hshd]; exact jqw _ rfl _
  have hsv : ∀ n : Nat, zci n sh ≤ n + 5 := fun n => by rw [hshd]; exact jgv _ _
  rw [← hshd]
  have ga := ha.g1
  have gb := hb.q.g1
  have gd := hd.q.g1
  have ia := ha.i2
  have bi := hb.ins
  have di := hd.ins
  have pab : Pair a b := hb.pair ha.q (by omega) (by omega)
  have pbd : Pair b d := hd.pair hb.q (by omega) (by omega)
  have pad : Pair a d := ⟨ha.q.up (by omega), hd.q.up (by omega), by rw [di, bi], by rw [hd.out, hb.out], by rw [hd.dl, hb.dl], by omega⟩
  have paa : Pair a a := ⟨ha.q.up (by omega), ha.q.up (by omega), rfl, rfl, rfl, by omega⟩
  have pba : Pair b a := ⟨hb.q.up (by omega), ha.q.up (by omega), bi.symm, hb.out.symm, hb.dl.symm, by omega⟩
  obtain ⟨i1, l1, e1, S1, C1⟩ := pab.compare hsh (hsv _)
  obtain ⟨i2, l2, e2, S2, C2⟩ := pbd.compare hsh (hsv _)
  obtain ⟨i3, l3, e3, S3, C3⟩ := pad.compare hsh (hsv _)
  obtain ⟨i4, l4, e4, S4, C4⟩ := paa.compare hsh (hsv _)
  obtain ⟨i5, l5, e5, S5, C5⟩ := pba.compare hsh (hsv _)
  have bil : b.ins.length = a.ins.length := by rw [bi]
  have va : zci a.ins.length sh ≤ 60 := by have := hsv a.ins.length; omega
  have hl4 := S4.len va
  have hl5 := S5.len (by rw [bil]; exact va)
  have hl2 := S2.len (by rw [bil]; exact va)
  have hs4 : e4 = 0 → zbf Try.prog 12 [zca i4 l4 e4, zca true [] 0] (.d (oD true)) := fun h => by
   rcases S4 with ⟨_, _, h', _⟩ | ⟨q1, q2, q3, _⟩ | ⟨_, _, i, _, hq, _⟩
   ·omega
   ·exact jej _ _ _ _ _ _ hl4 q1 q2 q3
   ·rw [ztk] at hq; cases hq
  have hs5 : e1 = 0 → e5 = 0 → zbf Try.prog 12 [zca i5 l5 e5, zca i1 l1 e1] (.d (oD true)) := fun h h' => by
   have := S1.uniq S5 bil (fun l => jee b a sh l) h h'
   exact jej _ _ _ _ _ _ hl5 this.1 this.2 (by omega)
  have htr : e1 = 0 → i1 = true → ∀ l, zk2 b d sh l = zk2 a d sh l := fun h h' l => zzg ((S1.is_iff h).1 h' l)
  have hs23 : e1 = 0 → e2 = 0 → e3 = 0 → i1 = true → i2 = i3 ∧ zbf Try.prog 12 [zca i2 l2 e2, zca i3 l3 e3] (.d (oD true)) := fun h h' h'' hi => by
   have := S3.uniq S2 bil (fun l => htr h hi l) h'' h'
   exact ⟨this.1, jej _ _ _ _ _ _ hl2 this.1 this.2 (by omega)⟩
  have hf23 : e1 = 0 → e2 = 0 → e3 = 0 → i2 = true → i3 = true → i1 = true := fun h h' h'' g g' => (S1.is_iff h).2 fun l => by
   have k1 := (S2.is_iff h').1 g l
   have k2 := (S3.is_iff h'').1 g' l
   unfold zk2 at k1 k2 ⊢
   have e1 : jd7 b sh l = jd7 d sh l := by simpa using k1
   have e2 : jd7 a sh l = jd7 d sh l := by simpa using k2
   rw [e1, e2]; simp
  refine hK8 _ _ ?_
  refine zb3 hp (τ' := frL [(7, .d (oD true)), (8, .d (fpC a)), (9, .d (fpC b)), (10, .d (fpC d)), (11, .d (shD sh))]) (H' := []) ?_ ?_
  ·refine Rt.trans (Rt.fz (id := 3) (l := zaz a) rfl) ?_
   refine Rt.trans (Rt.fz (id := 4) (l := zaz b) rfl) ?_
   refine Rt.trans (Rt.fz (id := 5) (l := zaz d) rfl) ?_
   refine Rt.trans (Rt.gc (keep := []) (by decide) (by decide) (by simp [fzH, gcH])) ?_
   refine Rt.end (by repeat (first | exact zal _ | refine zai ?_ (by first | rfl | (simp [r_f, zav, zaw, zab, zaa, zad]; done) | simp [r_f, zav, zaw, zab, zaa, zad, *]))) ?_
   first | rfl | (simp only [r_g, Nat.reduceAdd, ↓reduceIte, Nat.reduceEqDiff, zbp, u8D, zas, zaz, zaf, zag, shD, zca, fpC, fpM]; first | done | rfl)
  refine zbr zaj hc mixed rfl (q := 3) (by kernel_rfl) (by kernel_rfl) fun K9 hK9 => ?_
  simp -dsimp -implicitDefEqProofs (disch := first | assumption | omega | (simp only [r_z, zav, zaw, zab, zaa, zad] <;> omega) | decide) only [r_r, ↓reduceIte, Nat.reduceEqDiff, Nat.reduceAdd, D.fix, Int.reduceToNat, Nat.reduceMul, Nat.reduceBNe, Nat.reduceBEq, zbp, u8D, zas, zaz, zaf, zag, shD, zca, fpC, fpM, zcp]
  refine zb8 (zct a b sh i1 l1 e1 C1) rfl ?_
  simp -dsimp -implicitDefEqProofs (disch := first | assumption | omega | (simp only [r_z, zav, zaw, zab, zaa, zad] <;> omega) | decide) only [r_r, ↓reduceIte, Nat.reduceEqDiff, Nat.reduceAdd, D.fix, Int.reduceToNat, Nat.reduceMul, Nat.reduceBNe, Nat.reduceBEq, zbp, u8D, zas, zaz, zaf, zag, shD, zca, fpC, fpM, zcp]
  refine zb8 (zct b d sh i2 l2 e2 C2) rfl ?_
  simp -dsimp -implicitDefEqProofs (disch := first | assumption | omega | (simp only [r_z, zav, zaw, zab, zaa, zad] <;> omega) | decide) only [r_r, ↓reduceIte, Nat.reduceEqDiff, Nat.reduceAdd, D.fix, Int.reduceToNat, Nat.reduceMul, Nat.reduceBNe, Nat.reduceBEq, zbp, u8D, zas, zaz, zaf, zag, shD, zca, fpC, fpM, zcp]
  refine zb8 (zct a d sh i3 l3 e3 C3) rfl ?_
  simp -dsimp -implicitDefEqProofs (disch := first | assumption | omega | (simp only [r_z, zav, zaw, zab, zaa, zad] <;> omega) | decide) only [r_r, ↓reduceIte, Nat.reduceEqDiff, Nat.reduceAdd, D.fix, Int.reduceToNat, Nat.reduceMul, Nat.reduceBNe, Nat.reduceBEq, zbp, u8D, zas, zaz, zaf, zag, shD, zca, fpC, fpM, zcp]
  refine hK9 _ _ ?_
  refine zac hp zaj hc rfl fun K10 hK10 => ?_
  simp -dsimp -implicitDefEqProofs (disch := first | assumption | omega | (simp only [r_z, zav, zaw, zab, zaa, zad] <;> omega) | decide) only [r_r, ↓reduceIte, Nat.reduceEqDiff, Nat.reduceAdd, D.fix, Int.reduceToNat, Nat.reduceMul, Nat.reduceBNe, Nat.reduceBEq, zbp, u8D, zas, zaz, zaf, zag, shD, zca, fpC, fpM, zcp]
  refine zb8 (zct a a sh i4 l4 e4 C4) rfl ?_
  simp -dsimp -implicitDefEqProofs (disch := first | assumption | omega | (simp only [r_z, zav, zaw, zab, zaa, zad] <;> omega) | decide) only [r_r, ↓reduceIte, Nat.reduceEqDiff, Nat.reduceAdd, D.fix, Int.reduceToNat, Nat.reduceMul, Nat.reduceBNe, Nat.reduceBEq, zbp, u8D, zas, zaz, zaf, zag, shD, zca, fpC, fpM, zcp]
  refine hK10 _ _ ?_
  refine zan fun K11 hK11 => ?_
  refine zb3 hp (τ' := frL [(7, .d (oD true)), (8, .d (fpC a)), (9, .d (fpC b)), (11, .d (shD sh)), (12, .d (fpM i1 l1 e1)), (13, .d (fpM i2 l2 e2)), (14, .d (fpM i3 l3 e3)), (15, .d (fpM i4 l4 e4))]) (H' := []) ?_ ?_
  ·refine Rt.trans (Rt.fz (id := 0) (l := [oD i1, boolsD l1, iD e1]) rfl) ?_
   refine Rt.trans (Rt.fz (id := 1) (l := [oD i2, boolsD l2, iD e2]) rfl) ?_
   refine Rt.trans (Rt.fz (id := 2) (l := [oD i3, boolsD l3, iD e3]) rfl) ?_
   refine Rt.trans (Rt.fz (id := 3) (l := [oD i4, boolsD l4, iD e4]) rfl) ?_
   refine Rt.trans (Rt.gc (keep := []) (by decide) (by decide) (by simp [fzH, gcH])) ?_
   refine Rt.end (by repeat (first | exact zal _ | refine zai ?_ (by first | rfl | (simp [r_f, zav, zaw, zab, zaa, zad]; done) | simp [r_f, zav, zaw, zab, zaa, zad, *]))) ?_
   first | rfl | (simp only [r_g, Nat.reduceAdd, ↓reduceIte, Nat.reduceEqDiff, zbp, u8D, zas, zaz, zaf, zag, shD, zca, fpC, fpM]; first | done | rfl)
  refine zbr zaj hc mixed rfl (q := 0) (by kernel_rfl) (by kernel_rfl) fun K12 hK12 => ?_
  have hJ12 : ∀ τ' H', (∃ τ1 H1, H1 = [] ∧ τ1 = frL [(7, .d (oD true)), (12, .d (fpM i1 l1 e1)), (13, .d (fpM i2 l2 e2)), (14, .d (fpM i3 l3 e3)), (81, .d (oD false))] ∧ Rt [] τ' H' τ1 H1) → K12 τ' H' := by
   rintro τ' H' ⟨_, _, rfl, rfl, hrt⟩
   refine hK12 _ _ (zb3 hp hrt ?_)
   clear hrt
   refine zap rfl (fun ht => ?_) (fun ht => ?_)
   ·cases ht
   ·refine za0 (hK11 _ _ ?_)
    refine zan fun K13 hK13 => ?_
    refine zac hp zaj hc rfl fun K14 hK14 => ?_
    rcases (show (e1 != 0) = true ∨ (e1 = 0 ∧ (e2 != 0) = true) ∨ (e1 = 0 ∧ e2 = 0 ∧ (e3 != 0) = true) ∨ (e1 = 0 ∧ e2 = 0 ∧ e3 = 0) by rcases S1.two with h | h <;> rcases S2.two with h' | h' <;> rcases S3.two with h'' | h'' <;> simp [h, h', h'']) with q1 | ⟨q1, q2⟩ | ⟨q1, q2, q3⟩ | ⟨z1, z2, z3⟩
    ·have q2 := q1
     have q3 := q1
     simp -dsimp -implicitDefEqProofs (disch := first | assumption | omega | (simp only [r_z, zav, zaw, zab, zaa, zad] <;> omega) | decide) only [r_r, ↓reduceIte, Nat.reduceEqDiff, Nat.reduceAdd, D.fix, Int.reduceToNat, Nat.reduceMul, Nat.reduceBNe, Nat.reduceBEq, zbp, u8D, zas, zaz, zaf, zag, shD, zca, fpC, fpM, q1, q2, q3, zcp]
     refine hK14 _ _ ?_
     refine zap rfl (fun ht => ?_) (fun ht => ?_)
     ·refine zac hp zaj hc rfl fun K15 hK15 => ?_
      simp -dsimp -implicitDefEqProofs (disch := first | assumption | omega | (simp only [r_z, zav, zaw, zab, zaa, zad] <;> omega) | decide) only [r_r, ↓reduceIte, Nat.reduceEqDiff, Nat.reduceAdd, D.fix, Int.reduceToNat, Nat.reduceMul, Nat.reduceBNe, Nat.reduceBEq, zbp, u8D, zas, zaz, zaf, zag, shD, zca, fpC, fpM]
      refine hK15 _ _ ?_
      refine za6 ?_
      show closeA _ _ = _
      simp (disch := first | assumption | omega | (simp only [r_z, zav, zaw, zab, zaa, zad] <;> omega) | decide) only [r_c, Nat.reduceAdd, D.fix, ↓reduceIte, Nat.reduceEqDiff, zbp, u8D, zas, zaz, zaf, zag, shD, zca, fpC, fpM]
     ·cases ht
    ·have q1 : (e1 != 0) = false := by rw [q1]; rfl
     have q3 := q1
     simp -dsimp -implicitDefEqProofs (disch := first | assumption | omega | (simp only [r_z, zav, zaw, zab, zaa, zad] <;> omega) | decide) only [r_r, ↓reduceIte, Nat.reduceEqDiff, Nat.reduceAdd, D.fix, Int.reduceToNat, Nat.reduceMul, Nat.reduceBNe, Nat.reduceBEq, zbp, u8D, zas, zaz, zaf, zag, shD, zca, fpC, fpM, q1, q2, q3, zcp]
     refine hK14 _ _ ?_
     refine zap rfl (fun ht => ?_) (fun ht => ?_)
     ·refine zac hp zaj hc rfl fun K16 hK16 => ?_
      simp -dsimp -implicitDefEqProofs (disch := first | assumption | omega | (simp only [r_z, zav, zaw, zab, zaa, zad] <;> omega) | decide) only [r_r, ↓reduceIte, Nat.reduceEqDiff, Nat.reduceAdd, D.fix, Int.reduceToNat, Nat.reduceMul, Nat.reduceBNe, Nat.reduceBEq, zbp, u8D, zas, zaz, zaf, zag, shD, zca, fpC, fpM]
      refine hK16 _ _ ?_
      refine za6 ?_
      show closeA _ _ = _
      simp (disch := first | assumption | omega | (simp only [r_z, zav, zaw, zab, zaa, zad] <;> omega) | decide) only [r_c, Nat.reduceAdd, D.fix, ↓reduceIte, Nat.reduceEqDiff, zbp, u8D, zas, zaz, zaf, zag, shD, zca, fpC, fpM]
     ·cases ht
    ·have q1 : (e1 != 0) = false := by rw [q1]; rfl
     have q2 : (e2 != 0) = false := by rw [q2]; rfl
     simp -dsimp -implicitDefEqProofs (disch := first | assumption | omega | (simp only [r_z, zav, zaw, zab, zaa, zad] <;> omega) | decide) only [r_r, ↓reduceIte, Nat.reduceEqDiff, Nat.reduceAdd, D.fix, Int.reduceToNat, Nat.reduceMul, Nat.reduceBNe, Nat.reduceBEq, zbp, u8D, zas, zaz, zaf, zag, shD, zca, fpC, fpM, q1, q2, q3, zcp]
     refine hK14 _ _ ?_
     refine zap rfl (fun ht => ?_) (fun ht => ?_)
     ·refine zac hp zaj hc rfl fun K17 hK17 => ?_
      simp -dsimp -implicitDefEqProofs (disch := first | assumption | omega | (simp only [r_z, zav, zaw, zab, zaa, zad] <;> omega) | decide) only [r_r, ↓reduceIte, Nat.reduceEqDiff, Nat.reduceAdd, D.fix, Int.reduceToNat, Nat.reduceMul, Nat.reduceBNe, Nat.reduceBEq, zbp, u8D, zas, zaz, zaf, zag, shD, zca, fpC, fpM]
      refine hK17 _ _ ?_
      refine za6 ?_
      show closeA _ _ = _
      simp (disch := first | assumption | omega | (simp only [r_z, zav, zaw, zab, zaa, zad] <;> omega) | decide) only [r_c, Nat.reduceAdd, D.fix, ↓reduceIte, Nat.reduceEqDiff, zbp, u8D, zas, zaz, zaf, zag, shD, zca, fpC, fpM]
     ·cases ht
    ·have q1 : (e1 != 0) = false := by rw [z1]; rfl
     have q2 : (e2 != 0) = false := by rw [z2]; rfl
     have q3 : (e3 != 0) = false := by rw [z3]; rfl
     simp -dsimp -implicitDefEqProofs (disch := first | assumption | omega | (simp only [r_z, zav, zaw, zab, zaa, zad] <;> omega) | decide) only [r_r, ↓reduceIte, Nat.reduceEqDiff, Nat.reduceAdd, D.fix, Int.reduceToNat, Nat.reduceMul, Nat.reduceBNe, Nat.reduceBEq, zbp, u8D, zas, zaz, zaf, zag, shD, zca, fpC, fpM, q1, q2, q3, zcp]
     refine hK14 _ _ ?_
     refine zap rfl (fun ht => ?_) (fun ht => ?_)
     ·cases ht
     ·refine za0 (hK13 _ _ ?_)
      refine zan fun K18 hK18 => ?_
      refine zac hp zaj hc rfl fun K19 hK19 => ?_
      rcases (show (i1 = true ∧ i2 = true ∧ i3 = true) ∨ (i1 = true ∧ i2 = false ∧ i3 = false) ∨ (i1 = false ∧ i2 = true ∧ i3 = false) ∨ (i1 = false ∧ i2 = false ∧ i3 = true) ∨ (i1 = false ∧ i2 = false ∧ i3 = false) by have g1 := hs23 z1 z2 z3; have g2 := hf23 z1 z2 z3; have g1' : i1 = true → i2 = i3 := fun h => (g1 h).1; clear g1; revert g1' g2; cases i1 <;> cases i2 <;> cases i3 <;> simp) with ⟨w1, w2, w3⟩ | ⟨w1, w2, w3⟩ | ⟨w1, w2, w3⟩ | ⟨w1, w2, w3⟩ | ⟨w1, w2, w3⟩
      ·have hs := (hs23 z1 z2 z3 w1).2
       rw [w2, w3] at hs
       simp -dsimp -implicitDefEqProofs (disch := first | assumption | omega | (simp only [r_z, zav, zaw, zab, zaa, zad] <;> omega) | decide) only [r_r, ↓reduceIte, Nat.reduceEqDiff, Nat.reduceAdd, D.fix, Int.reduceToNat, Nat.reduceMul, Nat.reduceBNe, Nat.reduceBEq, zbp, u8D, zas, zaz, zaf, zag, shD, zca, fpC, fpM, w1, w2, w3, zcp]
       refine hK19 _ _ ?_
       refine zap rfl (fun ht => ?_) (fun ht => ?_)
       ·cases ht
       ·refine za0 (hK18 _ _ ?_)
        refine zac hp zaj hc rfl fun K20 hK20 => ?_
        simp -dsimp -implicitDefEqProofs (disch := first | assumption | omega | (simp only [r_z, zav, zaw, zab, zaa, zad] <;> omega) | decide) only [r_r, ↓reduceIte, Nat.reduceEqDiff, Nat.reduceAdd, D.fix, Int.reduceToNat, Nat.reduceMul, Nat.reduceBNe, Nat.reduceBEq, zbp, u8D, zas, zaz, zaf, zag, shD, zca, fpC, fpM, w1, zcp]
        refine zb8 (hs) rfl ?_
        simp -dsimp -implicitDefEqProofs (disch := first | assumption | omega | (simp only [r_z, zav, zaw, zab, zaa, zad] <;> omega) | decide) only [r_r, ↓reduceIte, Nat.reduceEqDiff, Nat.reduceAdd, D.fix, Int.reduceToNat, Nat.reduceMul, Nat.reduceBNe, Nat.reduceBEq, zbp, u8D, zas, zaz, zaf, zag, shD, zca, fpC, fpM, w1, zcp]
        refine hK20 _ _ ?_
        refine za6 ?_
        show closeA _ _ = _
        simp (disch := first | assumption | omega | (simp only [r_z, zav, zaw, zab, zaa, zad] <;> omega) | decide) only [r_c, Nat.reduceAdd, D.fix, ↓reduceIte, Nat.reduceEqDiff, zbp, u8D, zas, zaz, zaf, zag, shD, zca, fpC, fpM]
      ·have hs := (hs23 z1 z2 z3 w1).2
       rw [w2, w3] at hs
       simp -dsimp -implicitDefEqProofs (disch := first | assumption | omega | (simp only [r_z, zav, zaw, zab, zaa, zad] <;> omega) | decide) only [r_r, ↓reduceIte, Nat.reduceEqDiff, Nat.reduceAdd, D.fix, Int.reduceToNat, Nat.reduceMul, Nat.reduceBNe, Nat.reduceBEq, zbp, u8D, zas, zaz, zaf, zag, shD, zca, fpC, fpM, w1, w2, w3, zcp]
       refine hK19 _ _ ?_
       refine zap rfl (fun ht => ?_) (fun ht => ?_)
       ·cases ht
       ·refine za0 (hK18 _ _ ?_)
        refine zac hp zaj hc rfl fun K21 hK21 => ?_
        simp -dsimp -implicitDefEqProofs (disch := first | assumption | omega | (simp only [r_z, zav, zaw, zab, zaa, zad] <;> omega) | decide) only [r_r, ↓reduceIte, Nat.reduceEqDiff, Nat.reduceAdd, D.fix, Int.reduceToNat, Nat.reduceMul, Nat.reduceBNe, Nat.reduceBEq, zbp, u8D, zas, zaz, zaf, zag, shD, zca, fpC, fpM, w1, zcp]
        refine zb8 (hs) rfl ?_
        simp -dsimp -implicitDefEqProofs (disch := first | assumption | omega | (simp only [r_z, zav, zaw, zab, zaa, zad] <;> omega) | decide) only [r_r, ↓reduceIte, Nat.reduceEqDiff, Nat.reduceAdd, D.fix, Int.reduceToNat, Nat.reduceMul, Nat.reduceBNe, Nat.reduceBEq, zbp, u8D, zas, zaz, zaf, zag, shD, zca, fpC, fpM, w1, zcp]
        refine hK21 _ _ ?_
        refine za6 ?_
        show closeA _ _ = _
        simp (disch := first | assumption | omega | (simp only [r_z, zav, zaw, zab, zaa, zad] <;> omega) | decide) only [r_c, Nat.reduceAdd, D.fix, ↓reduceIte, Nat.reduceEqDiff, zbp, u8D, zas, zaz, zaf, zag, shD, zca, fpC, fpM]
      ·simp -dsimp -implicitDefEqProofs (disch := first | assumption | omega | (simp only [r_z, zav, zaw, zab, zaa, zad] <;> omega) | decide) only [r_r, ↓reduceIte, Nat.reduceEqDiff, Nat.reduceAdd, D.fix, Int.reduceToNat, Nat.reduceMul, Nat.reduceBNe, Nat.reduceBEq, zbp, u8D, zas, zaz, zaf, zag, shD, zca, fpC, fpM, w1, w2, w3, zcp]
       refine hK19 _ _ ?_
       refine zap rfl (fun ht => ?_) (fun ht => ?_)
       ·cases ht
       ·refine za0 (hK18 _ _ ?_)
        refine zac hp zaj hc rfl fun K22 hK22 => ?_
        simp -dsimp -implicitDefEqProofs (disch := first | assumption | omega | (simp only [r_z, zav, zaw, zab, zaa, zad] <;> omega) | decide) only [r_r, ↓reduceIte, Nat.reduceEqDiff, Nat.reduceAdd, D.fix, Int.reduceToNat, Nat.reduceMul, Nat.reduceBNe, Nat.reduceBEq, zbp, u8D, zas, zaz, zaf, zag, shD, zca, fpC, fpM, w1, zcp]
        refine hK22 _ _ ?_
        refine za6 ?_
        show closeA _ _ = _
        simp (disch := first | assumption | omega | (simp only [r_z, zav, zaw, zab, zaa, zad] <;> omega) | decide) only [r_c, Nat.reduceAdd, D.fix, ↓reduceIte, Nat.reduceEqDiff, zbp, u8D, zas, zaz, zaf, zag, shD, zca, fpC, fpM]
      ·simp -dsimp -implicitDefEqProofs (disch := first | assumption | omega | (simp only [r_z, zav, zaw, zab, zaa, zad] <;> omega) | decide) only [r_r, ↓reduceIte, Nat.reduceEqDiff, Nat.reduceAdd, D.fix, Int.reduceToNat, Nat.reduceMul, Nat.reduceBNe, Nat.reduceBEq, zbp, u8D, zas, zaz, zaf, zag, shD, zca, fpC, fpM, w1, w2, w3, zcp]
       refine hK19 _ _ ?_
       refine zap rfl (fun ht => ?_) (fun ht => ?_)
       ·cases ht
       ·refine za0 (hK18 _ _ ?_)
        refine zac hp zaj hc rfl fun K23 hK23 => ?_
        simp -dsimp -implicitDefEqProofs (disch := first | assumption | omega | (simp only [r_z, zav, zaw, zab, zaa, zad] <;> omega) | decide) only [r_r, ↓reduceIte, Nat.reduceEqDiff, Nat.reduceAdd, D.fix, Int.reduceToNat, Nat.reduceMul, Nat.reduceBNe, Nat.reduceBEq, zbp, u8D, zas, zaz, zaf, zag, shD, zca, fpC, fpM, w1, zcp]
        refine hK23 _ _ ?_
        refine za6 ?_
        show closeA _ _ = _
        simp (disch := first | assumption | omega | (simp only [r_z, zav, zaw, zab, zaa, zad] <;> omega) | decide) only [r_c, Nat.reduceAdd, D.fix, ↓reduceIte, Nat.reduceEqDiff, zbp, u8D, zas, zaz, zaf, zag, shD, zca, fpC, fpM]
      ·simp -dsimp -implicitDefEqProofs (disch := first | assumption | omega | (simp only [r_z, zav, zaw, zab, zaa, zad] <;> omega) | decide) only [r_r, ↓reduceIte, Nat.reduceEqDiff, Nat.reduceAdd, D.fix, Int.reduceToNat, Nat.reduceMul, Nat.reduceBNe, Nat.reduceBEq, zbp, u8D, zas, zaz, zaf, zag, shD, zca, fpC, fpM, w1, w2, w3, zcp]
       refine hK19 _ _ ?_
       refine zap rfl (fun ht => ?_) (fun ht => ?_)
       ·cases ht
       ·refine za0 (hK18 _ _ ?_)
        refine zac hp zaj hc rfl fun K24 hK24 => ?_
        simp -dsimp -implicitDefEqProofs (disch := first | assumption | omega | (simp only [r_z, zav, zaw, zab, zaa, zad] <;> omega) | decide) only [r_r, ↓reduceIte, Nat.reduceEqDiff, Nat.reduceAdd, D.fix, Int.reduceToNat, Nat.reduceMul, Nat.reduceBNe, Nat.reduceBEq, zbp, u8D, zas, zaz, zaf, zag, shD, zca, fpC, fpM, w1, zcp]
        refine hK24 _ _ ?_
        refine za6 ?_
        show closeA _ _ = _
        simp (disch := first | assumption | omega | (simp only [r_z, zav, zaw, zab, zaa, zad] <;> omega) | decide) only [r_c, Nat.reduceAdd, D.fix, ↓reduceIte, Nat.reduceEqDiff, zbp, u8D, zas, zaz, zaf, zag, shD, zca, fpC, fpM]
  rcases (show (e4 == 0) = false ∨ e4 = 0 by rcases S4.two with h | h; exact .inl (by rw [h]; rfl); exact .inr h) with q4 | q4 <;> rcases (show (e1 == 0) = false ∨ (e1 = 0 ∧ (e5 == 0) = false) ∨ (e1 = 0 ∧ e5 = 0) by rcases S1.two with h | h; exact .inl (by rw [h]; rfl); rcases S5.two with h' | h'; exact .inr (.inl ⟨h, by rw [h']; rfl⟩); exact .inr (.inr ⟨h, h'⟩)) with q1 | ⟨q1, q5⟩ | ⟨q1, q5⟩
  ·have q5 := q1
   simp -dsimp -implicitDefEqProofs (disch := first | assumption | omega | (simp only [r_z, zav, zaw, zab, zaa, zad] <;> omega) | decide) only [r_r, ↓reduceIte, Nat.reduceEqDiff, Nat.reduceAdd, D.fix, Int.reduceToNat, Nat.reduceMul, Nat.reduceBNe, Nat.reduceBEq, zbp, u8D, zas, zaz, zaf, zag, shD, zca, fpC, fpM, q4, q1, q5, zcp]
   refine (hJ12 _ _ ⟨_, _, rfl, rfl, ?_⟩)
   refine Rt.end (by repeat (first | exact zal _ | refine zai ?_ (by first | rfl | (simp [r_f, zav, zaw, zab, zaa, zad]; done) | simp [r_f, zav, zaw, zab, zaa, zad, *]))) ?_
   first | rfl | (simp only [r_g, Nat.reduceAdd, ↓reduceIte, Nat.reduceEqDiff, zbp, u8D, zas, zaz, zaf, zag, shD, zca, fpC, fpM]; first | done | rfl)
  ·have z1 : (e1 == 0) = true := by rw [q1]; rfl
   have q1 := z1
   simp -dsimp -implicitDefEqProofs (disch := first | assumption | omega | (simp only [r_z, zav, zaw, zab, zaa, zad] <;> omega) | decide) only [r_r, ↓reduceIte, Nat.reduceEqDiff, Nat.reduceAdd, D.fix, Int.reduceToNat, Nat.reduceMul, Nat.reduceBNe, Nat.reduceBEq, zbp, u8D, zas, zaz, zaf, zag, shD, zca, fpC, fpM, q4, q1, q5, zcp]
   refine zb8 (zct b a sh i5 l5 e5 C5) rfl ?_
   simp -dsimp -implicitDefEqProofs (disch := first | assumption | omega | (simp only [r_z, zav, zaw, zab, zaa, zad] <;> omega) | decide) only [r_r, ↓reduceIte, Nat.reduceEqDiff, Nat.reduceAdd, D.fix, Int.reduceToNat, Nat.reduceMul, Nat.reduceBNe, Nat.reduceBEq, zbp, u8D, zas, zaz, zaf, zag, shD, zca, fpC, fpM, q4, q1, q5, zcp]
   refine (hJ12 _ _ ⟨_, _, rfl, rfl, ?_⟩)
   refine Rt.end (by repeat (first | exact zal _ | refine zai ?_ (by first | rfl | (simp [r_f, zav, zaw, zab, zaa, zad]; done) | simp [r_f, zav, zaw, zab, zaa, zad, *]))) ?_
   first | rfl | (simp only [r_g, Nat.reduceAdd, ↓reduceIte, Nat.reduceEqDiff, zbp, u8D, zas, zaz, zaf, zag, shD, zca, fpC, fpM]; first | done | rfl)
  ·have z1 : (e1 == 0) = true := by rw [q1]; rfl
   have z5 : (e5 == 0) = true := by rw [q5]; rfl
   have hs := hs5 q1 q5
   have q1 := z1
   have q5 := z5
   simp -dsimp -implicitDefEqProofs (disch := first | assumption | omega | (simp only [r_z, zav, zaw, zab, zaa, zad] <;> omega) | decide) only [r_r, ↓reduceIte, Nat.reduceEqDiff, Nat.reduceAdd, D.fix, Int.reduceToNat, Nat.reduceMul, Nat.reduceBNe, Nat.reduceBEq, zbp, u8D, zas, zaz, zaf, zag, shD, zca, fpC, fpM, q4, q1, q5, zcp]
   refine zb8 (zct b a sh i5 l5 e5 C5) rfl ?_
   simp -dsimp -implicitDefEqProofs (disch := first | assumption | omega | (simp only [r_z, zav, zaw, zab, zaa, zad] <;> omega) | decide) only [r_r, ↓reduceIte, Nat.reduceEqDiff, Nat.reduceAdd, D.fix, Int.reduceToNat, Nat.reduceMul, Nat.reduceBNe, Nat.reduceBEq, zbp, u8D, zas, zaz, zaf, zag, shD, zca, fpC, fpM, q4, q1, q5, zcp]
   refine zb8 (zct b a sh i5 l5 e5 C5) rfl ?_
   simp -dsimp -implicitDefEqProofs (disch := first | assumption | omega | (simp only [r_z, zav, zaw, zab, zaa, zad] <;> omega) | decide) only [r_r, ↓reduceIte, Nat.reduceEqDiff, Nat.reduceAdd, D.fix, Int.reduceToNat, Nat.reduceMul, Nat.reduceBNe, Nat.reduceBEq, zbp, u8D, zas, zaz, zaf, zag, shD, zca, fpC, fpM, q4, q1, q5, zcp]
   refine zb8 (hs) rfl ?_
   simp -dsimp -implicitDefEqProofs (disch := first | assumption | omega | (simp only [r_z, zav, zaw, zab, zaa, zad] <;> omega) | decide) only [r_r, ↓reduceIte, Nat.reduceEqDiff, Nat.reduceAdd, D.fix, Int.reduceToNat, Nat.reduceMul, Nat.reduceBNe, Nat.reduceBEq, zbp, u8D, zas, zaz, zaf, zag, shD, zca, fpC, fpM, q4, q1, q5, zcp]
   refine (hJ12 _ _ ⟨_, _, rfl, rfl, ?_⟩)
   refine Rt.end (by repeat (first | exact zal _ | refine zai ?_ (by first | rfl | (simp [r_f, zav, zaw, zab, zaa, zad]; done) | simp [r_f, zav, zaw, zab, zaa, zad, *]))) ?_
   first | rfl | (simp only [r_g, Nat.reduceAdd, ↓reduceIte, Nat.reduceEqDiff, zbp, u8D, zas, zaz, zaf, zag, shD, zca, fpC, fpM]; first | done | rfl)
  ·have z4 : (e4 == 0) = true := by rw [q4]; rfl
   have ht4 := hs4 q4
   have q4 := z4
   have q5 := q1
   simp -dsimp -implicitDefEqProofs (disch := first | assumption | omega | (simp only [r_z, zav, zaw, zab, zaa, zad] <;> omega) | decide) only [r_r, ↓reduceIte, Nat.reduceEqDiff, Nat.reduceAdd, D.fix, Int.reduceToNat, Nat.reduceMul, Nat.reduceBNe, Nat.reduceBEq, zbp, u8D, zas, zaz, zaf, zag, shD, zca, fpC, fpM, q4, q1, q5, zcp]
   refine zb8 (ht4) rfl ?_
   simp -dsimp -implicitDefEqProofs (disch := first | assumption | omega | (simp only [r_z, zav, zaw, zab, zaa, zad] <;> omega) | decide) only [r_r, ↓reduceIte, Nat.reduceEqDiff, Nat.reduceAdd, D.fix, Int.reduceToNat, Nat.reduceMul, Nat.reduceBNe, Nat.reduceBEq, zbp, u8D, zas, zaz, zaf, zag, shD, zca, fpC, fpM, q4, q1, q5, zcp]
   refine (hJ12 _ _ ⟨_, _, rfl, rfl, ?_⟩)
   refine Rt.end (by repeat (first | exact zal _ | refine zai ?_ (by first | rfl | (simp [r_f, zav, zaw, zab, zaa, zad]; done) | simp [r_f, zav, zaw, zab, zaa, zad, *]))) ?_
   first | rfl | (simp only [r_g, Nat.reduceAdd, ↓reduceIte, Nat.reduceEqDiff, zbp, u8D, zas, zaz, zaf, zag, shD, zca, fpC, fpM]; first | done | rfl)
  ·have z4 : (e4 == 0) = true := by rw [q4]; rfl
   have ht4 := hs4 q4
   have q4 := z4
   have z1 : (e1 == 0) = true := by rw [q1]; rfl
   have q1 := z1
   simp -dsimp -implicitDefEqProofs (disch := first | assumption | omega | (simp only [r_z, zav, zaw, zab, zaa, zad] <;> omega) | decide) only [r_r, ↓reduceIte, Nat.reduceEqDiff, Nat.reduceAdd, D.fix, Int.reduceToNat, Nat.reduceMul, Nat.reduceBNe, Nat.reduceBEq, zbp, u8D, zas, zaz, zaf, zag, shD, zca, fpC, fpM, q4, q1, q5, zcp]
   refine zb8 (ht4) rfl ?_
   simp -dsimp -implicitDefEqProofs (disch := first | assumption | omega | (simp only [r_z, zav, zaw, zab, zaa, zad] <;> omega) | decide) only [r_r, ↓reduceIte, Nat.reduceEqDiff, Nat.reduceAdd, D.fix, Int.reduceToNat, Nat.reduceMul, Nat.reduceBNe, Nat.reduceBEq, zbp, u8D, zas, zaz, zaf, zag, shD, zca, fpC, fpM, q4, q1, q5, zcp]
   refine zb8 (zct b a sh i5 l5 e5 C5) rfl ?_
   simp -dsimp -implicitDefEqProofs (disch := first | assumption | omega | (simp only [r_z, zav, zaw, zab, zaa, zad] <;> omega) | decide) only [r_r, ↓reduceIte, Nat.reduceEqDiff, Nat.reduceAdd, D.fix, Int.reduceToNat, Nat.reduceMul, Nat.reduceBNe, Nat.reduceBEq, zbp, u8D, zas, zaz, zaf, zag, shD, zca, fpC, fpM, q4, q1, q5, zcp]
   refine (hJ12 _ _ ⟨_, _, rfl, rfl, ?_⟩)
   refine Rt.end (by repeat (first | exact zal _ | refine zai ?_ (by first | rfl | (simp [r_f, zav, zaw, zab, zaa, zad]; done) | simp [r_f, zav, zaw, zab, zaa, zad, *]))) ?_
   first | rfl | (simp only [r_g, Nat.reduceAdd, ↓reduceIte, Nat.reduceEqDiff, zbp, u8D, zas, zaz, zaf, zag, shD, zca, fpC, fpM]; first | done | rfl)
  ·have z4 : (e4 == 0) = true := by rw [q4]; rfl
   have ht4 := hs4 q4
   have q4 := z4
   have z1 : (e1 == 0) = true := by rw [q1]; rfl
   have z5 : (e5 == 0) = true := by rw [q5]; rfl
   have hs := hs5 q1 q5
   have q1 := z1
   have q5 := z5
   simp -dsimp -implicitDefEqProofs (disch := first | assumption | omega | (simp only [r_z, zav, zaw, zab, zaa, zad] <;> omega) | decide) only [r_r, ↓reduceIte, Nat.reduceEqDiff, Nat.reduceAdd, D.fix, Int.reduceToNat, Nat.reduceMul, Nat.reduceBNe, Nat.reduceBEq, zbp, u8D, zas, zaz, zaf, zag, shD, zca, fpC, fpM, q4, q1, q5, zcp]
   refine zb8 (ht4) rfl ?_
   simp -dsimp -implicitDefEqProofs (disch := first | assumption | omega | (simp only [r_z, zav, zaw, zab, zaa, zad] <;> omega) | decide) only [r_r, ↓reduceIte, Nat.reduceEqDiff, Nat.reduceAdd, D.fix, Int.reduceToNat, Nat.reduceMul, Nat.reduceBNe, Nat.reduceBEq, zbp, u8D, zas, zaz, zaf, zag, shD, zca, fpC, fpM, q4, q1, q5, zcp]
   refine zb8 (zct b a sh i5 l5 e5 C5) rfl ?_
   simp -dsimp -implicitDefEqProofs (disch := first | assumption | omega | (simp only [r_z, zav, zaw, zab, zaa, zad] <;> omega) | decide) only [r_r, ↓reduceIte, Nat.reduceEqDiff, Nat.reduceAdd, D.fix, Int.reduceToNat, Nat.reduceMul, Nat.reduceBNe, Nat.reduceBEq, zbp, u8D, zas, zaz, zaf, zag, shD, zca, fpC, fpM, q4, q1, q5, zcp]
   refine zb8 (zct b a sh i5 l5 e5 C5) rfl ?_
   simp -dsimp -implicitDefEqProofs (disch := first | assumption | omega | (simp only [r_z, zav, zaw, zab, zaa, zad] <;> omega) | decide) only [r_r, ↓reduceIte, Nat.reduceEqDiff, Nat.reduceAdd, D.fix, Int.reduceToNat, Nat.reduceMul, Nat.reduceBNe, Nat.reduceBEq, zbp, u8D, zas, zaz, zaf, zag, shD, zca, fpC, fpM, q4, q1, q5, zcp]
   refine zb8 (hs) rfl ?_
   simp -dsimp -implicitDefEqProofs (disch := first | assumption | omega | (simp only [r_z, zav, zaw, zab, zaa, zad] <;> omega) | decide) only [r_r, ↓reduceIte, Nat.reduceEqDiff, Nat.reduceAdd, D.fix, Int.reduceToNat, Nat.reduceMul, Nat.reduceBNe, Nat.reduceBEq, zbp, u8D, zas, zaz, zaf, zag, shD, zca, fpC, fpM, q4, q1, q5, zcp]
   refine (hJ12 _ _ ⟨_, _, rfl, rfl, ?_⟩)
   refine Rt.end (by repeat (first | exact zal _ | refine zai ?_ (by first | rfl | (simp [r_f, zav, zaw, zab, zaa, zad]; done) | simp [r_f, zav, zaw, zab, zaa, zad, *]))) ?_
   first | rfl | (simp only [r_g, Nat.reduceAdd, ↓reduceIte, Nat.reduceEqDiff, zbp, u8D, zas, zaz, zaf, zag, shD, zca, fpC, fpM]; first | done | rfl)
end Go.Proofs.Ytignimmnnccblaa
