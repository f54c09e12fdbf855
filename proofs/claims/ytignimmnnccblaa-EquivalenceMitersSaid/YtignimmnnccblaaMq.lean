/- Miters: the law. -/
import Derived.Test.YtignimmnnccblaaQr
import Derived.Test.YtignimmnnccblaaMl
import Derived.Test.YtignimmnnccblaaMp
set_option linter.unusedVariables false
set_option linter.unusedSimpArgs false
set_option maxRecDepth 100000
set_option maxHeartbeats 4000000
namespace Go.Proofs.Ytignimmnnccblaa
open Go Go.RowKit
theorem zho : (((((((type_of% @zyw) ∧ (type_of% @zyx)) ∧ ((type_of% @zyy) ∧ (type_of% @zyz))) ∧ (((type_of% @zy0) ∧ (type_of% @zmk)) ∧ ((type_of% @zml) ∧ (type_of% @zq4)))) ∧ ((((type_of% @zds) ∧ (type_of% @zdt)) ∧ ((type_of% @zh0) ∧ (type_of% @zhz))) ∧ (((type_of% @ji4) ∧ (type_of% @ji5)) ∧ ((type_of% @jpp) ∧ ((type_of% @jct) ∧ (type_of% @jcu)))))) ∧ (((((type_of% @jcv) ∧ (type_of% @jcw)) ∧ ((type_of% @jcx) ∧ (type_of% @jcy))) ∧ (((type_of% @jcz) ∧ (type_of% @jc0)) ∧ ((type_of% @jc1) ∧ (type_of% @jc2)))) ∧ ((((type_of% @zwp) ∧ (type_of% @zwq)) ∧ ((type_of% @jf7) ∧ (type_of% @jf8))) ∧ (((type_of% @jf9) ∧ (type_of% @jpo)) ∧ ((type_of% @jpn) ∧ ((type_of% @zt1) ∧ (type_of% @zt2))))))) ∧ ((((((type_of% @zy7) ∧ (type_of% @zy6)) ∧ ((type_of% @zqg) ∧ (type_of% @zqh))) ∧ (((type_of% @zko) ∧ (type_of% @zkp)) ∧ ((type_of% @zkq) ∧ (type_of% @zqe)))) ∧ ((((type_of% @zqf) ∧ (type_of% @zcr)) ∧ ((type_of% @zcs) ∧ (type_of% @ze4))) ∧ (((type_of% @ze5) ∧ (type_of% @ze6)) ∧ ((type_of% @ze7) ∧ ((type_of% @zgu) ∧ (type_of% @zgv)))))) ∧ (((((type_of% @zex) ∧ (type_of% @zey)) ∧ ((type_of% @zfa) ∧ (type_of% @zc6))) ∧ (((type_of% @zc7) ∧ (type_of% @zfq)) ∧ ((type_of% @zfr) ∧ (type_of% @zfs)))) ∧ ((((type_of% @zft) ∧ (type_of% @zfu)) ∧ ((type_of% @zfv) ∧ (type_of% @zfw))) ∧ (((type_of% @zfx) ∧ (type_of% @zkk)) ∧ ((type_of% @zkl) ∧ ((type_of% @zkm) ∧ (type_of% @zkn)))))))) := ⟨⟨⟨⟨⟨⟨@zyw, @zyx⟩, ⟨@zyy, @zyz⟩⟩, ⟨⟨@zy0, @zmk⟩, ⟨@zml, @zq4⟩⟩⟩, ⟨⟨⟨@zds, @zdt⟩, ⟨@zh0, @zhz⟩⟩, ⟨⟨@ji4, @ji5⟩, ⟨@jpp, ⟨@jct, @jcu⟩⟩⟩⟩⟩, ⟨⟨⟨⟨@jcv, @jcw⟩, ⟨@jcx, @jcy⟩⟩, ⟨⟨@jcz, @jc0⟩, ⟨@jc1, @jc2⟩⟩⟩, ⟨⟨⟨@zwp, @zwq⟩, ⟨@jf7, @jf8⟩⟩, ⟨⟨@jf9, @jpo⟩, ⟨@jpn, ⟨@zt1, @zt2⟩⟩⟩⟩⟩⟩, ⟨⟨⟨⟨⟨@zy7, @zy6⟩, ⟨@zqg, @zqh⟩⟩, ⟨⟨@zko, @zkp⟩, ⟨@zkq, @zqe⟩⟩⟩, ⟨⟨⟨@zqf, @zcr⟩, ⟨@zcs, @ze4⟩⟩, ⟨⟨@ze5, @ze6⟩, ⟨@ze7, ⟨@zgu, @zgv⟩⟩⟩⟩⟩, ⟨⟨⟨⟨@zex, @zey⟩, ⟨@zfa, @zc6⟩⟩, ⟨⟨@zc7, @zfq⟩, ⟨@zfr, @zfs⟩⟩⟩, ⟨⟨⟨@zft, @zfu⟩, ⟨@zfv, @zfw⟩⟩, ⟨⟨@zfx, @zkk⟩, ⟨@zkl, ⟨@zkm, @zkn⟩⟩⟩⟩⟩⟩⟩
theorem jul {first d : Nat} (h : 1 ≤ first) : mvI first d 0 = 0 := by unfold mvI; rw [if_pos (by omega)]
theorem jty {first d : Nat} (h : 1 ≤ first) {g : Gate} (hg : GateV g) : GateV (mvG first d g) :=
 ⟨fun ho => by show mvI first d g.c = 0; rw [hg.c ho]; exact jul h, fun ho => by show mvI first d g.b = 0; rw [hg.b ho]; exact jul h, hg.n, hg.m⟩
theorem jr9 {o a b : Int} (h : o = 4 ∨ o = 3) : GateV ⟨o, a, b, 0, 0⟩ := ⟨fun _ => rfl, fun h2 => by simp only at h2; omega, fun _ => rfl, show (0 : Int) ≤ 63 by decide⟩
theorem jtz {a b : Net} (ha : ∀ g ∈ a.gates, GateV g) (hb : ∀ g ∈ b.gates, GateV g) : ∀ g ∈ (zhw a b).gates, GateV g := fun g hg => by
 have hg : g ∈ zs6 (2 + a.ins.length) a b a.drive.length (a.drive.length - 1) := hg
 unfold zs6 at hg
 rcases List.mem_append.1 hg with hg | hg
 ·rcases List.mem_append.1 hg with hg | hg
  ·rcases List.mem_append.1 hg with hg | hg
   ·exact ha g hg
   ·obtain ⟨x, hx, rfl⟩ := List.mem_map.1 hg
    exact jty (by omega) (hb x hx)
  ·obtain ⟨x, hx, rfl⟩ := List.mem_map.1 hg
   exact jr9 (.inl rfl)
 ·obtain ⟨x, hx, rfl⟩ := List.mem_map.1 hg
  exact jr9 (.inr rfl)
theorem Pair.valid {a b : Net} (h : Pair a b) (wa : ∀ w ∈ a.ins, WireIn w) (va : ∀ g ∈ a.gates, GateV g) (vb : ∀ g ∈ b.gates, GateV g) : NetV (zhw a b) := by
 have h1 := h.len
 have h2 := h.qa.i2
 have h3 := h.lst
 have e : (zhw a b).ins.length = a.ins.length := rfl
 refine ⟨by omega, by rw [h3.1]; rfl, wa, zej zk1 ⟨.inr ⟨by decide, by decide⟩, by decide, by decide, by decide⟩, h.gates, jtz va vb, ?_, ?_⟩
 ·rw [h3.1]
  exact jto (by omega) (by omega)
 ·rw [h3.1]; simp
theorem Pair.out1 {a b : Net} (h : Pair a b) (sh : Sh) (l : List Bool) : zzh (zhw a b) sh l = [zq6 a b sh l] := by
 have e : (false :: true :: zl2 a.ins.length l).length = 2 + a.ins.length := by simp [zhm]; omega
 have hv := zs8 (a := a) (b := b) (v := false :: true :: zl2 a.ins.length l) (by rw [e]; exact h.mit) (zgz a.ins.length sh l) h.qa.d3
 rw [e] at hv
 unfold zq6 zzh zs2
 rw [h.ins]
 show [nth _ _] = _
 exact congrArg (fun x => [x]) hv
theorem zzp (x : RawN) (hx : RawOk x) (hi : x.ins.length ≤ maxLen) (hg : x.gates.length ≤ maxLen) (ho : x.out.length ≤ maxLen) (k0 k1 k2 k3 : Nat) (h0 : k0 < 256) (h1 : k1 < 256) (h2 : k2 < 256) (h3 : k3 < 256) (l : List Bool) (hl : l.length ≤ maxLen) : za9 Try.prog 6 [.agg (zch x), .agg [u8D k0, u8D k1, u8D k2, u8D k3], boolsD l] (.d (oD true)) := by
 refine zbc (fn := Try.f6) (by kernel_rfl) Try.func6 rfl (Nat.le_of_ble_eq_true rfl) fun c hc hp => ?_
 refine zbf (τ' := frL [(0, .d (.agg (zch x))), (1, .d (.agg [u8D k0, u8D k1, u8D k2, u8D k3])), (2, .d (boolsD l))]) (by repeat (first | exact zak _ | refine zah ?_ (by first | rfl | (simp [r_f, zb7, zb8, zab, zaa, zag]; done) | simp [r_f, zb7, zb8, zab, zaa, zag, *]))) ?_
 refine zac hp zaj hc rfl fun K1 hK1 => ?_
 simp -dsimp -implicitDefEqProofs (disch := first | assumption | omega | (simp only [r_z, zb7, zb8, zab, zaa, zag] <;> omega) | decide) only [r_r, ↓reduceIte, Nat.reduceEqDiff, Nat.reduceAdd, D.fix, Int.reduceToNat, Nat.reduceMul, Nat.reduceBNe, Nat.reduceBEq, zch, u8D, zas, zax, zae, zaf, shD, fpC, List.cons_append, List.nil_append, zho]
 refine hK1 _ _ ?_
 refine zac hp zaj hc rfl fun K2 hK2 => ?_
 simp -dsimp -implicitDefEqProofs (disch := first | assumption | omega | (simp only [r_z, zb7, zb8, zab, zaa, zag] <;> omega) | decide) only [r_r, ↓reduceIte, Nat.reduceEqDiff, Nat.reduceAdd, D.fix, Int.reduceToNat, Nat.reduceMul, Nat.reduceBNe, Nat.reduceBEq, zch, u8D, zas, zax, zae, zaf, shD, fpC, List.cons_append, List.nil_append]
 refine zb4 (zzk) rfl ?_
 simp -dsimp -implicitDefEqProofs (disch := first | assumption | omega | (simp only [r_z, zb7, zb8, zab, zaa, zag] <;> omega) | decide) only [r_r, ↓reduceIte, Nat.reduceEqDiff, Nat.reduceAdd, D.fix, Int.reduceToNat, Nat.reduceMul, Nat.reduceBNe, Nat.reduceBEq, zch, u8D, zas, zax, zae, zaf, shD, fpC, List.cons_append, List.nil_append]
 refine hK2 _ _ ?_
 refine zam fun K3 hK3 => ?_
 refine zac hp zaj hc rfl fun K4 hK4 => ?_
 simp -dsimp -implicitDefEqProofs (disch := first | assumption | omega | (simp only [r_z, zb7, zb8, zab, zaa, zag] <;> omega) | decide) only [r_r, ↓reduceIte, Nat.reduceEqDiff, Nat.reduceAdd, D.fix, Int.reduceToNat, Nat.reduceMul, Nat.reduceBNe, Nat.reduceBEq, zch, u8D, zas, zax, zae, zaf, shD, fpC, List.cons_append, List.nil_append, zho]
 refine hK4 _ _ ?_
 refine zaq rfl (fun ht => ?_) (fun ht => ?_)
 ·cases ht
 ·refine zay (hK3 _ _ ?_)
  refine zac hp zaj hc rfl fun K5 hK5 => ?_
  simp -dsimp -implicitDefEqProofs (disch := first | assumption | omega | (simp only [r_z, zb7, zb8, zab, zaa, zag] <;> omega) | decide) only [r_r, ↓reduceIte, Nat.reduceEqDiff, Nat.reduceAdd, D.fix, Int.reduceToNat, Nat.reduceMul, Nat.reduceBNe, Nat.reduceBEq, zch, u8D, zas, zax, zae, zaf, shD, fpC, List.cons_append, List.nil_append, zho]
  refine zop (jl2 x hx hi hg ho) rfl fun r hr => ?_
  obtain ⟨a, ha, rfl⟩ := hr
  simp -dsimp -implicitDefEqProofs (disch := first | assumption | omega | (simp only [r_z, zb7, zb8, zab, zaa, zag] <;> omega) | decide) only [r_r, ↓reduceIte, Nat.reduceEqDiff, Nat.reduceAdd, D.fix, Int.reduceToNat, Nat.reduceMul, Nat.reduceBNe, Nat.reduceBEq, zch, u8D, zas, zax, zae, zaf, shD, fpC, List.cons_append, List.nil_append, zho]
  refine hK5 _ _ ?_
  refine zac hp zaj hc rfl fun K6 hK6 => ?_
  simp -dsimp -implicitDefEqProofs (disch := first | assumption | omega | (simp only [r_z, zb7, zb8, zab, zaa, zag] <;> omega) | decide) only [r_r, ↓reduceIte, Nat.reduceEqDiff, Nat.reduceAdd, D.fix, Int.reduceToNat, Nat.reduceMul, Nat.reduceBNe, Nat.reduceBEq, zch, u8D, zas, zax, zae, zaf, shD, fpC, List.cons_append, List.nil_append, zho]
  refine zop (jeu 60 a ha.q (by omega) (by have := ha.d0; have := ha.d1; omega) k0 k1 k2 k3 h0 h1 h2) rfl fun r hr => ?_
  obtain ⟨b, hb, rfl⟩ := hr
  simp -dsimp -implicitDefEqProofs (disch := first | assumption | omega | (simp only [r_z, zb7, zb8, zab, zaa, zag] <;> omega) | decide) only [r_r, ↓reduceIte, Nat.reduceEqDiff, Nat.reduceAdd, D.fix, Int.reduceToNat, Nat.reduceMul, Nat.reduceBNe, Nat.reduceBEq, zch, u8D, zas, zax, zae, zaf, shD, fpC, List.cons_append, List.nil_append, zho]
  refine hK6 _ _ ?_
  refine zac hp zaj hc rfl fun K7 hK7 => ?_
  simp -dsimp -implicitDefEqProofs (disch := first | assumption | omega | (simp only [r_z, zb7, zb8, zab, zaa, zag] <;> omega) | decide) only [r_r, ↓reduceIte, Nat.reduceEqDiff, Nat.reduceAdd, D.fix, Int.reduceToNat, Nat.reduceMul, Nat.reduceBNe, Nat.reduceBEq, zch, u8D, zas, zax, zae, zaf, shD, fpC, List.cons_append, List.nil_append, zho]
  refine zb4 (jlk k0 k1 k3 h0 h1 h3) rfl ?_
  simp -dsimp -implicitDefEqProofs (disch := first | assumption | omega | (simp only [r_z, zb7, zb8, zab, zaa, zag] <;> omega) | decide) only [r_r, ↓reduceIte, Nat.reduceEqDiff, Nat.reduceAdd, D.fix, Int.reduceToNat, Nat.reduceMul, Nat.reduceBNe, Nat.reduceBEq, zch, u8D, zas, zax, zae, zaf, shD, fpC, List.cons_append, List.nil_append, zho]
  obtain ⟨sh, hshd⟩ : ∃ sh, sh = zzr 5 [k0, k1, k3] := ⟨_, rfl⟩
  have hsh : ShOk sh := by rw [hshd]; exact jrm _ rfl _
  rw [← hshd]
  have ga := ha.g1
  have gb := hb.q.g1
  have ia := ha.i2
  have oa := ha.d0
  have da := ha.d1
  have d3 := ha.d3
  have bi := hb.ins
  have pab : Pair a b := hb.pair ha.q (by omega) (by omega)
  have hM := jep a b (zhw a b) (zud a b pab.ins pab.out pab.mit (by omega) (by omega) (by omega) (by omega) d3 (by omega))
  have hV := pab.valid ha.wi ha.gv (hb.gv ha.gv)
  have hml := pab.len
  have hls := pab.lst
  have hmo := zns (zhw a b) sh l ia hml.1 pab.gates hV.d2 (by rw [hls.1]; simp) hsh hl
  rw [pab.out1] at hmo
  have hoa := zns a sh l (by omega) (by omega) ha.g2 ha.d2 (by omega) hsh hl
  have hob := zns b sh l (by rw [bi]; exact ia) (by omega) hb.q.g2 hb.q.d2 (by have := hb.q.d1; omega) hsh hl
  have hsb := jd7 (zzh a sh l) (zzh b sh l) (by rw [jg4]; unfold maxLen; omega)
  obtain ⟨d, hd⟩ : ∃ d, d = decide (zzh a sh l = zzh b sh l) := ⟨_, rfl⟩
  have hdd : zq6 a b sh l = !d := by rw [hd]; rfl
  rw [hdd] at hmo
  rw [← hd] at hsb
  have hW : za9 Try.prog 27 [zae (zhw a b).ins, zae a.ins] (.d (oD true)) := jmg a.ins (by omega)
  have q1 : (((zhw a b).out.length : Int) != 1) = false := rfl
  obtain ⟨m, hm⟩ : ∃ m, m = zhw a b := ⟨_, rfl⟩
  rw [← hm] at hM hV hml hmo hW q1
  have hvn := jmd m hV
  have hvr := jmf m hV
  have q2 : ((m.gates.length : Int) != (a.gates.length : Int) + b.gates.length + 2 * a.out.length - 1) = false := by simp; omega
  have q3 : ((!d) == (!d)) = true := by simp
  have q4 := q3
  refine hK7 _ _ ?_
  refine zb2 hp (τ' := frL [(2, .d (boolsD l)), (7, .d (oD true)), (8, .d (fpC a)), (9, .d (fpC b)), (10, .d (shD sh))]) (H' := []) ?_ ?_
  ·refine Rt.trans (Rt.fz (id := 2) (l := zax a) rfl) ?_
   refine Rt.trans (Rt.fz (id := 3) (l := zax b) rfl) ?_
   refine Rt.trans (Rt.gc (keep := []) (by decide) (by decide) (by simp [fzH, gcH])) ?_
   refine Rt.end (by repeat (first | exact zak _ | refine zah ?_ (by first | rfl | (simp [r_f, zb7, zb8, zab, zaa, zag]; done) | simp [r_f, zb7, zb8, zab, zaa, zag, *]))) ?_
   first | rfl | (simp only [r_g, Nat.reduceAdd, ↓reduceIte, Nat.reduceEqDiff, zch, u8D, zas, zax, zae, zaf, shD, fpC, List.cons_append, List.nil_append]; first | done | rfl)
  refine zac hp zaj hc rfl fun K8 hK8 => ?_
  simp -dsimp -implicitDefEqProofs (disch := first | assumption | omega | (simp only [r_z, zb7, zb8, zab, zaa, zag] <;> omega) | decide) only [r_r, ↓reduceIte, Nat.reduceEqDiff, Nat.reduceAdd, D.fix, Int.reduceToNat, Nat.reduceMul, Nat.reduceBNe, Nat.reduceBEq, zch, u8D, zas, zax, zae, zaf, shD, fpC, List.cons_append, List.nil_append, zho]
  refine zb4 (hM) rfl ?_
  simp -dsimp -implicitDefEqProofs (disch := first | assumption | omega | (simp only [r_z, zb7, zb8, zab, zaa, zag] <;> omega) | decide) only [r_r, ↓reduceIte, Nat.reduceEqDiff, Nat.reduceAdd, D.fix, Int.reduceToNat, Nat.reduceMul, Nat.reduceBNe, Nat.reduceBEq, zch, u8D, zas, zax, zae, zaf, shD, fpC, List.cons_append, List.nil_append, zho]
  refine hK8 _ _ ?_
  refine zam fun K9 hK9 => ?_
  refine zb2 hp (τ' := frL [(2, .d (boolsD l)), (7, .d (oD true)), (8, .d (fpC a)), (9, .d (fpC b)), (10, .d (shD sh)), (11, .d (.fp (zax m ++ [iD 0]) 0))]) (H' := []) ?_ ?_
  ·refine Rt.trans (Rt.fz (id := 0) (l := zax m ++ [iD 0]) rfl) ?_
   refine Rt.trans (Rt.gc (keep := []) (by decide) (by decide) (by simp [fzH, gcH])) ?_
   refine Rt.end (by repeat (first | exact zak _ | refine zah ?_ (by first | rfl | (simp [r_f, zb7, zb8, zab, zaa, zag]; done) | simp [r_f, zb7, zb8, zab, zaa, zag, *]))) ?_
   first | rfl | (simp only [r_g, Nat.reduceAdd, ↓reduceIte, Nat.reduceEqDiff, zch, u8D, zas, zax, zae, zaf, shD, fpC, List.cons_append, List.nil_append]; first | done | rfl)
  refine zac hp zaj hc rfl fun K10 hK10 => ?_
  simp -dsimp -implicitDefEqProofs (disch := first | assumption | omega | (simp only [r_z, zb7, zb8, zab, zaa, zag] <;> omega) | decide) only [r_r, ↓reduceIte, Nat.reduceEqDiff, Nat.reduceAdd, D.fix, Int.reduceToNat, Nat.reduceMul, Nat.reduceBNe, Nat.reduceBEq, zch, u8D, zas, zax, zae, zaf, shD, fpC, List.cons_append, List.nil_append, q1, q2, Int.reduceBNe, bne_self_eq_false, zho]
  refine zb4 (hvn) rfl ?_
  simp -dsimp -implicitDefEqProofs (disch := first | assumption | omega | (simp only [r_z, zb7, zb8, zab, zaa, zag] <;> omega) | decide) only [r_r, ↓reduceIte, Nat.reduceEqDiff, Nat.reduceAdd, D.fix, Int.reduceToNat, Nat.reduceMul, Nat.reduceBNe, Nat.reduceBEq, zch, u8D, zas, zax, zae, zaf, shD, fpC, List.cons_append, List.nil_append, q1, q2, Int.reduceBNe, bne_self_eq_false, zho]
  refine zb4 (hvr) rfl ?_
  simp -dsimp -implicitDefEqProofs (disch := first | assumption | omega | (simp only [r_z, zb7, zb8, zab, zaa, zag] <;> omega) | decide) only [r_r, ↓reduceIte, Nat.reduceEqDiff, Nat.reduceAdd, D.fix, Int.reduceToNat, Nat.reduceMul, Nat.reduceBNe, Nat.reduceBEq, zch, u8D, zas, zax, zae, zaf, shD, fpC, List.cons_append, List.nil_append, q1, q2, Int.reduceBNe, bne_self_eq_false, zho]
  refine zb4 (hW) rfl ?_
  simp -dsimp -implicitDefEqProofs (disch := first | assumption | omega | (simp only [r_z, zb7, zb8, zab, zaa, zag] <;> omega) | decide) only [r_r, ↓reduceIte, Nat.reduceEqDiff, Nat.reduceAdd, D.fix, Int.reduceToNat, Nat.reduceMul, Nat.reduceBNe, Nat.reduceBEq, zch, u8D, zas, zax, zae, zaf, shD, fpC, List.cons_append, List.nil_append, q1, q2, Int.reduceBNe, bne_self_eq_false, zho]
  refine hK10 _ _ ?_
  refine zaq rfl (fun ht => ?_) (fun ht => ?_)
  ·cases ht
  ·refine zay (hK9 _ _ ?_)
   refine zbn zaj hc mixed rfl (q := 0) (by kernel_rfl) (by kernel_rfl) fun K11 hK11 => ?_
   simp -dsimp -implicitDefEqProofs (disch := first | assumption | omega | (simp only [r_z, zb7, zb8, zab, zaa, zag] <;> omega) | decide) only [r_r, ↓reduceIte, Nat.reduceEqDiff, Nat.reduceAdd, D.fix, Int.reduceToNat, Nat.reduceMul, Nat.reduceBNe, Nat.reduceBEq, zch, u8D, zas, zax, zae, zaf, shD, fpC, List.cons_append, List.nil_append, q3, zho]
   refine zb4 (hmo) rfl ?_
   simp -dsimp -implicitDefEqProofs (disch := first | assumption | omega | (simp only [r_z, zb7, zb8, zab, zaa, zag] <;> omega) | decide) only [r_r, ↓reduceIte, Nat.reduceEqDiff, Nat.reduceAdd, D.fix, Int.reduceToNat, Nat.reduceMul, Nat.reduceBNe, Nat.reduceBEq, zch, u8D, zas, zax, zae, zaf, shD, fpC, List.cons_append, List.nil_append, q3, zho]
   refine zb4 (hoa) rfl ?_
   simp -dsimp -implicitDefEqProofs (disch := first | assumption | omega | (simp only [r_z, zb7, zb8, zab, zaa, zag] <;> omega) | decide) only [r_r, ↓reduceIte, Nat.reduceEqDiff, Nat.reduceAdd, D.fix, Int.reduceToNat, Nat.reduceMul, Nat.reduceBNe, Nat.reduceBEq, zch, u8D, zas, zax, zae, zaf, shD, fpC, List.cons_append, List.nil_append, q3, zho]
   refine zb4 (hob) rfl ?_
   simp -dsimp -implicitDefEqProofs (disch := first | assumption | omega | (simp only [r_z, zb7, zb8, zab, zaa, zag] <;> omega) | decide) only [r_r, ↓reduceIte, Nat.reduceEqDiff, Nat.reduceAdd, D.fix, Int.reduceToNat, Nat.reduceMul, Nat.reduceBNe, Nat.reduceBEq, zch, u8D, zas, zax, zae, zaf, shD, fpC, List.cons_append, List.nil_append, q3, zho]
   refine zb4 (hsb) rfl ?_
   simp -dsimp -implicitDefEqProofs (disch := first | assumption | omega | (simp only [r_z, zb7, zb8, zab, zaa, zag] <;> omega) | decide) only [r_r, ↓reduceIte, Nat.reduceEqDiff, Nat.reduceAdd, D.fix, Int.reduceToNat, Nat.reduceMul, Nat.reduceBNe, Nat.reduceBEq, zch, u8D, zas, zax, zae, zaf, shD, fpC, List.cons_append, List.nil_append, q3, zho]
   refine hK11 _ _ ?_
   refine za4 ?_
   show closeA _ _ = _
   simp (disch := first | assumption | omega | (simp only [r_z, zb7, zb8, zab, zaa, zag] <;> omega) | decide) only [r_c, Nat.reduceAdd, D.fix, ↓reduceIte, Nat.reduceEqDiff, zch, u8D, zas, zax, zae, zaf, shD, fpC, List.cons_append, List.nil_append]
end Go.Proofs.Ytignimmnnccblaa
