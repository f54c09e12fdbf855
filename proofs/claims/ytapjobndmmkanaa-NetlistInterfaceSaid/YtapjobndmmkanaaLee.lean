/- examples of law 21, walked. -/
import Derived.Test.YtapjobndmmkanaaQr
import Derived.Test.YtapjobndmmkanaaLe
set_option linter.unusedVariables false
set_option linter.unusedSimpArgs false
set_option maxRecDepth 100000
set_option maxHeartbeats 4000000
namespace Go.Proofs.Ytapjobndmmkanaa
open Go Go.RowKit
theorem jzh : (((((((type_of% @zhw) ∧ (type_of% @zdr)) ∧ ((type_of% @zen) ∧ (type_of% @zi8))) ∧ (((type_of% @zi9) ∧ (type_of% @zdj)) ∧ ((type_of% @zdz) ∧ (type_of% @zhv)))) ∧ ((((type_of% @zhu) ∧ (type_of% @zpo)) ∧ ((type_of% @zqf) ∧ (type_of% @zja))) ∧ (((type_of% @zjb) ∧ (type_of% @znj)) ∧ ((type_of% @zqe) ∧ (type_of% @zts))))) ∧ (((((type_of% @jbt) ∧ (type_of% @zlv)) ∧ ((type_of% @zlw) ∧ (type_of% @jfu))) ∧ (((type_of% @zfs) ∧ (type_of% @zim)) ∧ ((type_of% @zmw) ∧ (type_of% @jbs)))) ∧ ((((type_of% @zpn) ∧ (type_of% @zgx)) ∧ ((type_of% @zpm) ∧ (type_of% @zzc))) ∧ (((type_of% @zno) ∧ (type_of% @zzf)) ∧ ((type_of% @zza) ∧ (type_of% @zk3)))))) ∧ ((((((type_of% @jbr) ∧ (type_of% @zd6)) ∧ ((type_of% @zmq) ∧ (type_of% @zfa))) ∧ (((type_of% @ztr) ∧ (type_of% @jbp)) ∧ ((type_of% @jbq) ∧ (type_of% @zmp)))) ∧ ((((type_of% @jbn) ∧ (type_of% @zk7)) ∧ ((type_of% @zd8) ∧ (type_of% @zd9))) ∧ (((type_of% @zgw) ∧ (type_of% @zio)) ∧ ((type_of% @zk6) ∧ (type_of% @jbo))))) ∧ (((((type_of% @zee) ∧ (type_of% @jjp)) ∧ ((type_of% @jfl) ∧ (type_of% @jfm))) ∧ (((type_of% @jfn) ∧ (type_of% @jfo)) ∧ ((type_of% @zfr) ∧ (type_of% @zkh)))) ∧ ((((type_of% @zpi) ∧ (type_of% @jjo)) ∧ ((type_of% @zoq) ∧ (type_of% @zpl))) ∧ (((type_of% @zgv) ∧ (type_of% @jfw)) ∧ ((type_of% @zpj) ∧ ((type_of% @zpk) ∧ (type_of% @zgu)))))))) := ⟨⟨⟨⟨⟨⟨@zhw, @zdr⟩, ⟨@zen, @zi8⟩⟩, ⟨⟨@zi9, @zdj⟩, ⟨@zdz, @zhv⟩⟩⟩, ⟨⟨⟨@zhu, @zpo⟩, ⟨@zqf, @zja⟩⟩, ⟨⟨@zjb, @znj⟩, ⟨@zqe, @zts⟩⟩⟩⟩, ⟨⟨⟨⟨@jbt, @zlv⟩, ⟨@zlw, @jfu⟩⟩, ⟨⟨@zfs, @zim⟩, ⟨@zmw, @jbs⟩⟩⟩, ⟨⟨⟨@zpn, @zgx⟩, ⟨@zpm, @zzc⟩⟩, ⟨⟨@zno, @zzf⟩, ⟨@zza, @zk3⟩⟩⟩⟩⟩, ⟨⟨⟨⟨⟨@jbr, @zd6⟩, ⟨@zmq, @zfa⟩⟩, ⟨⟨@ztr, @jbp⟩, ⟨@jbq, @zmp⟩⟩⟩, ⟨⟨⟨@jbn, @zk7⟩, ⟨@zd8, @zd9⟩⟩, ⟨⟨@zgw, @zio⟩, ⟨@zk6, @jbo⟩⟩⟩⟩, ⟨⟨⟨⟨@zee, @jjp⟩, ⟨@jfl, @jfm⟩⟩, ⟨⟨@jfn, @jfo⟩, ⟨@zfr, @zkh⟩⟩⟩, ⟨⟨⟨@zpi, @jjo⟩, ⟨@zoq, @zpl⟩⟩, ⟨⟨@zgv, @jfw⟩, ⟨@zpj, ⟨@zpk, @zgu⟩⟩⟩⟩⟩⟩⟩
theorem zec {p q : Prop} (hq : q) (h : p = q := by
 conv => lhs; simp -dsimp -implicitDefEqProofs (disch := first | assumption | omega | (simp only [r_z] <;> omega) | decide) only [r_r, ↓reduceIte, Nat.reduceEqDiff, Nat.reduceAdd, D.fix, Int.reduceToNat, Nat.reduceMul, Nat.reduceBNe, Nat.reduceBEq, beq_self_eq_true, Int.reduceBEq, zb1, zar, zbq, zb7, zcb, sD, nS, zeq, exC, exR, List.cons_append, List.nil_append, List.append_eq, jzh]) : p := h.mpr hq
theorem jll (k : List Nat) {m : List Nat} {τ τ1 : Fr} {H H1 : zae} (h : Rt m (fun t => gcV k (τ t)) (gcH k H) τ1 H1) (a : ∀ i ∈ m, k[i]? = some i := by decide) (b : k.Nodup := by decide) (c : ∀ i ∈ k, i < H.length := by
 simp [fzH, gcH]) : Rt m τ H τ1 H1 := Rt.trans (Rt.gc a b c) h
theorem jlm {m : List Nat} {τ τ' : Fr} {H H' : zae} (h2 : H = H') (h : zfq τ τ' := by
 repeat (first | exact zas _ | refine zao ?_ (by first | rfl | (simp [r_f]; done) | simp [r_f, *]))) : Rt m τ H τ' H' := Rt.end h h2
theorem jln {p : Prop} (h : p := by
 first | rfl | (simp only [r_g, Nat.reduceAdd, ↓reduceIte, Nat.reduceEqDiff, beq_self_eq_true, Int.reduceBEq, zb1, zar, zbq, zb7, zcb, sD, nS, zeq, exC, exR, List.cons_append, List.nil_append, List.append_eq]; first | done | rfl)) : p := h
theorem zgn : zbg Try.prog 27 [] (.d (oD true)) := by
 refine za4 (fn := Try.f27) (by kernel_rfl) Try.func27 rfl (Nat.le_of_ble_eq_true rfl) fun c hc hp => ?_
 refine za9 (τ' := frL []) (zas _) ?_
 refine zag hp zak hc rfl fun K1 hK1 => ?_
 simp -dsimp -implicitDefEqProofs (disch := first | assumption | omega | (simp only [r_z] <;> omega) | decide) only [r_r, ↓reduceIte, Nat.reduceEqDiff, Nat.reduceAdd, D.fix, Int.reduceToNat, Nat.reduceMul, Nat.reduceBNe, Nat.reduceBEq, beq_self_eq_true, Int.reduceBEq, zb1, zar, zbq, zb7, zcb, sD, nS, zeq, exC, exR, List.cons_append, List.nil_append, List.append_eq]
 refine hK1 _ _ ?_
 refine szq hp (fun _ hZ => zec hZ) ?_
 refine szq hp (fun _ hZ => zec hZ) ?_
 refine zat hp (τ' := frL [(2, .op 0 0)]) (H' := [.cells (avs (zar zm3))]) ?_ ?_
 ·refine Rt.trans (Rt.fixc 1 6 rfl rfl) ?_
  refine Rt.trans (Rt.fz (id := 1) (l := (exC (.reg 0))) rfl) ?_
  refine Rt.trans (Rt.fz (id := 2) (l := (prC ⟨⟨#[114]⟩, 1, 0, .not (.reg 0), 0, ⟨#[]⟩, 0⟩)) rfl) ?_
  refine Rt.trans (Rt.fixc 3 3 rfl rfl) ?_
  refine Rt.trans (Rt.fixc 3 4 rfl rfl) ?_
  refine Rt.trans (Rt.fixc 3 5 rfl rfl) ?_
  refine jll [3] ?_
  refine jlm ?_
  exact jln
 refine szq hp (fun _ hZ => zec hZ) ?_
 refine szq hp (fun _ hZ => zec hZ) ?_
 refine zat hp (τ' := frL [(2, .op 0 0), (3, .op 1 0)]) (H' := [.cells (avs (zar zm3)), .cells (avs (zar jas))]) ?_ ?_
 ·refine Rt.trans (Rt.fixc 2 8 rfl rfl) ?_
  refine Rt.trans (Rt.fz (id := 2) (l := (ptC ⟨0, 1, .con 1 1⟩)) rfl) ?_
  refine jll [0,1] ?_
  refine jlm ?_
  exact jln
 refine szq hp (fun _ hZ => zec hZ) ?_
 refine szq hp (fun _ hZ => zec hZ) ?_
 refine zat hp (τ' := frL [(2, .op 0 0), (3, .op 1 0), (4, .op 2 0), (5, .op 3 0)]) (H' := [.cells (avs (zar zm3)), .cells (avs (zar jas)), .cells (avs (za2 ⟨1, 0, 0⟩)), .cells (avs (zb7 jli))]) ?_ ?_
 ·refine Rt.trans (Rt.fz (id := 3) (l := (za2 ⟨1, 0, 0⟩)) rfl) ?_
  refine Rt.trans (Rt.fz (id := 4) (l := (zav ⟨1, 2, 0, 0, 0⟩)) rfl) ?_
  refine Rt.trans (Rt.fz (id := 5) (l := (za2 ⟨1, 0, 0⟩)) rfl) ?_
  refine Rt.trans (Rt.fz (id := 6) (l := [iD 3]) rfl) ?_
  refine jll [0,1,2,7] ?_
  refine jlm ?_
  exact jln
 refine szq hp (fun _ hZ => zec hZ) ?_
 refine zat hp (τ' := frL [(2, .op 0 0), (3, .op 1 0), (5, .op 2 0), (6, .op 3 0)]) (H' := [.cells (avs (zar zm3)), .cells (avs (zar jas)), .cells (avs (zb7 jli)), .cells (avs (zb7 exB0))]) ?_ ?_
 ·refine Rt.trans (Rt.fz (id := 4) (l := (exB0.ins.flatMap za2)) rfl) ?_
  refine Rt.trans (Rt.fz (id := 5) (l := (exB0.gates.flatMap zav)) rfl) ?_
  refine Rt.trans (Rt.fz (id := 6) (l := (exB0.out.flatMap za2)) rfl) ?_
  refine Rt.trans (Rt.fz (id := 7) (l := [iD 6, iD 4]) rfl) ?_
  refine jll [0,1,3,8] ?_
  refine jlm ?_
  exact jln
 refine za5 zak hc mixed rfl (q := 2) (by kernel_rfl) (by kernel_rfl) fun K9 hK9 => ?_
 refine zec ?_
 refine zbp (yd0) rfl ?_
 refine zec ?_
 refine zbp (yd1) rfl ?_
 refine zec ?_
 refine hK9 _ _ ?_
 refine zag hp zak hc rfl fun K10 hK10 => ?_
 refine zec ?_
 refine zbp (jlj) rfl ?_
 refine zec ?_
 refine zbp (jlk) rfl ?_
 refine zec ?_
 refine zbp (yd4) rfl ?_
 refine zec ?_
 refine zbp (yd2) rfl ?_
 refine zec ?_
 refine zbp (yd3) rfl ?_
 refine zec ?_
 refine jes (yd5) ?_ ?_
 ·simp (disch := first | assumption | omega | (simp only [r_z] <;> omega) | decide) only [r_c, Nat.reduceAdd, D.fix, ↓reduceIte, Nat.reduceEqDiff, beq_self_eq_true, Int.reduceBEq, zb1, zar, zbq, zb7, zcb, sD, nS, zeq, exC, exR, List.cons_append, List.nil_append, List.append_eq, zav]
 refine zec ?_
 refine zbp (yd7) rfl ?_
 refine zec ?_
 refine zbp (jzg) rfl ?_
 refine zec ?_
 refine hK10 _ _ ?_
 refine zam ?_
 show closeA _ _ = _
 simp (disch := first | assumption | omega | (simp only [r_z] <;> omega) | decide) only [r_c, Nat.reduceAdd, D.fix, ↓reduceIte, Nat.reduceEqDiff, beq_self_eq_true, Int.reduceBEq, zb1, zar, zbq, zb7, zcb, sD, nS, zeq, exC, exR, List.cons_append, List.nil_append, List.append_eq]
theorem jau {p : Pr} (h : Proc p) : 2 + (zfi p).length + (ze4 p).gates.length ≤ 600 := (jht h).len
theorem zjn {p : Pr} (h : Proc p) : zbg Try.prog 30 [zbq p] (.d (.agg (zeq (ze4 p) 0))) :=
 zlf p h.ok (by have := h.ins; omega) (by have := h.cost; omega) (by have := h.m1; omega) (by have := jau h; omega)
theorem jr3 {l : List PReg} {k : Nat} (h : k < l.length) : (l.flatMap prC)[k * 13 + 1]? = some (iD (nth l k).w) := (zci (j := 1) zrl h (by omega)).trans rfl
theorem yd8 {l : List PTake} {k : Nat} (h : k < l.length) : (l.flatMap ptC)[k * 9 + 1]? = some (iD (nth l k).w) := (zci (j := 1) zwa h (by omega)).trans rfl
theorem yd9 {l : List PPut} {k : Nat} (h : k < l.length) : (l.flatMap pqC)[k * 16 + 1]? = some (iD (nth l k).w) := (zci (j := 1) zot h (by omega)).trans rfl
theorem yea {l : List PMem} {k : Nat} (h : k < l.length) : (l.flatMap pmC)[k * 27 + 1]? = some (iD (nth l k).w) := (zci (j := 1) zt7 h (by omega)).trans rfl
end Go.Proofs.Ytapjobndmmkanaa
