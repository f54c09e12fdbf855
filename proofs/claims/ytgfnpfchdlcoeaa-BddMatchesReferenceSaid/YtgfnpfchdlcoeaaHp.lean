/- The law of the reference. -/
import Derived.Test.YtgfnpfchdlcoeaaQr
import Derived.Test.YtgfnpfchdlcoeaaQ
import Derived.Test.YtgfnpfchdlcoeaaHn
import Derived.Test.YtgfnpfchdlcoeaaEg
import Derived.Test.YtgfnpfchdlcoeaaEx
set_option linter.unusedVariables false
set_option linter.unusedSimpArgs false
set_option maxRecDepth 100000
set_option maxHeartbeats 4000000
namespace Go.Proofs.Ytgfnpfchdlcoeaa
open Go Go.RowKit
theorem jmo {sh : Sh} (h : ShOk sh) : (shZ sh).length ≤ maxLen := by
 have hl : (shZ sh).length = sh.length := by simp [shZ]
 have := h.len
 rw [hl]; unfold maxLen; omega
theorem jj7 {n : Net} {sh : Sh} {nodes : List Int} {fs : List T} (hsh : ShOk sh) (hi9 : n.ins.length ≤ 9) (hg60 : n.gates.length ≤ 60) (hgo : GatesOk (2 + n.ins.length) n.gates) (hv : zcz n.ins.length sh ≤ n.ins.length + 5) (hF : FsP (zcz n.ins.length sh) n.ins.length sh n.gates n.gates.length fs) (hnl : nodes.length ≤ 40) :
  ∃ (ns : List Nd) (rs : List Nat) (e : Int), zbi Try.prog 15 [zf1 n, shD sh, zay nodes] (.d (zsw ns rs e)) ∧ zbi Try.prog 16 [zf1 n, shD sh, zay nodes] (.d (zsw ns rs e)) ∧
   zbi Try.prog 14 [zsw ns rs e, zsw ns rs e] (.d (oD true)) ∧ (nodes.any (zh7 (2 + n.ins.length + n.gates.length)) = false → ns = jgj fs nodes) := by
 have alike : ∀ (ns : List Nd) (rs : List Nat) (e : Int), ns.length ≤ 1000000 → rs.length ≤ 1000000 → zbi Try.prog 14 [zsw ns rs e, zsw ns rs e] (.d (oD true)) := fun ns rs e h1 h2 => by
  have hk := zxw (ns.map toI) (ns.map toI) (rs.map fun (k : Nat) => (k : Int)) (rs.map fun (k : Nat) => (k : Int)) e e (by rw [List.length_map]; exact h1) (by rw [List.length_map]; exact h1) (by rw [List.length_map]; unfold maxLen; omega) (by rw [List.length_map]; unfold maxLen; omega)
  rw [decide_eq_true rfl, decide_eq_true rfl, decide_eq_true rfl, ← jfl] at hk
  exact hk
 cases hno : nodes.any (zh7 (2 + n.ins.length + n.gates.length)) with
 | true =>
  have hb := zud n (shZ sh) nodes (by unfold jm3; rw [hno]; simp) (jmo hsh) (by unfold maxLen; omega) (by omega) (by omega)
  rw [← jlp] at hb
  exact ⟨[], [], 1, hb, jgf n sh nodes hsh (by omega) (by omega) hnl hno, alike _ _ _ (by simp) (by simp), fun h => by cases h⟩
 | false =>
  have hBI := jps (nodes := nodes) hi9 (by omega) hsh hv hgo hno (by omega)
  have hl := hF.len
  obtain ⟨us, u1, u2, u3⟩ := zwi hF (by omega) (nodes := nodes) fun k hk => by
   have := List.any_eq_false.1 hno k hk
   simp only [zh7, Bool.or_eq_true, decide_eq_true_eq, not_or] at this
   omega
  have r1 : (jj2 fs nodes).length ≤ 1000000 := by
   unfold jj2
   split
   ·simp
   ·rw [List.length_map, zh2]; omega
  exact ⟨_, _, _, jge hF hgo (by omega) hBI, jga n sh nodes fs hsh hi9 hg60 hgo (by omega) hF hnl hno, alike _ _ _ (by rw [u3, zbc]; omega) r1, fun _ => rfl⟩
def zwj (ns : List NI) (rs : List Int) (node vars : Int) (nodes : List Int) (shp : List (Int × Int)) (vals : List Bool) : List D := [.fs (ns.flatMap niC) ns.length, .fs (rs.map iD) rs.length, iD node, iD vars, zay nodes, shI shp, zas vals]
abbrev TR := List T × List Nat
def bC (p : TR) : List D := zdp (zdl p.1) p.2
theorem jth (p : TR) : (bC p).length = 2 := rfl
theorem jmp {l : List TR} : (l.flatMap bC).length = l.length * 2 := zez jth l
theorem jqh {l : List TR} {k : Nat} (h : k < l.length) : zc9 (l.flatMap bC) (k * 2) 2 = some (bC (nth l k)) := zg9 jth h
theorem jis (us : List T) (node n : Int) : (zq3 us node n).length ≤ 60 := by
 unfold zq3
 split
 ·rename_i h
  rw [zun, List.length_replicate]
  unfold zh3 at h
  simp only [Bool.and_eq_true, decide_eq_true_eq] at h
  omega
 ·simp
theorem jit (us : List T) (node : Int) : (zwc us node).length ≤ 1000 := by
 unfold zwc
 split
 ·exact zuc _
 ·simp
theorem zx8 (x : RawN) (hx : RawOk x) (b0 b1 b2 : Nat) (h0 : b0 < 256) (h1 : b1 < 256) (h2 : b2 < 256) (ns : List NI) (rs : List Int) (node vars : Int) (nodes : List Int) (shp : List (Int × Int)) (vals : List Bool) (hI : ∀ n ∈ ns, N64 n) (hnl : ns.length ≤ maxLen) (hrl : rs.length ≤ maxLen) (hdl : nodes.length ≤ maxLen) (hsl : shp.length ≤ maxLen) (hvl : vals.length ≤ maxLen) : zbi Try.prog 3 [.agg (ziq x), .agg [u8D b0, u8D b1, u8D b2], .agg (zwj ns rs node vars nodes shp vals)] (.d (oD true)) := by
 have hml : maxLen = 9223372036854775807 := rfl
 refine za8 (fn := Try.f3) (by kernel_rfl) Try.func3 rfl (Nat.le_of_ble_eq_true rfl) fun c hc hp => ?_
 refine zba (τ' := frL [(0, .d (.agg (ziq x))), (1, .d (.agg [u8D b0, u8D b1, u8D b2])), (2, .d (.agg (zwj ns rs node vars nodes shp vals)))]) (zaa (zaa (zaa (zae _) rfl) rfl) rfl) ?_
 refine zab hp zad hc rfl fun K1 hK1 => ?_
 simp -dsimp -implicitDefEqProofs (disch := first | omega | decide) only [q_r, zau, zb0, ↓reduceIte, D.one, Value.oneCell', Nat.reduceEqDiff, iD, bD, zay, zas, zbm, Nat.reduceAdd, zau, ziq, u8D, shI, zwj]
 refine hK1 _ _ ?_
 refine zab hp zad hc rfl fun K2 hK2 => ?_
 simp -dsimp -implicitDefEqProofs (disch := first | omega | decide) only [q_r, Nat.reduceAdd]
 refine zb9 (jcg) rfl ?_
 simp -dsimp -implicitDefEqProofs (disch := first | omega | decide) only [q_r, ↓reduceIte, oD]
 refine hK2 _ _ ?_
 refine zaf fun K3 hK3 => ?_
 refine zab hp zad hc rfl fun K4 hK4 => ?_
 rcases (show jfr x = false ∨ (jfr x = true ∧ 30 < ns.length) ∨ (jfr x = true ∧ ¬ 30 < ns.length ∧ 30 < rs.length) ∨ (jfr x = true ∧ ¬ 30 < ns.length ∧ ¬ 30 < rs.length ∧ 30 < nodes.length) ∨ (jfr x = true ∧ ¬ 30 < ns.length ∧ ¬ 30 < rs.length ∧ ¬ 30 < nodes.length ∧ 40 < vals.length) ∨ (jfr x = true ∧ ¬ 30 < ns.length ∧ ¬ 30 < rs.length ∧ ¬ 30 < nodes.length ∧ ¬ 40 < vals.length) by cases jfr x <;> simp; omega) with q | ⟨q, c1⟩ | ⟨q, c1, c2⟩ | ⟨q, c1, c2, c3⟩ | ⟨q, c1, c2, c3, c4⟩ | ⟨q, c1, c2, c3, c4⟩
 ·have hf := jch x
  rw [q] at hf
  have w1 := q
  have w2 := q
  have w3 := q
  have w4 := q
  simp -dsimp -implicitDefEqProofs (disch := first | omega | decide) only [q_r, zam, ↓reduceIte, Nat.reduceEqDiff, Nat.reduceAdd, zpq, zpr]
  refine zb9 (hf) rfl ?_
  simp -dsimp -implicitDefEqProofs (disch := first | omega | decide) only [q_r, ↓reduceIte, Nat.reduceEqDiff, oD]
  refine hK4 _ _ ?_
  refine zag rfl (fun ht => ?_) (fun ht => ?_)
  ·refine zab hp zad hc rfl fun K5 hK5 => ?_
   simp -dsimp -implicitDefEqProofs (disch := first | omega | decide) only [q_r, ↓reduceIte, Nat.reduceEqDiff]
   refine hK5 _ _ ?_
   refine zao ?_
   show zaj _ _ = _
   simp (disch := first | omega | decide) only [zaj, zct, za1, Nat.reduceAdd, Nat.zero_add, D.fix, zat, ↓reduceIte, Option.map_some, List.length_cons, List.length_nil, oD]
  ·cases ht
 ·have hf := jch x
  rw [q] at hf
  have w1 : decide ((30 : Int) < (ns.length : Int)) = true := by simp; omega
  have w2 := w1
  have w3 := w1
  have w4 := w1
  simp -dsimp -implicitDefEqProofs (disch := first | omega | decide) only [q_r, zam, ↓reduceIte, Nat.reduceEqDiff, Nat.reduceAdd, zpq, zpr]
  refine zb9 (hf) rfl ?_
  simp -dsimp -implicitDefEqProofs (disch := first | omega | decide) only [q_r, zam, zac, zc1, zar, ↓reduceIte, Nat.reduceEqDiff, oD, Nat.reduceAdd, w1, zin, zbk, zcj, zck, zcm]
  refine hK4 _ _ ?_
  refine zag rfl (fun ht => ?_) (fun ht => ?_)
  ·refine zab hp zad hc rfl fun K6 hK6 => ?_
   simp -dsimp -implicitDefEqProofs (disch := first | omega | decide) only [q_r, ↓reduceIte, Nat.reduceEqDiff]
   refine hK6 _ _ ?_
   refine zao ?_
   show zaj _ _ = _
   simp (disch := first | omega | decide) only [zaj, zct, za1, Nat.reduceAdd, Nat.zero_add, D.fix, zat, ↓reduceIte, Option.map_some, List.length_cons, List.length_nil, oD]
  ·cases ht
 ·have hf := jch x
  rw [q] at hf
  have w1 : decide ((30 : Int) < (ns.length : Int)) = false := by simp; omega
  have w2 : decide ((30 : Int) < (rs.length : Int)) = true := by simp; omega
  have w3 := w1
  have w4 := w1
  simp -dsimp -implicitDefEqProofs (disch := first | omega | decide) only [q_r, zam, ↓reduceIte, Nat.reduceEqDiff, Nat.reduceAdd, zpq, zpr]
  refine zb9 (hf) rfl ?_
  simp -dsimp -implicitDefEqProofs (disch := first | omega | decide) only [q_r, zam, zac, zc1, zar, ↓reduceIte, Nat.reduceEqDiff, oD, Nat.reduceAdd, w1, w2, zin, zbk, zcj, zck, zcm, zes, zea, zeb, zc3]
  refine hK4 _ _ ?_
  refine zag rfl (fun ht => ?_) (fun ht => ?_)
  ·refine zab hp zad hc rfl fun K7 hK7 => ?_
   simp -dsimp -implicitDefEqProofs (disch := first | omega | decide) only [q_r, ↓reduceIte, Nat.reduceEqDiff]
   refine hK7 _ _ ?_
   refine zao ?_
   show zaj _ _ = _
   simp (disch := first | omega | decide) only [zaj, zct, za1, Nat.reduceAdd, Nat.zero_add, D.fix, zat, ↓reduceIte, Option.map_some, List.length_cons, List.length_nil, oD]
  ·cases ht
 ·have hf := jch x
  rw [q] at hf
  have w1 : decide ((30 : Int) < (ns.length : Int)) = false := by simp; omega
  have w2 : decide ((30 : Int) < (rs.length : Int)) = false := by simp; omega
  have w3 : decide ((30 : Int) < (nodes.length : Int)) = true := by simp; omega
  have w4 := w1
  simp -dsimp -implicitDefEqProofs (disch := first | omega | decide) only [q_r, zam, ↓reduceIte, Nat.reduceEqDiff, Nat.reduceAdd, zpq, zpr]
  refine zb9 (hf) rfl ?_
  simp -dsimp -implicitDefEqProofs (disch := first | omega | decide) only [q_r, zam, zac, zc1, zar, ↓reduceIte, Nat.reduceEqDiff, oD, Nat.reduceAdd, w1, w2, w3, zin, zbk, zcj, zck, zcm, zes, zea, zeb, zc3, zps]
  refine hK4 _ _ ?_
  refine zag rfl (fun ht => ?_) (fun ht => ?_)
  ·refine zab hp zad hc rfl fun K8 hK8 => ?_
   simp -dsimp -implicitDefEqProofs (disch := first | omega | decide) only [q_r, ↓reduceIte, Nat.reduceEqDiff]
   refine hK8 _ _ ?_
   refine zao ?_
   show zaj _ _ = _
   simp (disch := first | omega | decide) only [zaj, zct, za1, Nat.reduceAdd, Nat.zero_add, D.fix, zat, ↓reduceIte, Option.map_some, List.length_cons, List.length_nil, oD]
  ·cases ht
 ·have hf := jch x
  rw [q] at hf
  have w1 : decide ((30 : Int) < (ns.length : Int)) = false := by simp; omega
  have w2 : decide ((30 : Int) < (rs.length : Int)) = false := by simp; omega
  have w3 : decide ((30 : Int) < (nodes.length : Int)) = false := by simp; omega
  have w4 : decide ((40 : Int) < (vals.length : Int)) = true := by simp; omega
  simp -dsimp -implicitDefEqProofs (disch := first | omega | decide) only [q_r, zam, ↓reduceIte, Nat.reduceEqDiff, Nat.reduceAdd, zpq, zpr]
  refine zb9 (hf) rfl ?_
  simp -dsimp -implicitDefEqProofs (disch := first | omega | decide) only [q_r, zam, zac, zc1, zar, ↓reduceIte, Nat.reduceEqDiff, oD, Nat.reduceAdd, w1, w2, w3, w4, zin, zbk, zcj, zck, zcm, zes, zea, zeb, zc3, zps, ztt, zqz, zq0, ze4]
  refine hK4 _ _ ?_
  refine zag rfl (fun ht => ?_) (fun ht => ?_)
  ·refine zab hp zad hc rfl fun K9 hK9 => ?_
   simp -dsimp -implicitDefEqProofs (disch := first | omega | decide) only [q_r, ↓reduceIte, Nat.reduceEqDiff]
   refine hK9 _ _ ?_
   refine zao ?_
   show zaj _ _ = _
   simp (disch := first | omega | decide) only [zaj, zct, za1, Nat.reduceAdd, Nat.zero_add, D.fix, zat, ↓reduceIte, Option.map_some, List.length_cons, List.length_nil, oD]
  ·cases ht
 ·have hf := jch x
  rw [q] at hf
  have w1 : decide ((30 : Int) < (ns.length : Int)) = false := by simp; omega
  have w2 : decide ((30 : Int) < (rs.length : Int)) = false := by simp; omega
  have w3 : decide ((30 : Int) < (nodes.length : Int)) = false := by simp; omega
  have w4 : decide ((40 : Int) < (vals.length : Int)) = false := by simp; omega
  simp -dsimp -implicitDefEqProofs (disch := first | omega | decide) only [q_r, zam, ↓reduceIte, Nat.reduceEqDiff, Nat.reduceAdd, zpq, zpr]
  refine zb9 (hf) rfl ?_
  simp -dsimp -implicitDefEqProofs (disch := first | omega | decide) only [q_r, zam, zac, zc1, zar, ↓reduceIte, Nat.reduceEqDiff, oD, Nat.reduceAdd, w1, w2, w3, w4, zin, zbk, zcj, zck, zcm, zes, zea, zeb, zc3, zps, ztt, zqz, zq0, ze4]
  refine hK4 _ _ ?_
  refine zag rfl (fun ht => ?_) (fun ht => ?_)
  ·cases ht
  ·refine zan (hK3 _ _ ?_)
   refine zab hp zad hc rfl fun K10 hK10 => ?_
   simp -dsimp -implicitDefEqProofs (disch := first | omega | decide) only [q_r, zam, ↓reduceIte, Nat.reduceEqDiff, Nat.reduceAdd, zpq, zpr]
   refine zvg (jpq x hx) rfl fun r hr => ?_
   obtain ⟨n, hn, rfl⟩ := hr
   simp -dsimp -implicitDefEqProofs (disch := first | omega | decide) only [q_r, zau, zb0, za6, ↓reduceIte, D.one, Nat.reduceEqDiff, zay, Nat.reduceAdd, zau, zf1, zc2, zbh, zbg, zf0, jg9]
   refine hK10 _ _ ?_
   refine zab hp zad hc rfl fun K11 hK11 => ?_
   simp -dsimp -implicitDefEqProofs (disch := first | omega | decide) only [q_r, zam, ↓reduceIte, Nat.reduceEqDiff, Nat.reduceAdd, jq7, jq8]
   refine zb9 (jl3 b0 b1 b2 h0 h1 h2) rfl ?_
   simp -dsimp -implicitDefEqProofs (disch := first | omega | decide) only [q_r, ↓reduceIte, shD]
   obtain ⟨sh, hshd⟩ : ∃ sh, sh = zwl 5 [b0, b1, b2] := ⟨_, rfl⟩
   have hsh : ShOk sh := by rw [hshd]; exact jpr _ rfl _
   have hsv : zcz n.ins.length sh ≤ n.ins.length + 5 := by rw [hshd]; exact jih _ _
   rw [← hshd]
   have hnb := hn.b
   have hi9 := hnb.i1
   have hg60 := hn.g1
   have hd9 := hn.d1
   have hdo := hn.d2
   obtain ⟨fs, hF⟩ := jqa (ins := n.ins.length) (sh := sh) (gates := n.gates) n.gates.length (Nat.le_refl _)
   have hfl := hF.len
   obtain ⟨bn, br, be, z1, z2, z3, _⟩ := jj7 (nodes := nodes) hsh hi9 hg60 hnb.g2 hsv hF (by omega)
   obtain ⟨dn, dr, de, y1, y2, y3, y4⟩ := jj7 (nodes := n.drive) hsh hi9 hg60 hnb.g2 hsv hF (by omega)
   have hdn := y4 (zzx hdo)
   obtain ⟨us0, u1, u2, u3⟩ := zwi hF (by omega) (nodes := n.drive) fun k hk => by
    have := List.any_eq_false.1 (zzx hdo) k hk
    simp only [zh7, Bool.or_eq_true, decide_eq_true_eq, not_or] at this
    omega
   rw [hdn, u3] at y1 y2 y3
   have hk1 := jia ns rs hnl (by omega)
   have hk2 := zxu ns rs hI hnl hrl
   have hvv : (zhc ns rs != zhc ns rs) = false := by simp
   refine hK11 _ _ ?_
   refine zaf fun K12 hK12 => ?_
   refine zbx hp (τ' := frL [(5, .d (.fp (zwj ns rs node vars nodes shp vals) 0)), (7, .d (oD true)), (8, .d (.fp (zc2 n) 0)), (9, .d (shD sh))]) (H' := []) ?_ ?_
   ·refine Rt.trans (Rt.fz (id := 3) (l := zc2 n) rfl) ?_
    refine Rt.trans (Rt.fz (id := 2) (l := zwj ns rs node vars nodes shp vals) rfl) ?_
    refine Rt.trans (Rt.gc (keep := []) (by decide) (by decide) (by simp [fzH])) ?_
    refine Rt.end (zaa (zaa (zaa (zaa (zae _) rfl) rfl) rfl) rfl) ?_
    rfl
   refine zbo zad hc mixed rfl (q := 0) (by kernel_rfl) (by kernel_rfl) fun K13 hK13 => ?_
   simp -dsimp -implicitDefEqProofs (disch := first | omega | decide) only [q_r, zam, zac, ↓reduceIte, List.append_nil, List.replicate_zero, Nat.reduceEqDiff, iD, oD, zay, zas, Nat.reduceAdd, zc2, zbh, zbg, shD, shI, zwj, zf0, zgm, zps, zea, zeb]
   refine zb9 (z1) rfl ?_
   simp -dsimp -implicitDefEqProofs (disch := first | omega | decide) only [q_r, zam, zac, ↓reduceIte, Nat.reduceEqDiff, iD, Nat.reduceAdd, zsw, zdp, zf0, zgm, zps, zea, zeb]
   refine zb9 (z2) rfl ?_
   simp -dsimp -implicitDefEqProofs (disch := first | omega | decide) only [q_r, ↓reduceIte, Nat.reduceEqDiff, iD, Nat.reduceAdd, zsw, zdp]
   refine zb9 (z3) rfl ?_
   simp -dsimp -implicitDefEqProofs (disch := first | omega | decide) only [q_r, zam, zac, ↓reduceIte, Nat.reduceEqDiff, oD, Nat.reduceAdd, zf0, zgm, zea, zeb, znt]
   refine zb9 (y1) rfl ?_
   simp -dsimp -implicitDefEqProofs (disch := first | omega | decide) only [q_r, zam, zac, ↓reduceIte, Nat.reduceEqDiff, iD, Nat.reduceAdd, zsw, zdp, zf0, zgm, zea, zeb, znt]
   refine zb9 (y2) rfl ?_
   simp -dsimp -implicitDefEqProofs (disch := first | omega | decide) only [q_r, ↓reduceIte, Nat.reduceEqDiff, iD, Nat.reduceAdd, zsw, zdp]
   refine zb9 (y3) rfl ?_
   simp -dsimp -implicitDefEqProofs (disch := first | omega | decide) only [q_r, zam, zac, ↓reduceIte, Nat.reduceEqDiff, oD, Nat.reduceAdd, zin, zc8, zds]
   refine zb9 (hk2) rfl ?_
   simp -dsimp -implicitDefEqProofs (disch := first | omega | decide) only [q_r, zam, zac, ↓reduceIte, Nat.reduceEqDiff, oD, Nat.reduceAdd, zin, zc8, zds]
   refine zb9 (hk1) rfl ?_
   simp -dsimp -implicitDefEqProofs (disch := first | omega | decide) only [q_r, ↓reduceIte, Nat.reduceEqDiff, killAll, oD, Nat.reduceAdd, hvv, jn5]
   refine hK13 _ _ ?_
   refine zag rfl (fun ht => ?_) (fun ht => ?_)
   ·cases ht
   ·refine zan (hK12 _ _ ?_)
    refine zaf fun K14 hK14 => ?_
    have hJ14 : ∀ τ' H', (∃ τ1 H1, H1 = [] ∧ τ1 = frL [(5, .d (.fp (zwj ns rs node vars nodes shp vals) 0)), (7, .d (oD true)), (8, .d (.fp (zc2 n) 0)), (9, .d (shD sh))] ∧ Rt [] τ' H' τ1 H1) → K14 τ' H' := by
     rintro τ' H' ⟨_, _, rfl, rfl, hrt⟩
     refine hK14 _ _ (zbx hp hrt ?_)
     clear hrt
     refine zab hp zad hc rfl fun K15 hK15 => ?_
     simp -dsimp -implicitDefEqProofs (disch := first | omega | decide) only [q_r, zam, zac, ↓reduceIte, Nat.reduceEqDiff, iD, oD, zay, zas, zc2, zbh, zbg, shD, shI, zwj, zf0, zgm, znt, zea, zeb]
     refine zb9 (y2) rfl ?_
     simp -dsimp -implicitDefEqProofs (disch := first | omega | decide) only [q_r, zau, zkz, zfs, zd6, zb0, ↓reduceIte, List.append_nil, List.replicate_zero, List.replicate_succ, AV.one, D.one, iD, Nat.reduceAdd, zau, Nat.zero_mul, Nat.reduceMul, List.flatten_cons, List.flatten_nil, zsw, zdp, jk4, jn7]
     refine hK15 _ _ ?_
     refine zaf fun K16 hK16 => ?_
     have hJ16 : ∀ τ' H', (∃ τ1 H1, ∃ (ts : List TR), (ts.length ≤ 2 ∧ ∀ p ∈ ts, RowOk 1000 p.1 ∧ p.1.length ≤ 3000) ∧ H1 = [.cells (avs (ts.flatMap bC))] ∧ τ1 = frL [(5, .d (.fp (zwj ns rs node vars nodes shp vals) 0)), (7, .d (oD true)), (10, .os 2 0 0 ts.length)] ∧ Rt [] τ' H' τ1 H1) → K16 τ' H' := by
      rintro τ' H' ⟨_, _, ts, ⟨htl, hts⟩, rfl, rfl, hrt⟩
      refine hK16 _ _ (zbx hp hrt ?_)
      clear hrt
      refine zaf fun K17 hK17 => ?_
      refine zab hp zad hc rfl fun K18 hK18 => ?_
      simp -dsimp -implicitDefEqProofs (disch := first | omega | decide) only [q_r, iD, oD, zay, zas, shI, zwj]
      refine hK18 _ _ ?_
      refine zaq ?_
      refine za4 hp (fun τ' H' mm => ∃ (i : Nat), (i ≤ ts.length) ∧ mm = ts.length - i ∧ H' = [] ∧ τ' = frL [(5, .d (.fp (zwj ns rs node vars nodes shp vals) 0)), (7, .d (oD true)), (10, .d (.fs (ts.flatMap bC) ts.length)), (11, .d (iD i))]) (ts.length) ?_ ⟨0, Nat.zero_le _, rfl, rfl, rfl⟩ ?_
      ·refine Rt.trans (Rt.fz (id := 0) (l := (ts.flatMap bC)) rfl) ?_
       refine Rt.trans (Rt.slot 10 (ji5 (zax jmp))) ?_
       refine Rt.trans (Rt.gc (keep := []) (by decide) (by decide) (by simp [fzH])) ?_
       refine Rt.end (zaa (zaa (zaa (zaa (zae _) rfl) rfl) rfl) rfl) ?_
       rfl
      rintro τ' H' mm ⟨i, hi, rfl, rfl, rfl⟩
      refine zaf fun K19 hK19 => ?_
      refine zab hp zad hc rfl fun K20 hK20 => ?_
      simp -dsimp -implicitDefEqProofs (disch := first | omega | decide) only [q_r, zc1, zar, ↓reduceIte, Nat.reduceEqDiff, iD, oD, zay, zas, shI, zwj, ztv]
      refine hK20 _ _ ?_
      refine zag rfl (fun ht => ?_) (fun ht => ?_)
      ·have hlt : i < ts.length := by simp at ht; omega
       obtain ⟨p1, p2⟩ := hts _ (zcf hlt)
       obtain ⟨us, hus⟩ : ∃ us, (nth ts i).1 = us := ⟨_, rfl⟩
       obtain ⟨ro, hro⟩ : ∃ ro, (nth ts i).2 = ro := ⟨_, rfl⟩
       rw [hus] at p1 p2
       have hrow := jqh hlt
       have hbc : bC (nth ts i) = zdp (zdl us) ro := by unfold bC; rw [hus, hro]
       rw [hbc] at hrow
       have p3 : us.length ≤ zed := by unfold zed; omega
       have hal := jis us node vars
       have hsl2 := jit us node
       refine zan (hK19 _ _ ?_)
       refine zaf fun K21 hK21 => ?_
       refine zaq ?_
       refine zbo zad hc mixed rfl (q := 1) (by kernel_rfl) (by kernel_rfl) fun K22 hK22 => ?_
       simp -dsimp -implicitDefEqProofs (disch := first | omega | decide) only [q_r, zam, zac, ixO, zai, ↓reduceIte, List.replicate_zero, List.replicate_succ, Int.toNat_natCast, Nat.reduceEqDiff, Nat.reduceAdd, zdp, hrow, ztv, zc8, zds, zjn, zci, zcn, zts]
       refine zb9 (zxt 1000 us ro p1 (Nat.le_refl _) p3 node vars) rfl ?_
       simp -dsimp -implicitDefEqProofs (disch := first | omega | decide) only [q_r, zb0, zc6, za6, ↓reduceIte, D.one, Value.oneCell', Nat.reduceEqDiff, shB, zqn, killAll, iD, zas, Nat.reduceAdd, zc6, zpe, zpv, jev]
       refine hK22 _ _ ?_
       refine zbx hp (τ' := frL [(5, .d (.fp (zwj ns rs node vars nodes shp vals) 0)), (7, .d (oD true)), (10, .d (.fs (ts.flatMap bC) ts.length)), (11, .d (iD i)), (12, .d (.fp [zas (zq3 us node vars), iD (zwd us node vars)] 0))]) (H' := []) ?_ ?_
       ·refine Rt.trans (Rt.fz (id := 0) (l := [zas (zq3 us node vars), iD (zwd us node vars)]) rfl) ?_
        refine Rt.trans (Rt.gc (keep := []) (by decide) (by decide) (by simp [fzH])) ?_
        refine Rt.end (zaa (zaa (zaa (zaa (zaa (zae _) rfl) rfl) rfl) rfl) rfl) ?_
        rfl
       refine zbo zad hc mixed rfl (q := 1) (by kernel_rfl) (by kernel_rfl) fun K23 hK23 => ?_
       simp -dsimp -implicitDefEqProofs (disch := first | omega | decide) only [q_r, zam, zac, ixO, zai, ↓reduceIte, List.replicate_zero, List.replicate_succ, Int.toNat_natCast, Nat.reduceEqDiff, iD, oD, zay, zas, Nat.reduceAdd, shI, zdp, zwj, hrow, ztv, zc8, zds, zjn, zci, zcn, zts]
       refine zb9 (jmm 1000 us ro p1 (Nat.le_refl _) p2 node vars) rfl ?_
       simp -dsimp -implicitDefEqProofs (disch := first | omega | decide) only [q_r, zb0, zc6, za6, ↓reduceIte, D.one, Value.oneCell', Nat.reduceEqDiff, shB, zqn, killAll, iD, zas, Nat.reduceAdd, zc6, zpe, zpv, jev]
       refine hK23 _ _ ?_
       refine zbx hp (τ' := frL [(5, .d (.fp (zwj ns rs node vars nodes shp vals) 0)), (7, .d (oD true)), (10, .d (.fs (ts.flatMap bC) ts.length)), (11, .d (iD i)), (12, .d (.fp [zas (zq3 us node vars), iD (zwd us node vars)] 0)), (13, .d (.fp [zas (zq3 us node vars), iD (zwd us node vars)] 0))]) (H' := []) ?_ ?_
       ·refine Rt.trans (Rt.fz (id := 0) (l := [zas (zq3 us node vars), iD (zwd us node vars)]) rfl) ?_
        refine Rt.trans (Rt.gc (keep := []) (by decide) (by decide) (by simp [fzH])) ?_
        refine Rt.end (zaa (zaa (zaa (zaa (zaa (zaa (zae _) rfl) rfl) rfl) rfl) rfl) rfl) ?_
        rfl
       refine zbo zad hc mixed rfl (q := 0) (by kernel_rfl) (by kernel_rfl) fun K24 hK24 => ?_
       simp -dsimp -implicitDefEqProofs (disch := first | omega | decide) only [q_r, zam, zac, ixO, zai, ↓reduceIte, List.append_nil, List.replicate_zero, Int.toNat_natCast, Nat.reduceEqDiff, iD, oD, zay, zas, Nat.reduceAdd, shI, zdp, zwj, List.append_eq, hrow, ztv, zc8, zds, zjn, zci, zcn, ztt, zqz, zq0]
       refine zb9 (jfe 1000 us ro p1 (Nat.le_refl _) p3 node vals hvl) rfl ?_
       simp -dsimp -implicitDefEqProofs (disch := first | omega | decide) only [q_r, zam, zac, ixO, zai, ↓reduceIte, Int.toNat_natCast, Nat.reduceEqDiff, oD, Nat.reduceAdd, zdp, hrow, ztv, zc8, zds, zjn, zci, zcn, ztt, zqz, zq0]
       refine zb9 (jmn 1000 us ro p1 (Nat.le_refl _) p3 node vals hvl) rfl ?_
       simp -dsimp -implicitDefEqProofs (disch := first | omega | decide) only [q_r, zam, zac, ixO, zai, ↓reduceIte, Int.toNat_natCast, Nat.reduceEqDiff, oD, Nat.reduceAdd, zdp, hrow, bne_self_eq_false, ztv, zc8, zds, zjn, zci, zcn, jn5]
       refine zb9 (zp8 1000 us ro p1 (Nat.le_refl _) p3 node) rfl ?_
       simp -dsimp -implicitDefEqProofs (disch := first | omega | decide) only [q_r, zam, zac, ixO, zai, ↓reduceIte, Int.toNat_natCast, Nat.reduceEqDiff, zay, Nat.reduceAdd, zdp, hrow, ztv, zc8, zds, zjn, zci, zcn]
       refine zb9 (zs1 1000 us ro p1 (Nat.le_refl _) p2 node) rfl ?_
       simp -dsimp -implicitDefEqProofs (disch := first | omega | decide) only [q_r, ↓reduceIte, Nat.reduceEqDiff, zay, Nat.reduceAdd]
       refine zb9 (jjo (zwc us node) (zwc us node) (by omega)) rfl ?_
       simp -dsimp -implicitDefEqProofs (disch := first | omega | decide) only [q_r, zam, zac, ixO, zai, ↓reduceIte, Int.toNat_natCast, Nat.reduceEqDiff, oD, Nat.reduceAdd, zdp, hrow, decide_true, ztv, zc8, zds, zjn, zci, zcn, zts]
       refine zb9 (zp9 1000 us ro p1 (Nat.le_refl _) p3 node vars) rfl ?_
       simp -dsimp -implicitDefEqProofs (disch := first | omega | decide) only [q_r, zam, zac, ixO, zai, ↓reduceIte, Int.toNat_natCast, Nat.reduceEqDiff, iD, Nat.reduceAdd, zdp, hrow, ztv, zc8, zds, zjn, zci, zcn, zts]
       refine zb9 (jgd 1000 us ro p1 (Nat.le_refl _) p2 node vars) rfl ?_
       simp -dsimp -implicitDefEqProofs (disch := first | omega | decide) only [q_r, zam, zac, ↓reduceIte, Bool.true_and, Nat.reduceEqDiff, iD, Nat.reduceAdd, bne_self_eq_false, znh, zeq, zdw, zer, zdv, zcy, beq_self_eq_true, zqz, zq0, zsd jn9, jey, jha, jhb, jew]
       refine zb9 (zuf (zq3 us node vars) (zq3 us node vars) (by omega)) rfl ?_
       simp -dsimp -implicitDefEqProofs (disch := first | omega | decide) only [q_r, ↓reduceIte, Nat.reduceEqDiff, killAll, oD, Nat.reduceAdd, decide_true]
       refine hK24 _ _ ?_
       refine zag rfl (fun ht => ?_) (fun ht => ?_)
       ·cases ht
       ·refine zan (hK21 _ _ ?_)
        refine zbs hp zad hc rfl fun K25 hK25 => ?_
        simp -dsimp -implicitDefEqProofs (disch := first | omega | decide) only [q_r, ↓reduceIte, Nat.reduceEqDiff]
        refine hK25 _ _ ⟨_, _, _, ?_, ⟨i + 1, by omega, rfl, rfl, rfl⟩, ?_⟩
        ·first | omega | (simp only [List.length_cons]; omega) | (dsimp only; omega)
        ·refine Rt.end (zaa (zaa (zaa (zaa (zae _) rfl) rfl) rfl) rfl) ?_
         rfl
      ·refine zbd (hK17 _ _ ?_)
       refine zab hp zad hc rfl fun K26 hK26 => ?_
       simp -dsimp -implicitDefEqProofs (disch := first | omega | decide) only [q_r, ↓reduceIte, Nat.reduceEqDiff]
       refine hK26 _ _ ?_
       refine zao ?_
       show zaj _ _ = _
       simp (disch := first | omega | decide) only [zaj, zct, za1, D.fix, zat, ↓reduceIte, Option.map_some, List.length_nil, oD]
     refine zab hp zad hc rfl fun K27 hK27 => ?_
     simp -dsimp -implicitDefEqProofs (disch := first | omega | decide) only [q_r, zam, zac, ↓reduceIte, Nat.reduceEqDiff, zin, zc8, zds]
     refine zb9 (hk1) rfl ?_
     simp -dsimp -implicitDefEqProofs (disch := first | omega | decide) only [q_r, oD]
     refine hK27 _ _ ?_
     refine zag rfl (fun ht => ?_) (fun ht => ?_)
     ·obtain ⟨us1, rs1, v1, v2, v3⟩ := zx7 (ns := ns) (rs := rs) (by simpa using ht)
      have v4 : zee ns rs = bC (us1, rs1) := by
       have h9 : D.agg (zee ns rs) = D.agg (zdp (zdl us1) rs1) := v3
       injection h9
      unfold zee at v4
      refine zbs hp zad hc rfl fun K28 hK28 => ?_
      simp -dsimp -implicitDefEqProofs (disch := first | omega | decide) only [q_r, zau, zam, zac, zb0, zic, ↓reduceIte, List.append_nil, List.replicate_zero, List.replicate_succ, D.one, Nat.reduceEqDiff, List.drop_zero, Nat.reduceAdd, zau, Nat.zero_mul, Nat.reduceMul, List.flatten_cons, List.flatten_nil, zin, zc8, zds, jn7]
      refine hK28 _ _ (hJ16 _ _ ⟨_, _, [(us0, dr), (us1, rs1)], ⟨by simp, by simp [u1, u2, v1, v2]⟩, rfl, rfl, ?_⟩)
      refine Rt.trans (Rt.gc (keep := [2]) (by decide) (by decide) (by simp [])) ?_
      refine Rt.end (zaa (zaa (zaa (zae _) rfl) rfl) rfl) ?_
      simp only [gcH, zbb, zcb, gcV, List.map_cons, List.map_nil, List.getD_cons_zero, List.getD_cons_succ]; show _ = [AObj.cells (avs (bC (us0, dr) ++ (bC (us1, rs1) ++ [])))]; rw [← v4]; rfl
     ·refine zan (hJ16 _ _ ⟨_, _, [(us0, dr)], ⟨by simp, by simp [u1, u2]⟩, rfl, rfl, ?_⟩)
      refine Rt.trans (Rt.gc (keep := [0]) (by decide) (by decide) (by simp [])) ?_
      refine Rt.end (zaa (zaa (zaa (zae _) rfl) rfl) rfl) ?_
      rfl
    have hvs := zzs shp hsl
    refine zab hp zad hc rfl fun K29 hK29 => ?_
    rcases tf (!decide (8 < shp.length) && !shp.any zn7) with q8 | q8
    ·rw [q8] at hvs
     simp -dsimp -implicitDefEqProofs (disch := first | omega | decide) only [q_r, zam, zac, ↓reduceIte, Nat.reduceEqDiff, zxd, zv0, zv1]
     refine zb9 (hvs) rfl ?_
     simp -dsimp -implicitDefEqProofs (disch := first | omega | decide) only [q_r, ↓reduceIte, Nat.reduceEqDiff, oD]
     refine hK29 _ _ ?_
     refine zag rfl (fun ht => ?_) (fun ht => ?_)
     ·cases ht
     ·refine zan (hJ14 _ _ ⟨_, _, rfl, rfl, ?_⟩)
      refine Rt.trans (Rt.gc (keep := []) (by decide) (by decide) (by simp [])) ?_
      refine Rt.end (zaa (zaa (zaa (zaa (zae _) rfl) rfl) rfl) rfl) ?_
      rfl
    ·rw [q8] at hvs
     have hrb : jm3 n shp n.drive = true := by
      unfold jm3
      cases h8 : decide (8 < shp.length)
      ·cases h9 : shp.any zn7
       ·rw [h8, h9] at q8; cases q8
       ·rfl
      ·rfl
     have hba := zud n shp n.drive hrb hsl (by omega) (by omega) (by omega)
     simp -dsimp -implicitDefEqProofs (disch := first | omega | decide) only [q_r, zam, zac, ↓reduceIte, Nat.reduceEqDiff, zxd, zv0, zv1]
     refine zb9 (hvs) rfl ?_
     simp -dsimp -implicitDefEqProofs (disch := first | omega | decide) only [q_r, zam, zac, ↓reduceIte, Nat.reduceEqDiff, oD, zxd, zv0, zv1, zf0, zgm, znt, zea, zeb]
     refine zb9 (hba) rfl ?_
     simp -dsimp -implicitDefEqProofs (disch := first | omega | decide) only [q_r, zkz, zfs, zd6, ↓reduceIte, Nat.reduceEqDiff, iD, zsw, zdp, bne_self_eq_false, zxf]
     refine hK29 _ _ ?_
     refine zag rfl (fun ht => ?_) (fun ht => ?_)
     ·cases ht
     ·refine zan (hJ14 _ _ ⟨_, _, rfl, rfl, ?_⟩)
      refine Rt.trans (Rt.gc (keep := []) (by decide) (by decide) (by simp [])) ?_
      refine Rt.end (zaa (zaa (zaa (zaa (zae _) rfl) rfl) rfl) rfl) ?_
      rfl
end Go.Proofs.Ytgfnpfchdlcoeaa

/- What the reference's law takes in. -/
set_option linter.unusedVariables false
set_option linter.unusedSimpArgs false
namespace Go.Proofs.Ytgfnpfchdlcoeaa
open Go Go.RowKit Go.ChangeShapes
section
variable {H : Type} {enc : TypeId × Value → H} {w : World} {sp : Nat → Bool}
theorem jgg : Op enc Try.prog w sp 29 (fun l : List Int => [zay l]) (fun l => l.length ≤ maxLen) :=
 (Op.slice Try.underlying29 (wd := 1) (by kernel_rfl) (by omega) (fun _ => rfl) zqg).conv fun l h => ⟨l, h.1, by rw [zit]; rfl⟩
theorem jsy : Op enc Try.prog w sp 83 niC N64 :=
 (Op.str Try.underlying83 (e := 3) (by kernel_rfl) (.cons (wd := 1) rfl (by kernel_rfl) zqg (.cons (wd := 1) rfl (by kernel_rfl) zqg (.cons (wd := 1) rfl (by kernel_rfl) zqg .nil rfl) rfl) rfl)).conv fun p h => by
  obtain ⟨a, b, c, u⟩ := p
  obtain ⟨h1, h2, h3, _⟩ := h
  exact ⟨⟨a, b, c⟩, ⟨h1, h2, h3⟩, rfl⟩
theorem jqi : Op enc Try.prog w sp 31 (fun p : List NI × List Int => zee p.1 p.2) (fun p => (p.1.length ≤ maxLen ∧ ∀ n ∈ p.1, N64 n) ∧ p.2.length ≤ maxLen) :=
 (Op.str Try.underlying31 (e := 2) (by kernel_rfl) (.cons (wd := 1) rfl (by kernel_rfl) (Op.slice Try.underlying28 (wd := 3) (by kernel_rfl) (by omega) jqp jsy) (.cons (wd := 1) rfl (by kernel_rfl) jgg .nil rfl) rfl)).conv fun p h => by
  obtain ⟨a, b, u⟩ := p
  obtain ⟨h1, h2, _⟩ := h
  exact ⟨(a, b), ⟨h1, h2⟩, rfl⟩
theorem jsz {l : List Int} (h : l.length = 2) : l = [nth l 0, nth l 1] := by
 match l, h with
 | [a, b], _ => rfl
theorem jmq : Op enc Try.prog w sp 84 pC (fun _ => True) :=
 (Op.arr Try.underlying84 (wd := 1) (by kernel_rfl) (by kernel_rfl) (by omega) (fun _ => rfl) zqg).conv fun l h => by
  refine ⟨(nth l 0, nth l 1), trivial, ?_⟩
  rw [zit]
  conv => lhs; rw [jsz h.1]
  rfl
theorem jiu : Op enc Try.prog w sp 32 (fun l : List (Int × Int) => [shI l]) (fun l => l.length ≤ maxLen) :=
 (Op.slice Try.underlying32 (wd := 2) (by kernel_rfl) (by omega) p_w jmq).conv fun l h => ⟨l, h.1, rfl⟩
structure OddN where
 ns : List NI
 rs : List Int
 node : Int
 vars : Int
 nodes : List Int
 shp : List (Int × Int)
 vals : List Bool
structure OddOk (z : OddN) : Prop where
 i : ∀ n ∈ z.ns, N64 n
 n : z.ns.length ≤ maxLen
 r : z.rs.length ≤ maxLen
 d : z.nodes.length ≤ maxLen
 s : z.shp.length ≤ maxLen
 v : z.vals.length ≤ maxLen
theorem op_odd : Op enc Try.prog w sp 35 (fun z : OddN => zwj z.ns z.rs z.node z.vars z.nodes z.shp z.vals) OddOk :=
 (Op.str Try.underlying35 (e := 7) (by kernel_rfl) (.cons (wd := 2) rfl (by kernel_rfl) jqi (.cons (wd := 1) rfl (by kernel_rfl) zqg (.cons (wd := 1) rfl (by kernel_rfl) zqg (.cons (wd := 1) rfl (by kernel_rfl) jgg (.cons (wd := 1) rfl (by kernel_rfl) jiu (.cons (wd := 1) rfl (by kernel_rfl) jij .nil rfl) rfl) rfl) rfl) rfl) rfl)).conv fun p h => by
  obtain ⟨⟨a, b⟩, c, d, e, f, g, u⟩ := p
  obtain ⟨⟨⟨h1, h2⟩, h3⟩, _, _, h4, h5, h6, _⟩ := h
  exact ⟨⟨a, b, c, d, e, f, g⟩, ⟨h2, h1, h3, h4, h5, h6⟩, rfl⟩
end
end Go.Proofs.Ytgfnpfchdlcoeaa
