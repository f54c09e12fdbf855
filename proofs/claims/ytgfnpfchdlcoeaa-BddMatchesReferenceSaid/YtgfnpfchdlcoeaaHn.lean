/- A valid diagram is a row of trees. -/
import Derived.Test.YtgfnpfchdlcoeaaHl
import Derived.Test.YtgfnpfchdlcoeaaQr
import Derived.Test.YtgfnpfchdlcoeaaQ
set_option linter.unusedVariables false
set_option linter.unusedSimpArgs false
namespace Go.Proofs.Ytgfnpfchdlcoeaa
open Go Go.RowKit
theorem zz5 {ns : List NI} (h : ∀ i, i < ns.length → vB ns i = true) : ∀ i, i ≤ ns.length → ∃ us : List T, us.length = i ∧ RowOk 1000 us ∧ (zdl us).map toI = ns.take i
 | 0, _ => ⟨[], rfl, .nil 1000, by simp [zdl]⟩
 | i + 1, hi => by
  obtain ⟨us, hl, hr, he⟩ := zz5 h i (by omega)
  obtain ⟨a1, a2, a3, a4, a5, a6, a7, a8, a9, a10⟩ := vB_iff.1 (h i (by omega))
  have hat : ∀ k : Int, 2 ≤ k → k < i + 2 → (nth ns (k - 2).toNat).v = ((nth (zbn us) k.toNat).v : Nat) ∧ (nth (zbn us) k.toNat).lf = false := fun k k1 k2 => by
   have hj : (k - 2).toNat < i := by omega
   have e1 : nth ((zdl us).map toI) (k - 2).toNat = nth ns (k - 2).toNat := by
    rw [he]
    exact ze2 ⟨hj, by omega⟩
   rw [zjj (by rw [zbc]; omega)] at e1
   have e2 : nth (zbn us) k.toNat = nth us (k - 2).toNat := by
    rw [show k.toNat = (k - 2).toNat + 2 by omega]
    unfold zbn nth; simp
   have hin : nth us (k - 2).toNat ∈ us := zcf (by omega)
   rw [e2, ← e1]
   refine ⟨?_, jlu hr hin⟩
   unfold zdl
   rw [zjj (by omega)]; rfl
  have hin : ∀ k : Int, 0 ≤ k → k < i + 2 → nth (zbn us) k.toNat ∈ zbn us ∧ num us (nth (zbn us) k.toNat) = k.toNat := fun k k1 k2 => ⟨zlr (by omega), ze1 hr (by omega)⟩
  have hch : ∀ k : Int, 0 ≤ k → k < i + 2 → (k < 2 ∨ (nth ns i).v < (nth ns (k - 2).toNat).v) → (nth (zbn us) k.toNat).Ok 1000 ((nth ns i).v.toNat + 1) := fun k k1 k2 k3 => by
   have hok := hr.okf (hin k k1 k2).1
   rcases zdj (nth (zbn us) k.toNat) with q | q
   ·cases hc : nth (zbn us) k.toNat with
    | leaf b => trivial
    | node _ _ _ => rw [hc] at q; cases q
   ·have hk2 : 2 ≤ k := by
     have := zfo hr (hin k k1 k2).1 q
     rw [(hin k k1 k2).2] at this
     omega
    obtain ⟨b1, _⟩ := hat k hk2 k2
    rcases k3 with k3 | k3
    ·omega
    ·rw [b1] at k3
     cases hc : nth (zbn us) k.toNat with
     | leaf b => trivial
     | node u l r =>
      rw [hc] at hok k3
      exact ⟨by have : (nth ns i).v < (u : Int) := k3; omega, hok.2⟩
  obtain ⟨l, hld⟩ : ∃ l, nth (zbn us) (nth ns i).lo.toNat = l := ⟨_, rfl⟩
  obtain ⟨r, hrd⟩ : ∃ r, nth (zbn us) (nth ns i).hi.toNat = r := ⟨_, rfl⟩
  obtain ⟨l1, l2⟩ := hin _ a5 a6
  obtain ⟨r1, r2⟩ := hin _ a8 a9
  have lk := hch _ a5 a6 a7
  have rk := hch _ a8 a9 a10
  rw [hld] at l1 l2 lk
  rw [hrd] at r1 r2 rk
  have hne : l ≠ r := fun e => by rw [e, r2] at l2; omega
  have hok : (T.node (nth ns i).v.toNat l r).Ok 1000 0 := ⟨Nat.zero_le _, by omega, hne, lk, rk⟩
  have hnd : toI (zhz us (.node (nth ns i).v.toNat l r)) = nth ns i := by
   rw [← ni_eq]
   refine ⟨?_, ?_, ?_⟩
   ·show (((nth ns i).v.toNat : Nat) : Int) = _; omega
   ·show ((num us l : Nat) : Int) = _; rw [l2]; omega
   ·show ((num us r : Nat) : Int) = _; rw [r2]; omega
  have hni : T.node (nth ns i).v.toNat l r ∉ zbn us := fun hm => by
   simp only [zbn, List.mem_cons] at hm
   rcases hm with hm | hm | hm
   ·cases hm
   ·cases hm
   ·refine a4 ?_
    rw [← he, ← hnd]
    exact List.mem_map_of_mem (List.mem_map_of_mem hm)
  refine ⟨us ++ [.node (nth ns i).v.toNat l r], by simp [hl], hr.snoc (t := .node (nth ns i).v.toNat l r) hok hni l1 r1, ?_⟩
  rw [zp4 hr (t := .node (nth ns i).v.toNat l r) l1 r1, List.map_append, he, zel (by omega)]
  simp [hnd]
theorem zx7 {ns : List NI} {rs : List Int} (h : zhc ns rs = true) : ∃ (us : List T) (rs' : List Nat), RowOk 1000 us ∧ us.length ≤ 3000 ∧ zi2 ns rs = zfp (zdl us) rs' := by
 unfold zhc at h
 simp only [Bool.and_eq_true, decide_eq_true_eq] at h
 obtain ⟨h1, h2, h3⟩ := h
 obtain ⟨us, hl, hr, he⟩ := zz5 (fun i hi => List.all_eq_true.1 h2 i (List.mem_range.2 hi)) ns.length (Nat.le_refl _)
 rw [List.take_length] at he
 refine ⟨us, rs.map Int.toNat, hr, by omega, ?_⟩
 rw [jju, he, List.map_map]
 congr 1
 conv => lhs; rw [← List.map_id rs]
 refine List.map_congr_left fun k hk => ?_
 have := List.all_eq_true.1 h3 k hk
 unfold jfh at this
 simp only [Bool.and_eq_true, decide_eq_true_eq] at this
 show k = ((k.toNat : Nat) : Int)
 omega
end Go.Proofs.Ytgfnpfchdlcoeaa

/- What is built is determined, and is what the reference builds. -/
set_option linter.unusedVariables false
set_option linter.unusedSimpArgs false
set_option maxRecDepth 100000
set_option maxHeartbeats 4000000
namespace Go.Proofs.Ytgfnpfchdlcoeaa
open Go Go.RowKit
theorem FsP.cut {V ins : Nat} {sh : Sh} {gates : List Gate} {j : Nat} {fs : List T} (h : FsP V ins sh gates j fs) (hj : j ≤ gates.length) : FsP V ins sh (gates.take j) (gates.take j).length fs := by
 have e : (gates.take j).length = j := by rw [List.length_take]; omega
 rw [e]
 exact ⟨h.len, h.ok, h.f0, h.f1, h.fv, fun q hq a => by rw [h.fg q hq a, ze2 ⟨hq, by omega⟩]⟩
theorem GatesOk.cut {m : Nat} {gates : List Gate} (h : GatesOk m gates) (j : Nat) : GatesOk m (gates.take j) := fun k hk => by
 rw [List.length_take] at hk
 rw [ze2 ⟨by omega, by omega⟩]
 exact h k (by omega)
theorem jj6 {V ins : Nat} {sh : Sh} {gates : List Gate} {j : Nat} {f1 f2 : List T} (h1 : FsP V ins sh gates j f1) (hj : j ≤ gates.length) (h2 : FsP V ins sh gates gates.length f2) (hg : GatesOk (2 + ins) gates) : f1 = f2.take (2 + ins + j) := by
 have l1 := h1.len
 have l2 := h2.len
 have hs := jl9 (h1.cut hj) h2 (List.take_prefix _ _) (hg.cut j)
 rw [show (gates.take j).length = j by rw [List.length_take]; omega] at hs
 refine jdy (by rw [List.length_take]; omega) fun k hk => ?_
 rw [ze2 ⟨by omega, by omega⟩, hs k (by omega)]
theorem jge {n : Net} {sh : Sh} {nodes : List Int} {fs : List T} (hF : FsP (zcz n.ins.length sh) n.ins.length sh n.gates n.gates.length fs) (hgo : GatesOk (2 + n.ins.length) n.gates) (hi : n.ins.length ≤ 100) (hb : BIn (zcz n.ins.length sh) n sh nodes) :
  zbi Try.prog 15 [zf1 n, shD sh, zay nodes] (.d (zsw (jgj fs nodes) (jj2 fs nodes) (jm5 fs))) :=
 (zxs _ n sh nodes hb).det fun r ⟨ns, rs, e, hr, h⟩ => by
  rcases h with ⟨he, hns, hrs, j, f1, hj, h1, h2⟩ | ⟨he, f1, h1, hq, hns, hrs⟩
  ·have hbig : 3000 < (zd1 fs).length := by
    have hc := jj6 h1 hj hF hgo
    have hp := (zt7 (fs.take (2 + n.ins.length + j)) (fs.drop (2 + n.ins.length + j))).length_le
    rw [List.take_append_drop, ← hc] at hp
    omega
   rw [hr, he, hns, hrs]
   unfold jgj jj2 jm5
   rw [if_pos hbig, if_pos hbig, if_pos hbig]
  ·have hc := jj6 h1 (Nat.le_refl _) hF hgo
   have hl := hF.len
   rw [List.take_of_length_le (by omega)] at hc
   subst hc
   have hsm : ¬ 3000 < (zd1 f1).length := by
    have := jci hF hi hq
    omega
   rw [hr, he, hns, hrs]
   unfold jgj jj2 jm5
   rw [if_neg hsm, if_neg hsm, if_neg hsm]
theorem jsx {V W : Nat} (h : V ≤ W) {us : List T} (hr : RowOk V us) : RowOk W us := ⟨hr.nd, fun t ht => (hr.ok t ht).up h, hr.ch⟩
theorem zwi {V ins : Nat} {sh : Sh} {gates : List Gate} {j : Nat} {fs : List T} (hF : FsP V ins sh gates j fs) (hV : V ≤ 1000) {nodes : List Int} (h : ∀ k ∈ nodes, 0 ≤ k ∧ k < fs.length) : ∃ us : List T, RowOk 1000 us ∧ us.length ≤ 3000 ∧ jgj fs nodes = zdl us := by
 by_cases hb : 3000 < (zd1 fs).length
 ·exact ⟨[], .nil _, by simp, by unfold jgj; rw [if_pos hb]; rfl⟩
 ·have hrin := zzv h
  have hfull := zuk (V := V) (fs := fs) hF.ok
  have hle := jfd hfull (fs := zej fs nodes) fun t ht => zp5 (hrin t ht)
  exact ⟨zd1 (zej fs nodes), jsx hV (zuk fun t ht => hF.ok t (hrin t ht)), by omega, by unfold jgj; rw [if_neg hb]⟩
theorem jgf (n : Net) (sh : Sh) (nodes : List Int) (hsh : ShOk sh) (hi9 : n.ins.length ≤ 1000) (hg60 : n.gates.length ≤ 1000) (hnl : nodes.length ≤ 40) (hno : nodes.any (zh7 (2 + n.ins.length + n.gates.length)) = true) : zbi Try.prog 16 [zf1 n, shD sh, zay nodes] (.d (zsw [] [] 1)) := by
 refine za8 (fn := Try.f16) (by kernel_rfl) Try.func16 rfl (Nat.le_of_ble_eq_true rfl) fun c hc hp => ?_
 refine zba (τ' := frL [(0, .d (zf1 n)), (1, .d (shD sh)), (2, .d (zay nodes))]) (zaa (zaa (zaa (zae _) rfl) rfl) rfl) ?_
 refine zab hp zad hc rfl fun K1 hK1 => ?_
 simp -dsimp -implicitDefEqProofs (disch := first | omega | decide) only [q_r, zau, zb0, ↓reduceIte, D.one, zay, zau, zf1, zc2, zbh, zbg, shD, jb4]
 refine hK1 _ _ ?_
 refine zaf fun K2 hK2 => ?_
 refine zab hp zad hc rfl fun K3 hK3 => ?_
 simp -dsimp -implicitDefEqProofs (disch := first | omega | decide) only [q_r, ↓reduceIte, Nat.reduceEqDiff, Nat.reduceAdd]
 refine zb9 (zz3 hsh) rfl ?_
 simp -dsimp -implicitDefEqProofs (disch := first | omega | decide) only [q_r, ↓reduceIte, oD]
 refine hK3 _ _ ?_
 refine zag rfl (fun ht => ?_) (fun ht => ?_)
 ·cases ht
 ·refine zan (hK2 _ _ ?_)
  refine zaf fun K4 hK4 => ?_
  refine zab hp zad hc rfl fun K5 hK5 => ?_
  simp -dsimp -implicitDefEqProofs (disch := first | omega | decide) only [q_r]
  refine hK5 _ _ ?_
  refine zaq ?_
  refine za4 hp (fun τ' H' mm => ∃ (i : Nat), (i ≤ nodes.length ∧ ∀ q, q < i → zh7 (2 + n.ins.length + n.gates.length) (nth nodes q) = false) ∧ mm = nodes.length - i ∧ H' = [.cells (avs (zc2 n)), .cells [.d (.val (.slice none 0 0)), .d (.val (.slice none 0 0)), .d (iD 0)]] ∧ τ' = frL [(1, .d (shD sh)), (2, .d (zay nodes)), (3, .op 0 0), (6, .op 1 0), (7, .d (iD i))]) (nodes.length) ?_ ⟨0, ⟨Nat.zero_le _, fun q hq => by omega⟩, rfl, rfl, rfl⟩ ?_
  ·refine Rt.end (zaa (zaa (zaa (zaa (zaa (zae _) rfl) rfl) rfl) rfl) rfl) ?_
   rfl
  rintro τ' H' mm ⟨i, ⟨hi, hgood⟩, rfl, rfl, rfl⟩
  refine zaf fun K6 hK6 => ?_
  refine zab hp zad hc rfl fun K7 hK7 => ?_
  simp -dsimp -implicitDefEqProofs (disch := first | omega | decide) only [q_r, zc1, zar, ↓reduceIte, Nat.reduceEqDiff, iD, zay, zc2, zbh, zbg, shD, zc3]
  refine hK7 _ _ ?_
  refine zag rfl (fun ht => ?_) (fun ht => ?_)
  ·have hlt : i < nodes.length := by simp at ht; omega
   refine zan (hK6 _ _ ?_)
   refine zaf fun K8 hK8 => ?_
   refine zaq ?_
   refine zbo zad hc mixed rfl (q := 0) (by kernel_rfl) (by kernel_rfl) fun K9 hK9 => ?_
   rcases (show nth nodes i < 0 ∨ (0 ≤ nth nodes i ∧ 2 + (n.ins.length : Int) + n.gates.length ≤ nth nodes i) ∨ (0 ≤ nth nodes i ∧ nth nodes i < 2 + (n.ins.length : Int) + n.gates.length) by omega) with k0 | ⟨k0, k1⟩ | ⟨k0, k1⟩
   ·have q1 : decide (nth nodes i < 0) = true := by simp; omega
    have q2 := q1
    simp -dsimp -implicitDefEqProofs (disch := first | omega | decide) only [q_r, zam, ixO, zai, ↓reduceIte, List.append_nil, List.replicate_zero, Int.toNat_natCast, Nat.reduceEqDiff, killAll, iD, Nat.reduceAdd, q1, zc3, zci, zcn]
    refine hK9 _ _ ?_
    refine zag rfl (fun ht => ?_) (fun ht => ?_)
    ·refine zab hp zad hc rfl fun K10 hK10 => ?_
     simp -dsimp -implicitDefEqProofs (disch := first | omega | decide) only [q_r, zb7, za6, ↓reduceIte, AV.one, D.one, Value.oneCell', Nat.reduceEqDiff, Nat.reduceAdd, zv4, zpu, zk2, zv3]
     refine hK10 _ _ ?_
     refine zao ?_
     try dsimp only [zfd, zcc]
     refine zch rfl ?_
     simp -dsimp -implicitDefEqProofs (disch := first | omega | decide) only [q_r, zam, ↓reduceIte, Nat.reduceEqDiff, Nat.reduceAdd, zk2, zv2]
     show zaj _ _ = _
     simp (disch := first | omega | decide) only [zaj, za1, zcr, za9, za7, Nat.reduceAdd, Nat.zero_add, D.fix, Option.map_some, Option.bind_some, List.length_cons, List.length_nil]
     rfl
    ·cases ht
   ·have q1 : decide (nth nodes i < 0) = false := by simp; omega
    have q2 : decide (2 + (n.ins.length : Int) + n.gates.length ≤ nth nodes i) = true := by simp; omega
    simp -dsimp -implicitDefEqProofs (disch := first | omega | decide) only [q_r, zam, ixO, zai, ↓reduceIte, List.append_nil, List.replicate_zero, Int.toNat_natCast, Nat.reduceEqDiff, iD, Nat.reduceAdd, q1, zc3, zci, zcn, zf0, zgm]
    refine zb9 (zug n (by omega) (by omega)) rfl ?_
    simp -dsimp -implicitDefEqProofs (disch := first | omega | decide) only [q_r, ↓reduceIte, Nat.reduceEqDiff, killAll, iD, Nat.reduceAdd, q2]
    refine hK9 _ _ ?_
    refine zag rfl (fun ht => ?_) (fun ht => ?_)
    ·refine zab hp zad hc rfl fun K11 hK11 => ?_
     simp -dsimp -implicitDefEqProofs (disch := first | omega | decide) only [q_r, zb7, za6, ↓reduceIte, AV.one, D.one, Value.oneCell', Nat.reduceEqDiff, Nat.reduceAdd, zv4, zpu, zk2, zv3]
     refine hK11 _ _ ?_
     refine zao ?_
     try dsimp only [zfd, zcc]
     refine zch rfl ?_
     simp -dsimp -implicitDefEqProofs (disch := first | omega | decide) only [q_r, zam, ↓reduceIte, Nat.reduceEqDiff, Nat.reduceAdd, zk2, zv2]
     show zaj _ _ = _
     simp (disch := first | omega | decide) only [zaj, za1, zcr, za9, za7, Nat.reduceAdd, Nat.zero_add, D.fix, Option.map_some, Option.bind_some, List.length_cons, List.length_nil]
     rfl
    ·cases ht
   ·have q1 : decide (nth nodes i < 0) = false := by simp; omega
    have q2 : decide (2 + (n.ins.length : Int) + n.gates.length ≤ nth nodes i) = false := by simp; omega
    have q3 : zh7 (2 + n.ins.length + n.gates.length) (nth nodes i) = false := by unfold zh7; rw [decide_eq_false (by omega), decide_eq_false (by omega)]; rfl
    simp -dsimp -implicitDefEqProofs (disch := first | omega | decide) only [q_r, zam, ixO, zai, ↓reduceIte, List.append_nil, List.replicate_zero, Int.toNat_natCast, Nat.reduceEqDiff, iD, Nat.reduceAdd, q1, zc3, zci, zcn, zf0, zgm]
    refine zb9 (zug n (by omega) (by omega)) rfl ?_
    simp -dsimp -implicitDefEqProofs (disch := first | omega | decide) only [q_r, ↓reduceIte, Nat.reduceEqDiff, killAll, iD, Nat.reduceAdd, q2]
    refine hK9 _ _ ?_
    refine zag rfl (fun ht => ?_) (fun ht => ?_)
    ·cases ht
    ·refine zan (hK8 _ _ ?_)
     refine zbs hp zad hc rfl fun K12 hK12 => ?_
     simp -dsimp -implicitDefEqProofs (disch := first | omega | decide) only [q_r, ↓reduceIte, Nat.reduceEqDiff]
     refine hK12 _ _ ⟨_, _, _, ?_, ⟨i + 1, ⟨by omega, fun q hq => by by_cases e : q = i; rw [e]; exact q3; exact hgood q (by omega)⟩, rfl, rfl, rfl⟩, ?_⟩
     ·first | omega | (simp only [List.length_cons]; omega) | (dsimp only; omega)
     ·refine Rt.end (zaa (zaa (zaa (zaa (zaa (zae _) rfl) rfl) rfl) rfl) rfl) ?_
      rfl
  ·have hie : i = nodes.length := by simp at ht; omega
   exfalso
   obtain ⟨x, hx, hb⟩ := List.any_eq_true.1 hno
   obtain ⟨q, hq, rfl⟩ := List.getElem_of_mem hx
   have := hgood q (by omega)
   rw [zcd hq, hb] at this
   cases this
end Go.Proofs.Ytgfnpfchdlcoeaa
