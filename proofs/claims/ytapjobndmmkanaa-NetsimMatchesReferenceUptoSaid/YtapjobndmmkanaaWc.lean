/- The reference's builder: Or, Xor, Mux, Maj. -/
import Derived.Test.YtapjobndmmkanaaQr
import Derived.Test.YtapjobndmmkanaaWb
set_option linter.unusedVariables false
set_option linter.unusedSimpArgs false
set_option maxRecDepth 100000
set_option maxHeartbeats 4000000
namespace Go.Proofs.Ytapjobndmmkanaa
open Go Go.RowKit
theorem jwb : (((((type_of% @zem) ∧ (type_of% @zen)) ∧ ((type_of% @zef) ∧ (type_of% @zgg))) ∧ (((type_of% @zjp) ∧ (type_of% @zev)) ∧ ((type_of% @zew) ∧ ((type_of% @zjq) ∧ (type_of% @zey))))) ∧ ((((type_of% @zez) ∧ (type_of% @zmw)) ∧ ((type_of% @zff) ∧ ((type_of% @zfg) ∧ (type_of% @zif)))) ∧ (((type_of% @zlo) ∧ (type_of% @zmv)) ∧ ((type_of% @zq6) ∧ ((type_of% @zex) ∧ (type_of% @zdz)))))) := ⟨⟨⟨⟨@zem, @zen⟩, ⟨@zef, @zgg⟩⟩, ⟨⟨@zjp, @zev⟩, ⟨@zew, ⟨@zjq, @zey⟩⟩⟩⟩, ⟨⟨⟨@zez, @zmw⟩, ⟨@zff, ⟨@zfg, @zif⟩⟩⟩, ⟨⟨@zlo, @zmv⟩, ⟨@zq6, ⟨@zex, @zdz⟩⟩⟩⟩⟩
theorem zch {p q : Prop} (hq : q) (h : p = q := by
 conv => lhs; simp -dsimp -implicitDefEqProofs (disch := first | assumption | omega | (simp only [r_z] <;> omega) | decide) only [r_r, ↓reduceIte, Nat.reduceEqDiff, Nat.reduceAdd, D.fix, Int.reduceToNat, Nat.reduceMul, Nat.reduceBNe, Nat.reduceBEq, zcn, zaj, zc0, zc7, jwb]) : p := h.mpr hq
theorem zu9 {p q r : Prop} (e : r) (hq : q) (h : r → p = q := by
 intro hY
 conv => lhs; simp -dsimp -implicitDefEqProofs (disch := first | assumption | omega | (simp only [r_z] <;> omega) | decide) only [r_r, ↓reduceIte, Nat.reduceEqDiff, Nat.reduceAdd, D.fix, Int.reduceToNat, Nat.reduceMul, Nat.reduceBNe, Nat.reduceBEq, zcn, zaj, zc0, zc7, jwb, hY]) : p := (h e).mpr hq
theorem zg7 {p q : Prop} (hq : q) (h : p = q := by
 conv => lhs; simp -dsimp -implicitDefEqProofs (disch := first | assumption | omega | (simp only [r_z] <;> omega) | decide) only [r_r, ↓reduceIte, Nat.reduceEqDiff, Nat.reduceAdd, D.fix, Int.reduceToNat, Nat.reduceMul, Nat.reduceBNe, Nat.reduceBEq, zcn, zaj, zc0, zc7, zef, zoz]) : p := h.mpr hq
theorem ztd {p q : Prop} (hq : q) (h : p = q := by
 conv => lhs; simp (disch := first | assumption | omega | (simp only [r_z] <;> omega) | decide) only [r_c, Nat.reduceAdd, D.fix, ↓reduceIte, Nat.reduceEqDiff, zcn, zaj, zc0, zc7]) : p := h.mpr hq
theorem jwc (n : Nat) (gs : Gs) (x y : Int) (hn : n ≤ 1000000) (hl : gs.length ≤ 900000) (hg0 : GI (2 + n) gs) (hx : NdB (2 + n) gs x) (hy : NdB (2 + n) gs y) (hxy : x ≤ y) : zaz Try.prog 108 [.agg (zcn n gs), iD x, iD y] (.d (zc0 n (orB (2 + n) gs x y))) := by
 have x0 := hx.1; have x1 := hx.2; have y0 := hy.1; have y1 := hy.2
 have hopp := jgp n gs x y hn (by omega) hx hy
 have hgt := zka n gs ⟨3, x, y, 0, 0⟩ hn (by omega)
 have mn : min x y = x := by omega
 have mx : max x y = y := by omega
 refine zaw (fn := Try.f108) (by kernel_rfl) Try.func108 rfl (Nat.le_of_ble_eq_true rfl) fun c hc hp => ?_
 refine za0 (τ' := frL [(0, .d (.agg (zcn n gs))), (1, .d (iD x)), (2, .d (iD y))]) (by repeat (first | exact zar _ | refine zam ?_ (by first | rfl | (simp [r_f]; done) | simp [r_f, *]))) ?_
 refine szq hp (fun _ hZ => zch hZ) ?_
 refine zaa fun K2 hK2 => ?_
 refine szq hp (fun _ hZ => zch hZ) ?_
 refine zah rfl (fun ht => ?_) (fun ht => ?_)
 ·exact absurd (of_decide_eq_true ht) (by omega)
 ·refine zaf (hK2 _ _ ?_)
  refine zaa fun K4 hK4 => ?_
  refine zag hp zai hc rfl fun K5 hK5 => ?_
  rcases (show x = 1 ∨ x = 0 ∨ (x ≠ 1 ∧ 0 < x) by omega) with hg | hg | ⟨hg, hg'⟩
  ·have q : (x == 1) = true := by simp [hg]
   have q' : True := trivial
   refine zu9 (sza q q') ?_
   refine hK5 _ _ ?_
   refine szt ?_
   refine szq hp (fun _ hZ => zch hZ) ?_
   refine zal ?_
   try dsimp only [zbm, zaq]
   refine zak rfl ?_
   refine zg7 ?_
   show closeA _ _ = _
   refine ztd ?_
   simp only [orB, orS, mn, mx, if_pos (Or.inl hg : x = 1 ∨ zo6 (2 + n) gs x y = true)]
  ·have q : (x == 1) = false := by simp [hg]
   have q' : decide (x > 0) = false := decide_eq_false (by omega)
   refine zu9 (sza q q') ?_
   refine hK5 _ _ ?_
   refine szf ?_
   have ho : ¬ (x = 1 ∨ zo6 (2 + n) gs x y = true) := fun e => by rcases e with e | e; omega; rw [hg, jj3 hg0 hy] at e; cases e
   have q5 : (x == 0) = true := by simp [hg]
   refine zaf (hK4 _ _ ?_)
   refine zaa fun K7 hK7 => ?_
   refine szq hp (fun _ hZ => zu9 q5 hZ) ?_
   refine szt ?_
   refine szq hp (fun _ hZ => zch hZ) ?_
   refine zal ?_
   try dsimp only [zbm, zaq]
   refine zak rfl ?_
   refine zg7 ?_
   show closeA _ _ = _
   refine ztd ?_
   simp only [orB, orS, mn, mx, if_neg ho, if_pos (Or.inl hg : x = 0 ∨ x = y)]
  ·have q : (x == 1) = false := by simp [hg]
   have q' : decide (x > 0) = true := decide_eq_true (by omega)
   refine zu9 (sza q q') ?_
   refine za1 (hopp) rfl ?_
   refine zu9 (sza q q') ?_
   refine hK5 _ _ ?_
   refine zah rfl (fun ht => ?_) (fun ht => ?_)
   ·have ho : x = 1 ∨ zo6 (2 + n) gs x y = true := .inr ht
    refine szq hp (fun _ hZ => zch hZ) ?_
    refine zal ?_
    try dsimp only [zbm, zaq]
    refine zak rfl ?_
    refine zg7 ?_
    show closeA _ _ = _
    refine ztd ?_
    simp only [orB, orS, mn, mx, if_pos ho]
   ·have ho : ¬ (x = 1 ∨ zo6 (2 + n) gs x y = true) := fun e => by rcases e with e | e; exact hg e; rw [ht] at e; cases e
    have q5 : (x == 0) = false := by simp; omega
    refine zaf (hK4 _ _ ?_)
    refine zaa fun K11 hK11 => ?_
    refine szq hp (fun _ hZ => zu9 q5 hZ) ?_
    refine zah rfl (fun ht => ?_) (fun ht => ?_)
    ·have h2 : x = 0 ∨ x = y := .inr (by simpa using ht)
     refine szq hp (fun _ hZ => zch hZ) ?_
     refine zal ?_
     try dsimp only [zbm, zaq]
     refine zak rfl ?_
     refine zg7 ?_
     show closeA _ _ = _
     refine ztd ?_
     simp only [orB, orS, mn, mx, if_neg ho, if_pos h2]
    ·have h2 : ¬ (x = 0 ∨ x = y) := fun e => by rcases e with e | e; omega; simp [e] at ht
     refine zaf (hK11 _ _ ?_)
     refine zag hp zai hc rfl fun K14 hK14 => ?_
     refine zch ?_
     refine za1 (hgt) rfl ?_
     refine zch ?_
     refine hK14 _ _ ?_
     refine zal ?_
     try dsimp only [zbm, zaq]
     refine zak rfl ?_
     refine zg7 ?_
     show closeA _ _ = _
     refine ztd ?_
     simp only [orB, orS, mn, mx, if_neg ho, if_neg h2]
theorem ybk {p : Prop} (h : p := by
 simp (disch := first | assumption | omega | (simp only [r_z] <;> omega) | decide) only [r_c, Nat.reduceAdd, D.fix, ↓reduceIte, Nat.reduceEqDiff, zcn, zaj, zc0, zc7]) : p := h
theorem jzz (n : Nat) (gs : Gs) (x y : Int) (hn : n ≤ 1000000) (hl : gs.length ≤ 900000) (hg0 : GI (2 + n) gs) (hx : NdB (2 + n) gs x) (hy : NdB (2 + n) gs y) (hxy : y < x) : zaz Try.prog 108 [.agg (zcn n gs), iD x, iD y] (.d (zc0 n (orB (2 + n) gs x y))) := by
 have hs := jwc n gs y x hn hl hg0 hy hx (by omega)
 have e : orB (2 + n) gs y x = orB (2 + n) gs x y := by unfold orB; rw [Int.min_comm, Int.max_comm]
 rw [e] at hs
 refine zaw (fn := Try.f108) (by kernel_rfl) Try.func108 rfl (Nat.le_of_ble_eq_true rfl) fun c hc hp => ?_
 refine za0 (τ' := frL [(0, .d (.agg (zcn n gs))), (1, .d (iD x)), (2, .d (iD y))]) (by repeat (first | exact zar _ | refine zam ?_ (by first | rfl | (simp [r_f]; done) | simp [r_f, *]))) ?_
 refine szq hp (fun _ hZ => zch hZ) ?_
 refine zaa fun K2 hK2 => ?_
 refine szq hp (fun _ hZ => zch hZ) ?_
 refine zah rfl (fun ht => ?_) (fun ht => ?_)
 ·refine zag hp zai hc rfl fun K4 hK4 => ?_
  refine zch ?_
  refine za1 (hs) rfl ?_
  refine zch ?_
  refine hK4 _ _ ?_
  refine zal ?_
  try dsimp only [zbm, zaq]
  refine zak rfl ?_
  refine zg7 ?_
  show closeA _ _ = _
  exact ybk
 ·exact absurd hxy (of_decide_eq_false ht)
theorem jbx (n : Nat) (gs : Gs) (x y : Int) (hn : n ≤ 1000000) (hl : gs.length ≤ 900000) (hg0 : GI (2 + n) gs) (hx : NdB (2 + n) gs x) (hy : NdB (2 + n) gs y) : zaz Try.prog 108 [.agg (zcn n gs), iD x, iD y] (.d (zc0 n (orB (2 + n) gs x y))) := by
 by_cases h : x ≤ y
 ·exact jwc n gs x y hn hl hg0 hx hy h
 ·exact jzz n gs x y hn hl hg0 hx hy (by omega)
theorem jnn (n : Nat) (gs : Gs) (x y : Int) (hn : n ≤ 1000000) (hl : gs.length ≤ 900000) (hg0 : GI (2 + n) gs) (hx : NdB (2 + n) gs x) (hy : NdB (2 + n) gs y) (hxy : x ≤ y) : zaz Try.prog 138 [.agg (zcn n gs), iD x, iD y] (.d (zc0 n (zm0 (2 + n) gs x y))) := by
 have x0 := hx.1; have x1 := hx.2; have y0 := hy.1; have y1 := hy.2
 have hopp := jgp n gs x y hn (by omega) hx hy
 have hgt := zka n gs ⟨4, x, y, 0, 0⟩ hn (by omega)
 have hnt := zmh n gs y hn hl hy
 have mn : min x y = x := by omega
 have mx : max x y = y := by omega
 refine zaw (fn := Try.f138) (by kernel_rfl) Try.func138 rfl (Nat.le_of_ble_eq_true rfl) fun c hc hp => ?_
 refine za0 (τ' := frL [(0, .d (.agg (zcn n gs))), (1, .d (iD x)), (2, .d (iD y))]) (by repeat (first | exact zar _ | refine zam ?_ (by first | rfl | (simp [r_f]; done) | simp [r_f, *]))) ?_
 refine szq hp (fun _ hZ => zch hZ) ?_
 refine zaa fun K2 hK2 => ?_
 refine szq hp (fun _ hZ => zch hZ) ?_
 refine zah rfl (fun ht => ?_) (fun ht => ?_)
 ·exact absurd (of_decide_eq_true ht) (by omega)
 ·refine zaf (hK2 _ _ ?_)
  refine zaa fun K4 hK4 => ?_
  refine szq hp (fun _ hZ => zch hZ) ?_
  refine zah rfl (fun ht => ?_) (fun ht => ?_)
  ·have h1 : x = 0 := by simpa using ht
   refine szq hp (fun _ hZ => zch hZ) ?_
   refine zal ?_
   try dsimp only [zbm, zaq]
   refine zak rfl ?_
   refine zg7 ?_
   show closeA _ _ = _
   refine ztd ?_
   simp only [zm0, jnc, mn, mx, if_pos h1]
  ·have h1 : ¬ x = 0 := by simpa using ht
   refine zaf (hK4 _ _ ?_)
   refine zaa fun K7 hK7 => ?_
   refine szq hp (fun _ hZ => zch hZ) ?_
   refine zah rfl (fun ht => ?_) (fun ht => ?_)
   ·have h2 : x = 1 := by simpa using ht
    refine zag hp zai hc rfl fun K9 hK9 => ?_
    refine zch ?_
    refine za1 (hnt) rfl ?_
    refine zch ?_
    refine hK9 _ _ ?_
    refine zal ?_
    try dsimp only [zbm, zaq]
    refine zak rfl ?_
    refine zg7 ?_
    show closeA _ _ = _
    refine ztd ?_
    simp only [zm0, jnc, mn, mx, if_neg h1, if_pos h2]
   ·have h2 : ¬ x = 1 := by simpa using ht
    refine zaf (hK7 _ _ ?_)
    refine zaa fun K10 hK10 => ?_
    refine szq hp (fun _ hZ => zch hZ) ?_
    refine zah rfl (fun ht => ?_) (fun ht => ?_)
    ·have h3 : x = y := by simpa using ht
     refine szq hp (fun _ hZ => zch hZ) ?_
     refine zal ?_
     try dsimp only [zbm, zaq]
     refine zak rfl ?_
     refine zg7 ?_
     show closeA _ _ = _
     refine ztd ?_
     simp only [zm0, jnc, mn, mx, if_neg h1, if_neg h2, if_pos h3]
    ·have h3 : ¬ x = y := by simpa using ht
     refine zaf (hK10 _ _ ?_)
     refine zaa fun K13 hK13 => ?_
     refine zag hp zai hc rfl fun K14 hK14 => ?_
     refine zch ?_
     refine za1 (hopp) rfl ?_
     refine zch ?_
     refine hK14 _ _ ?_
     refine zah rfl (fun ht => ?_) (fun ht => ?_)
     ·refine szq hp (fun _ hZ => zch hZ) ?_
      refine zal ?_
      try dsimp only [zbm, zaq]
      refine zak rfl ?_
      refine zg7 ?_
      show closeA _ _ = _
      refine ztd ?_
      simp only [zm0, jnc, mn, mx, if_neg h1, if_neg h2, if_neg h3, if_pos ht]
     ·have h4 : ¬ zo6 (2 + n) gs x y = true := by rw [ht]; simp
      refine zaf (hK13 _ _ ?_)
      refine zag hp zai hc rfl fun K16 hK16 => ?_
      refine zch ?_
      refine za1 (hgt) rfl ?_
      refine zch ?_
      refine hK16 _ _ ?_
      refine zal ?_
      try dsimp only [zbm, zaq]
      refine zak rfl ?_
      refine zg7 ?_
      show closeA _ _ = _
      refine ztd ?_
      simp only [zm0, jnc, mn, mx, if_neg h1, if_neg h2, if_neg h3, if_neg h4]
theorem jwd (n : Nat) (gs : Gs) (x y : Int) (hn : n ≤ 1000000) (hl : gs.length ≤ 900000) (hg0 : GI (2 + n) gs) (hx : NdB (2 + n) gs x) (hy : NdB (2 + n) gs y) (hxy : y < x) : zaz Try.prog 138 [.agg (zcn n gs), iD x, iD y] (.d (zc0 n (zm0 (2 + n) gs x y))) := by
 have hs := jnn n gs y x hn hl hg0 hy hx (by omega)
 have e : zm0 (2 + n) gs y x = zm0 (2 + n) gs x y := by unfold zm0; rw [Int.min_comm, Int.max_comm]
 rw [e] at hs
 refine zaw (fn := Try.f138) (by kernel_rfl) Try.func138 rfl (Nat.le_of_ble_eq_true rfl) fun c hc hp => ?_
 refine za0 (τ' := frL [(0, .d (.agg (zcn n gs))), (1, .d (iD x)), (2, .d (iD y))]) (by repeat (first | exact zar _ | refine zam ?_ (by first | rfl | (simp [r_f]; done) | simp [r_f, *]))) ?_
 refine szq hp (fun _ hZ => zch hZ) ?_
 refine zaa fun K2 hK2 => ?_
 refine szq hp (fun _ hZ => zch hZ) ?_
 refine zah rfl (fun ht => ?_) (fun ht => ?_)
 ·refine zag hp zai hc rfl fun K4 hK4 => ?_
  refine zch ?_
  refine za1 (hs) rfl ?_
  refine zch ?_
  refine hK4 _ _ ?_
  refine zal ?_
  try dsimp only [zbm, zaq]
  refine zak rfl ?_
  refine zg7 ?_
  show closeA _ _ = _
  exact ybk
 ·exact absurd hxy (of_decide_eq_false ht)
theorem jal (n : Nat) (gs : Gs) (x y : Int) (hn : n ≤ 1000000) (hl : gs.length ≤ 900000) (hg0 : GI (2 + n) gs) (hx : NdB (2 + n) gs x) (hy : NdB (2 + n) gs y) : zaz Try.prog 138 [.agg (zcn n gs), iD x, iD y] (.d (zc0 n (zm0 (2 + n) gs x y))) := by
 by_cases h : x ≤ y
 ·exact jnn n gs x y hn hl hg0 hx hy h
 ·exact jwd n gs x y hn hl hg0 hx hy (by omega)
theorem jno (n : Nat) (gs : Gs) (x y z : Int) (hn : n ≤ 1000000) (hl : gs.length ≤ 800000) (hg0 : GI (2 + n) gs) (hx : NdB (2 + n) gs x) (hy : NdB (2 + n) gs y) (hz : NdB (2 + n) gs z) : zaz Try.prog 109 [.agg (zcn n gs), .agg [iD x, iD y, iD z]] (.d (zc0 n (ztb (2 + n) gs x y z))) := by
 have x0 := hx.1; have x1 := hx.2; have y0 := hy.1; have y1 := hy.2; have z0 := hz.1; have z1 := hz.2
 have hgt := zka n gs ⟨5, x, y, z, 0⟩ hn (by omega)
 have ho := jbx n gs x z hn (by omega) hg0 hx hz
 have ha := zhp n gs x y hn (by omega) hg0 hx hy
 have hnt := zmh n gs x hn (by omega) hx
 have hr := zfz (m := 2 + n) (by omega) hg0 hx
 obtain ⟨t, ht0⟩ : ∃ t, t = zj7 (2 + n) gs x := ⟨_, rfl⟩
 rw [← ht0] at hnt hr
 have hlt := hr.len
 have ha2 := zhp n t.1 t.2 z hn (by omega) hr.gi hr.nd (hz.pre hr.pre)
 have ho2 := jbx n t.1 t.2 y hn (by omega) hr.gi hr.nd (hy.pre hr.pre)
 refine zaw (fn := Try.f109) (by kernel_rfl) Try.func109 rfl (Nat.le_of_ble_eq_true rfl) fun c hc hp => ?_
 refine za0 (τ' := frL [(0, .d (.agg (zcn n gs))), (1, .d (.agg [iD x, iD y, iD z]))]) (by repeat (first | exact zar _ | refine zam ?_ (by first | rfl | (simp [r_f]; done) | simp [r_f, *]))) ?_
 refine szq hp (fun _ hZ => zch hZ) ?_
 refine zas zai hc za8 rfl (q := 0) (by kernel_rfl) (by kernel_rfl) fun K2 hK2 => ?_
 refine zch ?_
 refine hK2 _ _ ?_
 refine zaa fun K3 hK3 => ?_
 refine szq hp (fun _ hZ => zch hZ) ?_
 refine zah rfl (fun ht => ?_) (fun ht => ?_)
 ·have h1 : x = 0 := by simpa using ht
  refine szq hp (fun _ hZ => zch hZ) ?_
  refine zal ?_
  try dsimp only [zbm, zaq]
  refine zak rfl ?_
  refine zg7 ?_
  show closeA _ _ = _
  refine ztd ?_
  simp only [ztb, if_pos h1]
 ·have h1 : ¬ x = 0 := by simpa using ht
  refine zaf (hK3 _ _ ?_)
  refine zaa fun K6 hK6 => ?_
  refine zag hp zai hc rfl fun K7 hK7 => ?_
  by_cases hg : x = 1
  ·have q : (x == 1) = true := by simp [hg]
   refine zu9 q ?_
   refine hK7 _ _ ?_
   refine szt ?_
   refine szq hp (fun _ hZ => zch hZ) ?_
   refine zal ?_
   try dsimp only [zbm, zaq]
   refine zak rfl ?_
   refine zg7 ?_
   show closeA _ _ = _
   refine ztd ?_
   simp only [ztb, if_neg h1, if_pos (Or.inl hg : x = 1 ∨ y = z)]
  ·have q : (x == 1) = false := by simp [hg]
   refine zu9 q ?_
   refine hK7 _ _ ?_
   refine zah rfl (fun ht => ?_) (fun ht => ?_)
   ·have h2 : x = 1 ∨ y = z := .inr (by simpa using ht)
    refine szq hp (fun _ hZ => zch hZ) ?_
    refine zal ?_
    try dsimp only [zbm, zaq]
    refine zak rfl ?_
    refine zg7 ?_
    show closeA _ _ = _
    refine ztd ?_
    simp only [ztb, if_neg h1, if_pos h2]
   ·have h2 : ¬ (x = 1 ∨ y = z) := fun e => by rcases e with e | e; exact hg e; simp [e] at ht
    refine zaf (hK6 _ _ ?_)
    refine zaa fun K10 hK10 => ?_
    refine szq hp (fun _ hZ => zch hZ) ?_
    refine zah rfl (fun ht => ?_) (fun ht => ?_)
    ·have h3 : y = 1 := by simpa using ht
     refine zag hp zai hc rfl fun K12 hK12 => ?_
     refine zch ?_
     refine za1 (ho) rfl ?_
     refine zch ?_
     refine hK12 _ _ ?_
     refine zal ?_
     try dsimp only [zbm, zaq]
     refine zak rfl ?_
     refine zg7 ?_
     show closeA _ _ = _
     refine ztd ?_
     simp only [ztb, if_neg h1, if_neg h2, if_pos h3]
    ·have h3 : ¬ y = 1 := by simpa using ht
     refine zaf (hK10 _ _ ?_)
     refine zaa fun K13 hK13 => ?_
     refine szq hp (fun _ hZ => zch hZ) ?_
     refine zah rfl (fun ht => ?_) (fun ht => ?_)
     ·have h4 : z = 0 := by simpa using ht
      refine zag hp zai hc rfl fun K15 hK15 => ?_
      refine zch ?_
      refine za1 (ha) rfl ?_
      refine zch ?_
      refine hK15 _ _ ?_
      refine zal ?_
      try dsimp only [zbm, zaq]
      refine zak rfl ?_
      refine zg7 ?_
      show closeA _ _ = _
      refine ztd ?_
      simp only [ztb, if_neg h1, if_neg h2, if_neg h3, if_pos h4]
     ·have h4 : ¬ z = 0 := by simpa using ht
      refine zaf (hK13 _ _ ?_)
      refine zaa fun K16 hK16 => ?_
      refine szq hp (fun _ hZ => zch hZ) ?_
      refine zah rfl (fun ht => ?_) (fun ht => ?_)
      ·have h5 : y = 0 := by simpa using ht
       refine zag hp zai hc rfl fun K18 hK18 => ?_
       refine zch ?_
       refine za1 (hnt) rfl ?_
       refine zch ?_
       refine hK18 _ _ ?_
       refine zag hp zai hc rfl fun K19 hK19 => ?_
       refine zch ?_
       refine za1 (ha2) rfl ?_
       refine zch ?_
       refine hK19 _ _ ?_
       refine zal ?_
       try dsimp only [zbm, zaq]
       refine zak rfl ?_
       refine zg7 ?_
       show closeA _ _ = _
       refine ztd ?_
       simp only [ztb, if_neg h1, if_neg h2, if_neg h3, if_neg h4, if_pos h5, ← ht0]
      ·have h5 : ¬ y = 0 := by simpa using ht
       refine zaf (hK16 _ _ ?_)
       refine zaa fun K20 hK20 => ?_
       refine szq hp (fun _ hZ => zch hZ) ?_
       refine zah rfl (fun ht => ?_) (fun ht => ?_)
       ·have h6 : z = 1 := by simpa using ht
        refine zag hp zai hc rfl fun K22 hK22 => ?_
        refine zch ?_
        refine za1 (hnt) rfl ?_
        refine zch ?_
        refine hK22 _ _ ?_
        refine zag hp zai hc rfl fun K23 hK23 => ?_
        refine zch ?_
        refine za1 (ho2) rfl ?_
        refine zch ?_
        refine hK23 _ _ ?_
        refine zal ?_
        try dsimp only [zbm, zaq]
        refine zak rfl ?_
        refine zg7 ?_
        show closeA _ _ = _
        refine ztd ?_
        simp only [ztb, if_neg h1, if_neg h2, if_neg h3, if_neg h4, if_neg h5, if_pos h6, ← ht0]
       ·have h6 : ¬ z = 1 := by simpa using ht
        refine zaf (hK20 _ _ ?_)
        refine zag hp zai hc rfl fun K24 hK24 => ?_
        refine zch ?_
        refine za1 (hgt) rfl ?_
        refine zch ?_
        refine hK24 _ _ ?_
        refine zal ?_
        try dsimp only [zbm, zaq]
        refine zak rfl ?_
        refine zg7 ?_
        show closeA _ _ = _
        refine ztd ?_
        simp only [ztb, if_neg h1, if_neg h2, if_neg h3, if_neg h4, if_neg h5, if_neg h6]
end Go.Proofs.Ytapjobndmmkanaa
