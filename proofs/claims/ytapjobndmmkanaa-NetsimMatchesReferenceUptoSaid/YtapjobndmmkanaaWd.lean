/- The reference's builder: Maj, words. -/
import Derived.Test.YtapjobndmmkanaaQr
import Derived.Test.YtapjobndmmkanaaWc
set_option linter.unusedVariables false
set_option linter.unusedSimpArgs false
set_option maxRecDepth 100000
set_option maxHeartbeats 4000000
namespace Go.Proofs.Ytapjobndmmkanaa
open Go Go.RowKit
theorem jj4 : ((((((type_of% @zem) ∧ (type_of% @zen)) ∧ ((type_of% @zq6) ∧ (type_of% @zef))) ∧ (((type_of% @zgg) ∧ (type_of% @zjp)) ∧ ((type_of% @zev) ∧ ((type_of% @zew) ∧ (type_of% @zjq))))) ∧ ((((type_of% @zey) ∧ (type_of% @zez)) ∧ ((type_of% @zmw) ∧ ((type_of% @zff) ∧ (type_of% @zfg)))) ∧ (((type_of% @zif) ∧ (type_of% @zlo)) ∧ ((type_of% @zmv) ∧ ((type_of% @zmr) ∧ (type_of% @zg2)))))) ∧ (((((type_of% @zo0) ∧ (type_of% @zjr)) ∧ ((type_of% @zzx) ∧ ((type_of% @ze0) ∧ (type_of% @zzy)))) ∧ (((type_of% @zn5) ∧ (type_of% @zn6)) ∧ ((type_of% @ze1) ∧ ((type_of% @zdc) ∧ (type_of% @zdd))))) ∧ ((((type_of% @zdh) ∧ (type_of% @zfo)) ∧ ((type_of% @zex) ∧ ((type_of% @zdz) ∧ (type_of% @zmd)))) ∧ (((type_of% @zgd) ∧ (type_of% @zge)) ∧ ((type_of% @zgf) ∧ ((type_of% @zmc) ∧ (type_of% @jmu))))))) := ⟨⟨⟨⟨⟨@zem, @zen⟩, ⟨@zq6, @zef⟩⟩, ⟨⟨@zgg, @zjp⟩, ⟨@zev, ⟨@zew, @zjq⟩⟩⟩⟩, ⟨⟨⟨@zey, @zez⟩, ⟨@zmw, ⟨@zff, @zfg⟩⟩⟩, ⟨⟨@zif, @zlo⟩, ⟨@zmv, ⟨@zmr, @zg2⟩⟩⟩⟩⟩, ⟨⟨⟨⟨@zo0, @zjr⟩, ⟨@zzx, ⟨@ze0, @zzy⟩⟩⟩, ⟨⟨@zn5, @zn6⟩, ⟨@ze1, ⟨@zdc, @zdd⟩⟩⟩⟩, ⟨⟨⟨@zdh, @zfo⟩, ⟨@zex, ⟨@zdz, @zmd⟩⟩⟩, ⟨⟨@zgd, @zge⟩, ⟨@zgf, ⟨@zmc, @jmu⟩⟩⟩⟩⟩⟩
def zcl (n : Nat) (r : Gs × List Int) : List D := [iD n, zaj r.1, intsD r.2]
def zf1 (n : Nat) (r : Gs × List Int) : D := .agg (zcl n r)
theorem jz0 {m : Nat} {gs : Gs} {x y z : Int} (hx : NdB m gs x) (hy : NdB m gs y) (hz : NdB m gs z) : NdB m gs (lo3 x y z) ∧ NdB m gs (x + y + z - lo3 x y z - hi3 x y z) ∧ NdB m gs (hi3 x y z) := by
 unfold NdB lo3 hi3 at *
 refine ⟨⟨?_, ?_⟩, ⟨?_, ?_⟩, ⟨?_, ?_⟩⟩ <;> omega
theorem zg8 {p q : Prop} (hq : q) (h : p = q := by
 conv => lhs; simp -dsimp -implicitDefEqProofs (disch := first | assumption | omega | (simp only [r_z] <;> omega) | decide) only [r_r, ↓reduceIte, Nat.reduceEqDiff, Nat.reduceAdd, D.fix, Int.reduceToNat, Nat.reduceMul, Nat.reduceBNe, Nat.reduceBEq, zcn, zaj, zc0, zc7, jj4]) : p := h.mpr hq
theorem jj5 {p q r : Prop} (e : r) (hq : q) (h : r → p = q := by
 intro hY
 conv => lhs; simp -dsimp -implicitDefEqProofs (disch := first | assumption | omega | (simp only [r_z] <;> omega) | decide) only [r_r, ↓reduceIte, Nat.reduceEqDiff, Nat.reduceAdd, D.fix, Int.reduceToNat, Nat.reduceMul, Nat.reduceBNe, Nat.reduceBEq, zcn, zaj, zc0, zc7, jj4, hY]) : p := (h e).mpr hq
theorem zva {p q : Prop} (hq : q) (h : p = q := by
 conv => lhs; simp -dsimp -implicitDefEqProofs (disch := first | assumption | omega | (simp only [r_z] <;> omega) | decide) only [r_r, ↓reduceIte, Nat.reduceEqDiff, Nat.reduceAdd, D.fix, Int.reduceToNat, Nat.reduceMul, Nat.reduceBNe, Nat.reduceBEq, zcn, zaj, zc0, zc7, zef, zoz]) : p := h.mpr hq
theorem jnp {p q : Prop} (hq : q) (h : p = q := by
 conv => lhs; simp (disch := first | assumption | omega | (simp only [r_z] <;> omega) | decide) only [r_c, Nat.reduceAdd, D.fix, ↓reduceIte, Nat.reduceEqDiff, zcn, zaj, zc0, zc7]) : p := h.mpr hq
theorem jnq (n : Nat) (gs : Gs) (x y z : Int) (hn : n ≤ 1000000) (hl : gs.length ≤ 800000) (hg0 : GI (2 + n) gs) (hx : NdB (2 + n) gs x) (hy : NdB (2 + n) gs y) (hz : NdB (2 + n) gs z) : zaz Try.prog 139 [.agg (zcn n gs), .agg [iD x, iD y, iD z]] (.d (zc0 n (jnd (2 + n) gs x y z))) := by
 have x0 := hx.1; have x1 := hx.2; have y0 := hy.1; have y1 := hy.2; have z0 := hz.1; have z1 := hz.2
 obtain ⟨ha, hb, hc'⟩ := jz0 hx hy hz
 obtain ⟨a, ea⟩ : ∃ a, a = lo3 x y z := ⟨_, rfl⟩
 obtain ⟨b, eb⟩ : ∃ b, b = x + y + z - lo3 x y z - hi3 x y z := ⟨_, rfl⟩
 obtain ⟨d, ed⟩ : ∃ d, d = hi3 x y z := ⟨_, rfl⟩
 have em : jnd (2 + n) gs x y z = jj0 (2 + n) gs a b d := by rw [ea, eb, ed]; rfl
 rw [← ea] at ha; rw [← eb] at hb; rw [← ed] at hc'
 have q1 : min (min x y) z = a := ea.symm
 have q2 : max (max x y) z = d := ed.symm
 have q3 : x + y + z - a - d = b := by rw [ea, ed, eb]
 have a0 := ha.1; have a1 := ha.2; have b0 := hb.1; have b1 := hb.2; have d0 := hc'.1; have d1 := hc'.2
 have hgt := zka n gs ⟨6, a, b, d, 0⟩ hn (by omega)
 have ho := jbx n gs b d hn (by omega) hg0 hb hc'
 have hnd := zhp n gs b d hn (by omega) hg0 hb hc'
 refine zaw (fn := Try.f139) (by kernel_rfl) Try.func139 rfl (Nat.le_of_ble_eq_true rfl) fun c hc hp => ?_
 refine za0 (τ' := frL [(0, .d (.agg (zcn n gs))), (1, .d (.agg [iD x, iD y, iD z]))]) (by repeat (first | exact zar _ | refine zam ?_ (by first | rfl | (simp [r_f]; done) | simp [r_f, *]))) ?_
 refine szq hp (fun _ hZ => zg8 hZ) ?_
 refine zas zai hc za8 rfl (q := 0) (by kernel_rfl) (by kernel_rfl) fun K2 hK2 => ?_
 refine jj5 (sza q1 q2) ?_
 refine hK2 _ _ ?_
 refine szq hp (fun _ hZ => jj5 q3 hZ) ?_
 refine zaa fun K4 hK4 => ?_
 refine szq hp (fun _ hZ => zg8 hZ) ?_
 refine zah rfl (fun ht => ?_) (fun ht => ?_)
 ·have h1 : a = 0 := by simpa using ht
  refine zag hp zai hc rfl fun K6 hK6 => ?_
  refine zg8 ?_
  refine za1 (hnd) rfl ?_
  refine zg8 ?_
  refine hK6 _ _ ?_
  refine zal ?_
  try dsimp only [zbm, zaq]
  refine zak rfl ?_
  refine zva ?_
  show closeA _ _ = _
  refine jnp ?_
  simp only [em, jj0, if_pos h1]
 ·have h1 : ¬ a = 0 := by simpa using ht
  refine zaf (hK4 _ _ ?_)
  refine zaa fun K7 hK7 => ?_
  refine szq hp (fun _ hZ => zg8 hZ) ?_
  refine zah rfl (fun ht => ?_) (fun ht => ?_)
  ·have h2 : a = 1 := by simpa using ht
   refine zag hp zai hc rfl fun K9 hK9 => ?_
   refine zg8 ?_
   refine za1 (ho) rfl ?_
   refine zg8 ?_
   refine hK9 _ _ ?_
   refine zal ?_
   try dsimp only [zbm, zaq]
   refine zak rfl ?_
   refine zva ?_
   show closeA _ _ = _
   refine jnp ?_
   simp only [em, jj0, if_neg h1, if_pos h2]
  ·have h2 : ¬ a = 1 := by simpa using ht
   refine zaf (hK7 _ _ ?_)
   refine zaa fun K10 hK10 => ?_
   refine zag hp zai hc rfl fun K11 hK11 => ?_
   by_cases hg : a = b
   ·have q : (a == b) = true := by simpa using hg
    refine jj5 q ?_
    refine hK11 _ _ ?_
    refine szt ?_
    refine szq hp (fun _ hZ => zg8 hZ) ?_
    refine zal ?_
    try dsimp only [zbm, zaq]
    refine zak rfl ?_
    refine zva ?_
    show closeA _ _ = _
    refine jnp ?_
    simp only [em, jj0, if_neg h1, if_neg h2, if_pos (Or.inl hg : a = b ∨ b = d)]
   ·have q : (a == b) = false := by simpa using hg
    refine jj5 q ?_
    refine hK11 _ _ ?_
    refine zah rfl (fun ht => ?_) (fun ht => ?_)
    ·have h3 : a = b ∨ b = d := .inr (by simpa using ht)
     refine szq hp (fun _ hZ => zg8 hZ) ?_
     refine zal ?_
     try dsimp only [zbm, zaq]
     refine zak rfl ?_
     refine zva ?_
     show closeA _ _ = _
     refine jnp ?_
     simp only [em, jj0, if_neg h1, if_neg h2, if_pos h3]
    ·have h3 : ¬ (a = b ∨ b = d) := fun e => by rcases e with e | e; exact hg e; simp [e] at ht
     refine zaf (hK10 _ _ ?_)
     refine zag hp zai hc rfl fun K14 hK14 => ?_
     refine zg8 ?_
     refine za1 (hgt) rfl ?_
     refine zg8 ?_
     refine hK14 _ _ ?_
     refine zal ?_
     try dsimp only [zbm, zaq]
     refine zak rfl ?_
     refine zva ?_
     show closeA _ _ = _
     refine jnp ?_
     simp only [em, jj0, if_neg h1, if_neg h2, if_neg h3]
theorem jgs (n : Nat) (gs : Gs) (o x y : Int) (hn : n ≤ 1000000) (hl : gs.length ≤ 800000) (hg0 : GI (2 + n) gs) (hx : NdB (2 + n) gs x) (hy : NdB (2 + n) gs y) : zaz Try.prog 113 [.agg (zcn n gs), iD o, .agg [iD x, iD y]] (.d (zc0 n (opB o (2 + n) gs x y))) := by
 have ha := zhp n gs x y hn (by omega) hg0 hx hy
 have ho := jbx n gs x y hn (by omega) hg0 hx hy
 have hx' := jal n gs x y hn (by omega) hg0 hx hy
 refine zaw (fn := Try.f113) (by kernel_rfl) Try.func113 rfl (Nat.le_of_ble_eq_true rfl) fun c hc hp => ?_
 refine za0 (τ' := frL [(0, .d (.agg (zcn n gs))), (1, .d (iD o)), (2, .d (.agg [iD x, iD y]))]) (by repeat (first | exact zar _ | refine zam ?_ (by first | rfl | (simp [r_f]; done) | simp [r_f, *]))) ?_
 refine szq hp (fun _ hZ => zg8 hZ) ?_
 refine zaa fun K2 hK2 => ?_
 refine zag hp zai hc rfl fun K3 hK3 => ?_
 simp -dsimp -implicitDefEqProofs (disch := first | assumption | omega | (simp only [r_z] <;> omega) | decide) only [r_r, ↓reduceIte, Nat.reduceEqDiff, Nat.reduceAdd, D.fix, Int.reduceToNat, Nat.reduceMul, Nat.reduceBNe, Nat.reduceBEq, zcn, zaj, zc0, zc7]
 refine hK3 _ _ ?_
 refine zac ?_
 refine szq hp (fun _ hZ => zg8 hZ) ?_
 refine zah rfl (fun ht => ?_) (fun ht => ?_)
 ·have h1 : o = 3 := by simpa using ht
  refine zag hp zai hc rfl fun K5 hK5 => ?_
  refine zg8 ?_
  refine za1 (ha) rfl ?_
  refine zg8 ?_
  refine hK5 _ _ ?_
  refine zal ?_
  try dsimp only [zbm, zaq]
  refine zak rfl ?_
  refine zva ?_
  show closeA _ _ = _
  refine jnp ?_
  simp only [opB, if_pos h1]
 ·have h1 : ¬ o = 3 := by simpa using ht
  refine szq hp (fun _ hZ => zg8 hZ) ?_
  refine zah rfl (fun ht => ?_) (fun ht => ?_)
  ·have h2 : o = 4 := by simpa using ht
   refine zag hp zai hc rfl fun K7 hK7 => ?_
   refine zg8 ?_
   refine za1 (ho) rfl ?_
   refine zg8 ?_
   refine hK7 _ _ ?_
   refine zal ?_
   try dsimp only [zbm, zaq]
   refine zak rfl ?_
   refine zva ?_
   show closeA _ _ = _
   refine jnp ?_
   simp only [opB, if_neg h1, if_pos h2]
  ·have h2 : ¬ o = 4 := by simpa using ht
   refine zaf (hK2 _ _ ?_)
   refine zag hp zai hc rfl fun K8 hK8 => ?_
   refine zg8 ?_
   refine za1 (hx') rfl ?_
   refine zg8 ?_
   refine hK8 _ _ ?_
   refine zal ?_
   try dsimp only [zbm, zaq]
   refine zak rfl ?_
   refine zva ?_
   show closeA _ _ = _
   refine jnp ?_
   simp only [opB, if_neg h1, if_neg h2]
theorem zs1 {p q : Prop} (hq : q) (h : p = q := by
 conv => lhs; simp -dsimp -implicitDefEqProofs (disch := first | assumption | omega | (simp only [r_z] <;> omega) | decide) only [r_r, ↓reduceIte, Nat.reduceEqDiff, Nat.reduceAdd, D.fix, Int.reduceToNat, Nat.reduceMul, Nat.reduceBNe, Nat.reduceBEq, zcl, zcn, zaj, zc0, zc7, jj4]) : p := h.mpr hq
theorem jz1 {m : List Nat} {τ τ' : Fr} {H H' : zad} (h2 : H = H') (h : zgu τ τ' := by
 repeat (first | exact zar _ | refine zam ?_ (by first | rfl | (simp [r_f]; done) | simp [r_f, *]))) : Rt m τ H τ' H' := Rt.end h h2
theorem jwe (k : List Nat) {m : List Nat} {τ τ1 : Fr} {H H1 : zad} (h : Rt m (fun t => gcV k (τ t)) (gcH k H) τ1 H1) (a : ∀ i ∈ m, k[i]? = some i := by decide) (b : k.Nodup := by decide) (c : ∀ i ∈ k, i < H.length := by
 simp [fzH, gcH]) : Rt m τ H τ1 H1 := Rt.trans (Rt.gc a b c) h
theorem jgt (n : Nat) (gs : Gs) (l : List Int) (hn : n ≤ 1000000) (hl : gs.length ≤ 700000) (hll : l.length ≤ 100) (hg0 : GI (2 + n) gs) (hx : ∀ i, i < l.length → NdB (2 + n) gs (nth l i)) : zaz Try.prog 112 [.agg (zcl n (gs, l))] (.d (zf1 n (zbh (fun gs i => zj7 (2 + n) gs (nth l i)) gs l.length))) := by
 obtain ⟨st, hst⟩ : ∃ st : Gs → Nat → Re, st = fun gs i => zj7 (2 + n) gs (nth l i) := ⟨_, rfl⟩
 rw [← hst]
 have hbs : ∀ k, k ≤ l.length → Bs (2 + n) (1 * k) k gs (zbh st gs k) := fun k hk => zda hg0 fun i hi gs' hp hg' => by rw [hst]; exact zfz (by omega) hg' ((hx i (by omega)).pre hp)
 refine zaw (fn := Try.f112) (by kernel_rfl) Try.func112 rfl (Nat.le_of_ble_eq_true rfl) fun c hc hp => ?_
 refine za0 (τ' := frL [(0, .d (.agg (zcl n (gs, l))))]) (by repeat (first | exact zar _ | refine zam ?_ (by first | rfl | (simp [r_f]; done) | simp [r_f, *]))) ?_
 refine szq hp (fun _ hZ => zs1 hZ) ?_
 refine szq hp (fun _ hZ => zs1 hZ) ?_
 refine zaa fun K3 hK3 => ?_
 refine zag hp zai hc rfl fun K4 hK4 => ?_
 simp -dsimp -implicitDefEqProofs (disch := first | assumption | omega | (simp only [r_z] <;> omega) | decide) only [r_r, ↓reduceIte, Nat.reduceEqDiff, Nat.reduceAdd, D.fix, Int.reduceToNat, Nat.reduceMul, Nat.reduceBNe, Nat.reduceBEq, zcl, zcn, zaj, zc0, zc7]
 refine hK4 _ _ ?_
 refine zac ?_
 refine zan hp (fun τ' H' mm => ∃ (k : Nat), (k ≤ l.length) ∧ mm = l.length - k ∧ H' = [.cells (avs (zcl n (gs, l))), .cells [.d (iD 0), .d (.val (.slice none 0 0)), .d (.val (.slice none 0 0))], .cells [.d (iD n), .d (zaj (zbh st gs k).1), .os 1 3 0 k], .cells (avs ((zbh st gs k).2.map iD))] ∧ τ' = frL [(1, .op 0 0), (2, .op 1 0), (3, .op 2 0), (4, .d (iD k))]) (l.length) ?_ ⟨0, Nat.zero_le _, rfl, rfl, rfl⟩ ?_
 ·refine Rt.trans (Rt.nilc 2 2 1 rfl rfl) ?_
  refine jz1 ?_
  first | rfl | (simp only [r_g, Nat.reduceAdd, ↓reduceIte, Nat.reduceEqDiff, zcl, zcn, zaj, zc0, zc7]; first | done | rfl)
 rintro τ' H' mm ⟨k, hk, rfl, rfl, rfl⟩
 refine zaa fun K5 hK5 => ?_
 refine szq hp (fun _ hZ => zs1 hZ) ?_
 refine zah rfl (fun ht => ?_) (fun ht => ?_)
 ·have hlt : k < l.length := by simp at ht; omega
  have hb := hbs k hk
  have hlen := hb.len
  have hwid := hb.wid
  have hcall := zmh n (zbh st gs k).1 (nth l k) hn (by omega) ((hx k hlt).pre hb.pre)
  rw [show zj7 (2 + n) (zbh st gs k).1 (nth l k) = st (zbh st gs k).1 k by rw [hst]] at hcall
  refine zaf (hK5 _ _ ?_)
  refine zaa fun K7 hK7 => ?_
  refine zac ?_
  refine zas zai hc za8 rfl (q := 1) (by kernel_rfl) (by kernel_rfl) fun K8 hK8 => ?_
  refine zs1 ?_
  refine za1 (hcall) rfl ?_
  refine zs1 ?_
  refine hK8 _ _ ?_
  refine szq hp (fun _ hZ => zs1 hZ) ?_
  refine szs hp (fun _ hZ => zs1 hZ) (hK7 _ _ ?_)
  refine za5 hp zai hc rfl fun K11 hK11 => ?_
  refine zs1 ?_
  refine hK11 _ _ ⟨_, _, _, ?_, ⟨k + 1, by omega, rfl, rfl, rfl⟩, ?_⟩
  ·first | omega | (simp only [List.length_cons]; omega) | (dsimp only; omega)
  ·refine jwe [0,1,2,6] ?_
   refine jz1 ?_
   simp only [r_g, Nat.reduceAdd, ↓reduceIte, Nat.reduceEqDiff, zcl, zcn, zaj, zc0, zc7]; simp [zbh, iD]
 ·have hkk : k = l.length := by simp at ht; omega
  subst hkk
  have hwid := (hbs _ (Nat.le_refl _)).wid
  refine zau (hK3 _ _ ?_)
  refine zbg hp (τ' := frL [(2, .op 1 0), (3, .op 2 0)]) (H' := [.cells (avs (zcl n (gs, l))), .cells [.d (iD 0), .d (.val (.slice none 0 0)), .d (.val (.slice none 0 0))], .cells (avs (zcl n (zbh st gs l.length))), .dead]) ?_ ?_
  ·refine Rt.trans (Rt.fz (id := 3) (l := ((zbh st gs l.length).2.map iD)) rfl) ?_
   refine jz1 ?_
   simp only [r_g, Nat.reduceAdd, ↓reduceIte, Nat.reduceEqDiff, zcl, zcn, zaj, zc0, zc7]; simp [za2, hwid, zcl, intsD, avs, iD]
  refine szq hp (fun _ hZ => zs1 hZ) ?_
  refine zal ?_
  try dsimp only [zbm, zaq]
  refine zak rfl ?_
  simp -dsimp -implicitDefEqProofs (disch := first | assumption | omega | (simp only [r_z] <;> omega) | decide) only [r_r, ↓reduceIte, Nat.reduceEqDiff, Nat.reduceAdd, D.fix, Int.reduceToNat, Nat.reduceMul, Nat.reduceBNe, Nat.reduceBEq, zcl, zcn, zaj, zc0, zc7, zg2, zo0]
  show closeA _ _ = _
  simp (disch := first | assumption | omega | (simp only [r_z] <;> omega) | decide) only [r_c, Nat.reduceAdd, D.fix, ↓reduceIte, Nat.reduceEqDiff, zcl, zcn, zaj, zc0, zc7]
  rfl
theorem zcy {p q : Prop} (hq : q) (h : p = q := by
 conv => lhs; simp -dsimp -implicitDefEqProofs (disch := first | assumption | omega | (simp only [r_z] <;> omega) | decide) only [r_r, ↓reduceIte, Nat.reduceEqDiff, Nat.reduceAdd, D.fix, Int.reduceToNat, Nat.reduceMul, Nat.reduceBNe, Nat.reduceBEq, zcl, zcn, zaj, zc0, zc7, intsD, jj4]) : p := h.mpr hq
theorem jpx {p q : Prop} (hq : q) (h : p = q := by
 conv => lhs; simp -dsimp -implicitDefEqProofs (disch := first | assumption | omega | (simp only [r_z] <;> omega) | decide) only [r_r, ↓reduceIte, Nat.reduceEqDiff, Nat.reduceAdd, D.fix, Int.reduceToNat, Nat.reduceMul, Nat.reduceBNe, Nat.reduceBEq, zcl, zcn, zaj, zc0, zc7, intsD]) : p := h.mpr hq
theorem jnr {m : List Nat} {τ τ' : Fr} {H H' : zad} (h2 : H = H') (h : zgu τ τ' := by
 repeat (first | exact zar _ | refine zam ?_ (by first | rfl | (simp [r_f, zm1, ztc, ltB]; done) | simp [r_f, zm1, ztc, ltB, *]))) : Rt m τ H τ' H' := Rt.end h h2
theorem jpy {p q : Prop} (hq : q) (h : p = q := by
 conv => lhs; simp -dsimp -implicitDefEqProofs (disch := first | assumption | omega | (simp only [r_z] <;> omega) | decide) only [r_r, ↓reduceIte, Nat.reduceEqDiff, Nat.reduceAdd, D.fix, Int.reduceToNat, Nat.reduceMul, Nat.reduceBNe, Nat.reduceBEq, zcl, zcn, zaj, zc0, zc7, intsD, zg2, zo0]) : p := h.mpr hq
theorem jrd {p q : Prop} (hq : q) (h : p = q := by
 conv => lhs; simp only [r_g, Nat.reduceAdd, ↓reduceIte, Nat.reduceEqDiff, zcl, zcn, zaj, zc0, zc7, intsD]) : p := h.mpr hq
theorem jz2 {p q : Prop} (hq : q) (h : p = q := by
 conv => lhs; simp (disch := first | assumption | omega | (simp only [r_z] <;> omega) | decide) only [r_c, Nat.reduceAdd, D.fix, ↓reduceIte, Nat.reduceEqDiff, zcl, zcn, zaj, zc0, zc7, intsD]) : p := h.mpr hq
theorem jns (n : Nat) (gs : Gs) (l y : List Int) (c0 : Int) (hn : n ≤ 1000000) (hl : gs.length ≤ 700000) (hll : l.length ≤ 100) (hly : y.length = l.length) (hg0 : GI (2 + n) gs) (hx : ∀ i, i < l.length → NdB (2 + n) gs (nth l i)) (hy : ∀ i, i < l.length → NdB (2 + n) gs (nth y i)) (hc0 : NdB (2 + n) gs c0) : zaz Try.prog 114 [.agg (zcl n (gs, l)), intsD y, iD c0] (.d (zf1 n ((zm1 (2 + n) gs l y c0 l.length).gs, (zm1 (2 + n) gs l y c0 l.length).l))) := by
 obtain ⟨S, hS⟩ : ∃ S : Nat → Sm, S = zm1 (2 + n) gs l y c0 := ⟨_, rfl⟩
 rw [← hS]
 have hS0 : (S 0).c = c0 := by rw [hS]; rfl
 have hbs : ∀ k, k ≤ l.length → Ss (2 + n) (3 * k) k gs (S k) := fun k hk => by rw [hS]; exact jag (by omega) hg0 hx hy hc0 k hk
 refine zaw (fn := Try.f114) (by kernel_rfl) Try.func114 rfl (Nat.le_of_ble_eq_true rfl) fun c hc hp => ?_
 refine za0 (τ' := frL [(0, .d (.agg (zcl n (gs, l)))), (1, .d (intsD y)), (2, .d (iD c0))]) (by repeat (first | exact zar _ | refine zam ?_ (by first | rfl | (simp [r_f, zm1, ztc, ltB]; done) | simp [r_f, zm1, ztc, ltB, *]))) ?_
 refine szq hp (fun _ hZ => zcy hZ) ?_
 refine szq hp (fun _ hZ => zcy hZ) ?_
 refine zaa fun K3 hK3 => ?_
 refine szq hp (fun _ hZ => jpx hZ) ?_
 refine zac ?_
 refine zan hp (fun τ' H' mm => ∃ (k : Nat), (k ≤ l.length) ∧ mm = l.length - k ∧ H' = [.cells (avs (zcl n (gs, l))), .cells [.d (iD 0), .d (.val (.slice none 0 0)), .d (.val (.slice none 0 0))], .cells [.d (iD n), .d (zaj (S k).gs), .os 1 3 0 k], .cells (avs ((S k).l.map iD))] ∧ τ' = frL [(1, .d (intsD y)), (2, .d (iD (S k).c)), (3, .op 0 0), (6, .op 1 0), (7, .op 2 0), (8, .d (iD k))]) (l.length) ?_ ⟨0, Nat.zero_le _, rfl, rfl, rfl⟩ ?_
 ·refine Rt.trans (Rt.nilc 2 2 1 rfl rfl) ?_
  refine jnr ?_
  refine jrd ?_; simp [hS, zm1, avs, zcl, zaj, intsD, iD]
 rintro τ' H' mm ⟨k, hk, rfl, rfl, rfl⟩
 refine zaa fun K5 hK5 => ?_
 refine szq hp (fun _ hZ => zcy hZ) ?_
 refine zah rfl (fun ht => ?_) (fun ht => ?_)
 ·have hlt : k < l.length := by simp at ht; omega
  have hb := (hbs k hk).bs; have hcc := (hbs k hk).c
  have hlen := hb.len
  have hwid : (S k).l.length = k := hb.wid
  simp only at hlen
  obtain ⟨A, hA⟩ : ∃ A, A = zm0 (2 + n) (S k).gs (nth l k) (nth y k) := ⟨_, rfl⟩
  have ra := zo7 (m := 2 + n) (by omega) hb.gi ((hx k hlt).pre hb.pre) ((hy k hlt).pre hb.pre)
  have c1 := jal n (S k).gs (nth l k) (nth y k) hn (by omega) hb.gi ((hx k hlt).pre hb.pre) ((hy k hlt).pre hb.pre)
  simp only at ra
  rw [← hA] at ra c1
  have la := ra.len
  obtain ⟨B, hB⟩ : ∃ B, B = zm0 (2 + n) A.1 A.2 (S k).c := ⟨_, rfl⟩
  have rb := zo7 (m := 2 + n) (by omega) ra.gi ra.nd (hcc.pre ra.pre)
  have c2 := jal n A.1 A.2 (S k).c hn (by omega) ra.gi ra.nd (hcc.pre ra.pre)
  rw [← hB] at rb c2
  have lb := rb.len
  have hpp : gs <+: B.1 := hb.pre.trans (ra.pre.trans rb.pre)
  obtain ⟨M, hM⟩ : ∃ M, M = jnd (2 + n) B.1 (nth l k) (nth y k) (S k).c := ⟨_, rfl⟩
  have c3 := jnq n B.1 (nth l k) (nth y k) (S k).c hn (by omega) rb.gi ((hx k hlt).pre hpp) ((hy k hlt).pre hpp) (hcc.pre (ra.pre.trans rb.pre))
  rw [← hM] at c3
  have eS : k + 1 < l.length → S (k + 1) = ⟨M.1, M.2, (S k).l ++ [B.2]⟩ := fun h => by rw [hM, hB, hA, hS, zm1]; simp only [if_pos h]
  have eS' : ¬ k + 1 < l.length → S (k + 1) = ⟨B.1, (S k).c, (S k).l ++ [B.2]⟩ := fun h => by rw [hB, hA, hS, zm1]; simp only [if_neg h]
  clear hS hM hB hA
  refine zaf (hK5 _ _ ?_)
  refine zaa fun K7 hK7 => ?_
  refine zac ?_
  refine zas zai hc za8 rfl (q := 1) (by kernel_rfl) (by kernel_rfl) fun K8 hK8 => ?_
  refine zcy ?_
  refine za1 (c1) rfl ?_
  refine zcy ?_
  refine hK8 _ _ ?_
  refine zag hp zai hc rfl fun K9 hK9 => ?_
  refine zcy ?_
  refine za1 (c2) rfl ?_
  refine zcy ?_
  refine hK9 _ _ ?_
  refine szq hp (fun _ hZ => zcy hZ) ?_
  refine szq hp (fun _ hZ => zcy hZ) ?_
  refine szq hp (fun _ hZ => zcy hZ) ?_
  refine zah rfl (fun ht => ?_) (fun ht => ?_)
  ·have e := eS (by simp at ht; omega)
   refine zas zai hc za8 rfl (q := 1) (by kernel_rfl) (by kernel_rfl) fun K13 hK13 => ?_
   refine zcy ?_
   refine za1 (c3) rfl ?_
   refine zcy ?_
   refine hK13 _ _ ?_
   refine szq hp (fun _ hZ => zcy hZ) ?_
   refine szs hp (fun _ hZ => zcy hZ) (hK7 _ _ ?_)
   refine za5 hp zai hc rfl fun K16 hK16 => ?_
   refine zcy ?_
   refine hK16 _ _ ⟨_, _, _, ?_, ⟨k + 1, by omega, rfl, rfl, rfl⟩, ?_⟩
   ·first | omega | (simp only [List.length_cons]; omega) | (dsimp only; omega)
   ·refine jwe [0,1,2,7] ?_
    refine jnr ?_
    refine jrd ?_; simp [e, iD]
  ·have e := eS' (by simp at ht; omega)
   refine zaf (hK7 _ _ ?_)
   refine za5 hp zai hc rfl fun K17 hK17 => ?_
   refine zcy ?_
   refine hK17 _ _ ⟨_, _, _, ?_, ⟨k + 1, by omega, rfl, rfl, rfl⟩, ?_⟩
   ·first | omega | (simp only [List.length_cons]; omega) | (dsimp only; omega)
   ·refine jwe [0,1,2,7] ?_
    refine jnr ?_
    refine jrd ?_; simp [e, iD]
 ·have hkk : k = l.length := by simp at ht; omega
  subst hkk
  have hwid : (S l.length).l.length = l.length := (hbs _ (Nat.le_refl _)).bs.wid
  refine zau (hK3 _ _ ?_)
  refine zbg hp (τ' := frL [(6, .op 1 0), (7, .op 2 0)]) (H' := [.cells (avs (zcl n (gs, l))), .cells [.d (iD 0), .d (.val (.slice none 0 0)), .d (.val (.slice none 0 0))], .cells (avs (zcl n ((S l.length).gs, (S l.length).l))), .dead]) ?_ ?_
  ·refine Rt.trans (Rt.fz (id := 3) (l := ((S l.length).l.map iD)) rfl) ?_
   refine jnr ?_
   refine jrd ?_; simp [za2, hwid, zcl, intsD, avs, iD]
  refine szq hp (fun _ hZ => zcy hZ) ?_
  refine zal ?_
  try dsimp only [zbm, zaq]
  refine zak rfl ?_
  refine jpy ?_
  show closeA _ _ = _
  refine jz2 ?_
  rfl
theorem ybl {p : Prop} (h : p := by
 first | rfl | (simp only [r_g, Nat.reduceAdd, ↓reduceIte, Nat.reduceEqDiff, zcl, zcn, zaj, zc0, zc7, intsD]; first | done | rfl)) : p := h
theorem jwf (n : Nat) (gs : Gs) (l y : List Int) (hn : n ≤ 1000000) (hl : gs.length ≤ 700000) (hll : l.length ≤ 100) (hly : y.length = l.length) (hg0 : GI (2 + n) gs) (hx : ∀ i, i < l.length → NdB (2 + n) gs (nth l i)) (hy : ∀ i, i < l.length → NdB (2 + n) gs (nth y i)) : zaz Try.prog 115 [.agg (zcl n (gs, l)), intsD y] (.d (zf1 n ((ztc (2 + n) gs l y l.length).1, [(ztc (2 + n) gs l y l.length).2]))) := by
 obtain ⟨S, hS⟩ : ∃ S : Nat → Re, S = ztc (2 + n) gs l y := ⟨_, rfl⟩
 rw [← hS]
 have hS0 : (S 0).2 = 1 := by rw [hS]; rfl
 have hbs : ∀ k, k ≤ l.length → Rs (2 + n) (3 * k) gs (S k) := fun k hk => by rw [hS]; exact jpr (by omega) hg0 hx hy k hk
 refine zaw (fn := Try.f115) (by kernel_rfl) Try.func115 rfl (Nat.le_of_ble_eq_true rfl) fun c hc hp => ?_
 refine za0 (τ' := frL [(0, .d (.agg (zcl n (gs, l)))), (1, .d (intsD y))]) (by repeat (first | exact zar _ | refine zam ?_ (by first | rfl | (simp [r_f, zm1, ztc, ltB]; done) | simp [r_f, zm1, ztc, ltB, *]))) ?_
 refine szq hp (fun _ hZ => zcy hZ) ?_
 refine szq hp (fun _ hZ => zcy hZ) ?_
 refine zaa fun K3 hK3 => ?_
 refine szq hp (fun _ hZ => jpx hZ) ?_
 refine zac ?_
 refine zan hp (fun τ' H' mm => ∃ (k : Nat), (k ≤ l.length) ∧ mm = l.length - k ∧ H' = [.cells (avs (zcl n (gs, l))), .cells [.d (iD 0), .d (.val (.slice none 0 0)), .d (.val (.slice none 0 0))], .cells [.d (iD n), .d (zaj (S k).1)]] ∧ τ' = frL [(1, .d (intsD y)), (2, .op 0 0), (4, .op 1 0), (5, .op 2 0), (6, .d (iD (S k).2)), (7, .d (iD k))]) (l.length) ?_ ⟨0, Nat.zero_le _, rfl, rfl, rfl⟩ ?_
 ·refine jnr ?_
  refine jrd ?_; simp [hS, ztc, avs, zcl, zaj, intsD, iD]
 rintro τ' H' mm ⟨k, hk, rfl, rfl, rfl⟩
 refine zaa fun K5 hK5 => ?_
 refine szq hp (fun _ hZ => zcy hZ) ?_
 refine zah rfl (fun ht => ?_) (fun ht => ?_)
 ·have hlt : k < l.length := by simp at ht; omega
  have hb := hbs k hk
  have hlen := hb.len
  obtain ⟨A, hA⟩ : ∃ A, A = zm0 (2 + n) (S k).1 (nth l k) (nth y k) := ⟨_, rfl⟩
  have ra := zo7 (m := 2 + n) (by omega) hb.gi ((hx k hlt).pre hb.pre) ((hy k hlt).pre hb.pre)
  have c1 := jal n (S k).1 (nth l k) (nth y k) hn (by omega) hb.gi ((hx k hlt).pre hb.pre) ((hy k hlt).pre hb.pre)
  rw [← hA] at ra c1
  have la := ra.len
  obtain ⟨B, hB⟩ : ∃ B, B = zj7 (2 + n) A.1 A.2 := ⟨_, rfl⟩
  have rb := zfz (m := 2 + n) (by omega) ra.gi ra.nd
  have c2 := zmh n A.1 A.2 hn (by omega) ra.nd
  rw [← hB] at rb c2
  have lb := rb.len
  have c3 := zhp n B.1 (S k).2 B.2 hn (by omega) rb.gi (hb.nd.pre (ra.pre.trans rb.pre)) rb.nd
  have e : S (k + 1) = zg4 (2 + n) B.1 (S k).2 B.2 := by rw [hB, hA, hS, ztc]
  rw [← e] at c3
  clear hS hB hA
  refine zaf (hK5 _ _ ?_)
  refine zaa fun K7 hK7 => ?_
  refine zac ?_
  refine zas zai hc za8 rfl (q := 1) (by kernel_rfl) (by kernel_rfl) fun K8 hK8 => ?_
  refine zcy ?_
  refine za1 (c1) rfl ?_
  refine zcy ?_
  refine hK8 _ _ ?_
  refine zag hp zai hc rfl fun K9 hK9 => ?_
  refine zcy ?_
  refine za1 (c2) rfl ?_
  refine zcy ?_
  refine hK9 _ _ ?_
  refine zag hp zai hc rfl fun K10 hK10 => ?_
  refine zcy ?_
  refine za1 (c3) rfl ?_
  refine zcy ?_
  refine hK10 _ _ ?_
  refine szq hp (fun _ hZ => zcy hZ) ?_
  refine szs hp (fun _ hZ => zcy hZ) (hK7 _ _ ?_)
  refine za5 hp zai hc rfl fun K13 hK13 => ?_
  refine zcy ?_
  refine hK13 _ _ ⟨_, _, _, ?_, ⟨k + 1, by omega, rfl, rfl, rfl⟩, ?_⟩
  ·first | omega | (simp only [List.length_cons]; omega) | (dsimp only; omega)
  ·refine jwe [0,1,2] ?_
   refine jnr ?_
   exact ybl
 ·have hkk : k = l.length := by simp at ht; omega
  subst hkk
  refine zau (hK3 _ _ ?_)
  refine szq hp (fun _ hZ => zcy hZ) ?_
  refine zal ?_
  try dsimp only [zbm, zaq]
  refine zak rfl ?_
  refine jpy ?_
  show closeA _ _ = _
  refine jz2 ?_
  rfl
theorem jz3 (n : Nat) (gs : Gs) (l y : List Int) (hn : n ≤ 1000000) (hl : gs.length ≤ 700000) (hll : l.length ≤ 100) (hly : y.length = l.length) (hg0 : GI (2 + n) gs) (hx : ∀ i, i < l.length → NdB (2 + n) gs (nth l i)) (hy : ∀ i, i < l.length → NdB (2 + n) gs (nth y i)) : zaz Try.prog 116 [.agg (zcl n (gs, l)), intsD y] (.d (zf1 n ((zj7 (2 + n) (ltB (2 + n) gs l y l.length).1 (ltB (2 + n) gs l y l.length).2).1, [(zj7 (2 + n) (ltB (2 + n) gs l y l.length).1 (ltB (2 + n) gs l y l.length).2).2]))) := by
 obtain ⟨S, hS⟩ : ∃ S : Nat → Re, S = ltB (2 + n) gs l y := ⟨_, rfl⟩
 rw [← hS]
 have hS0 : (S 0).2 = 1 := by rw [hS]; rfl
 have hbs : ∀ k, k ≤ l.length → Rs (2 + n) (2 * k) gs (S k) := fun k hk => by rw [hS]; exact jps (by omega) hg0 hx hy k hk
 refine zaw (fn := Try.f116) (by kernel_rfl) Try.func116 rfl (Nat.le_of_ble_eq_true rfl) fun c hc hp => ?_
 refine za0 (τ' := frL [(0, .d (.agg (zcl n (gs, l)))), (1, .d (intsD y))]) (by repeat (first | exact zar _ | refine zam ?_ (by first | rfl | (simp [r_f, zm1, ztc, ltB]; done) | simp [r_f, zm1, ztc, ltB, *]))) ?_
 refine szq hp (fun _ hZ => zcy hZ) ?_
 refine szq hp (fun _ hZ => zcy hZ) ?_
 refine zaa fun K3 hK3 => ?_
 refine szq hp (fun _ hZ => jpx hZ) ?_
 refine zac ?_
 refine zan hp (fun τ' H' mm => ∃ (k : Nat), (k ≤ l.length) ∧ mm = l.length - k ∧ H' = [.cells (avs (zcl n (gs, l))), .cells [.d (iD 0), .d (.val (.slice none 0 0)), .d (.val (.slice none 0 0))], .cells [.d (iD n), .d (zaj (S k).1)]] ∧ τ' = frL [(1, .d (intsD y)), (2, .op 0 0), (4, .op 1 0), (5, .op 2 0), (6, .d (iD (S k).2)), (7, .d (iD k))]) (l.length) ?_ ⟨0, Nat.zero_le _, rfl, rfl, rfl⟩ ?_
 ·refine jnr ?_
  refine jrd ?_; simp [hS, ltB, avs, zcl, zaj, intsD, iD]
 rintro τ' H' mm ⟨k, hk, rfl, rfl, rfl⟩
 refine zaa fun K5 hK5 => ?_
 refine szq hp (fun _ hZ => zcy hZ) ?_
 refine zah rfl (fun ht => ?_) (fun ht => ?_)
 ·have hlt : k < l.length := by simp at ht; omega
  have hb := hbs k hk
  have hlen := hb.len
  obtain ⟨A, hA⟩ : ∃ A, A = zj7 (2 + n) (S k).1 (nth y k) := ⟨_, rfl⟩
  have ra := zfz (m := 2 + n) (by omega) hb.gi ((hy k hlt).pre hb.pre)
  have c1 := zmh n (S k).1 (nth y k) hn (by omega) ((hy k hlt).pre hb.pre)
  rw [← hA] at ra c1
  have la := ra.len
  have c2 := jnq n A.1 (nth l k) A.2 (S k).2 hn (by omega) ra.gi ((hx k hlt).pre (hb.pre.trans ra.pre)) ra.nd (hb.nd.pre ra.pre)
  have e : S (k + 1) = jnd (2 + n) A.1 (nth l k) A.2 (S k).2 := by rw [hA, hS, ltB]
  rw [← e] at c2
  clear hS hA
  refine zaf (hK5 _ _ ?_)
  refine zaa fun K7 hK7 => ?_
  refine zac ?_
  refine zas zai hc za8 rfl (q := 1) (by kernel_rfl) (by kernel_rfl) fun K8 hK8 => ?_
  refine zcy ?_
  refine za1 (c1) rfl ?_
  refine zcy ?_
  refine hK8 _ _ ?_
  refine zas zai hc za8 rfl (q := 1) (by kernel_rfl) (by kernel_rfl) fun K9 hK9 => ?_
  refine zcy ?_
  refine za1 (c2) rfl ?_
  refine zcy ?_
  refine hK9 _ _ ?_
  refine szq hp (fun _ hZ => zcy hZ) ?_
  refine szs hp (fun _ hZ => zcy hZ) (hK7 _ _ ?_)
  refine za5 hp zai hc rfl fun K12 hK12 => ?_
  refine zcy ?_
  refine hK12 _ _ ⟨_, _, _, ?_, ⟨k + 1, by omega, rfl, rfl, rfl⟩, ?_⟩
  ·first | omega | (simp only [List.length_cons]; omega) | (dsimp only; omega)
  ·refine jwe [0,1,2] ?_
   refine jnr ?_
   exact ybl
 ·have hkk : k = l.length := by simp at ht; omega
  subst hkk
  have hb := hbs l.length (Nat.le_refl _)
  have hlen := hb.len
  have c3 := zmh n (S l.length).1 (S l.length).2 hn (by omega) hb.nd
  refine zau (hK3 _ _ ?_)
  refine zag hp zai hc rfl fun K13 hK13 => ?_
  refine zcy ?_
  refine za1 (c3) rfl ?_
  refine zcy ?_
  refine hK13 _ _ ?_
  refine szq hp (fun _ hZ => zcy hZ) ?_
  refine zal ?_
  try dsimp only [zbm, zaq]
  refine zak rfl ?_
  refine jpy ?_
  show closeA _ _ = _
  refine jz2 ?_
  rfl
end Go.Proofs.Ytapjobndmmkanaa
