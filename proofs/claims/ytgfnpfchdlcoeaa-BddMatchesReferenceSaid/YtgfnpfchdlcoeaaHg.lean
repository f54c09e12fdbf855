/- Every function of some variables has a tree; the trees of all nodes of a net. -/
import Derived.Test.YtgfnpfchdlcoeaaHe
import Derived.Test.YtgfnpfchdlcoeaaGf
import Derived.Test.YtgfnpfchdlcoeaaQr
import Derived.Test.YtgfnpfchdlcoeaaQ
set_option linter.unusedVariables false
set_option linter.unusedSimpArgs false
namespace Go.Proofs.Ytgfnpfchdlcoeaa
open Go Go.RowKit
def mkF (f : (Nat → Bool) → Bool) : Nat → Nat → (Nat → Bool) → T
 | 0, _, a => .leaf (f a)
 | m + 1, k, a => mkT k (mkF f m (k + 1) (upd a k false)) (mkF f m (k + 1) (upd a k true))
theorem jf7 (f : (Nat → Bool) → Bool) (V : Nat) : ∀ (m k : Nat) (a : Nat → Bool), k + m = V → (mkF f m k a).Ok V k
 | 0, _, a, _ => trivial
 | m + 1, k, a, h => jn3 (by omega) (jf7 f V m (k + 1) _ (by omega)) (jf7 f V m (k + 1) _ (by omega))
theorem zz2 (f : (Nat → Bool) → Bool) (b : Nat → Bool) : ∀ (m k : Nat) (a : Nat → Bool), (mkF f m k a).eval b = f fun i => if k ≤ i ∧ i < k + m then b i else a i
 | 0, k, a => by
  show f a = _
  congr 1
  funext i
  rw [if_neg (by omega)]
 | m + 1, k, a => by
  have key : ∀ c, b k = c → (mkF f m (k + 1) (upd a k c)).eval b = f fun i => if k ≤ i ∧ i < k + (m + 1) then b i else a i := fun c hc => by
   rw [zz2 f b m (k + 1)]
   congr 1
   funext i
   unfold upd
   by_cases h1 : i = k
   ·subst h1
    rw [if_neg (by omega), if_pos rfl, if_pos (by omega), hc]
   ·by_cases h2 : k + 1 ≤ i ∧ i < k + 1 + m
    ·rw [if_pos h2, if_pos (by omega)]
    ·rw [if_neg h2, if_neg h1, if_neg (by omega)]
  show (mkT _ _ _).eval b = _
  rw [zy9]
  cases hb : b k with
  | false => exact key false hb
  | true => exact key true hb
theorem jsw {V : Nat} {f : (Nat → Bool) → Bool} (h : ∀ a b : Nat → Bool, (∀ i, i < V → a i = b i) → f a = f b) : ∃ t : T, t.Ok V 0 ∧ ∀ a, t.eval a = f a :=
 ⟨mkF f V 0 fun _ => false, jf7 f V V 0 _ (by omega), fun a => by
  rw [zz2]
  exact h _ _ fun i hi => by rw [if_pos (by omega)]⟩
theorem jp9 {V : Nat} {fs : List T} (hf : ∀ t ∈ fs, t.Ok V 0) {a b : Nat → Bool} (h : ∀ i, i < V → a i = b i) (k : Nat) : (nth fs k).eval a = (nth fs k).eval b := by
 by_cases hk : k < fs.length
 ·exact (hf _ (zcf hk)).eval_eq fun i _ hi => h i hi
 ·have : nth fs k = default := by unfold nth; simp [List.getD_eq_getElem?_getD, List.getElem?_eq_none (Nat.le_of_not_lt hk)]
  rw [this]; rfl
theorem jf8 {ins : Nat} {sh : Sh} {fs : List T} {g : Gate} (hf : ∀ t ∈ fs, t.Ok (zcz ins sh) 0) {a b : Nat → Bool} (h : ∀ i, i < zcz ins sh → a i = b i) : zjs ins sh fs g a = zjs ins sh fs g b := by
 have hn := jp9 hf h
 have hlow : low fs [g.a, g.b, g.c] a 3 = low fs [g.a, g.b, g.c] b 3 := by
  have h1 := zqf (fs := fs) (a := a) (x := g.a) (y := g.b) (z := g.c)
  have h2 := zqf (fs := fs) (a := b) (x := g.a) (y := g.b) (z := g.c)
  rw [hn, hn, hn] at h1
  omega
 unfold zjs
 rw [hn, hn, hn, hlow]
 congr 6
 unfold zt5
 by_cases c1 : g.n.toNat / 8 < sh.length
 ·by_cases c2 : g.n.toNat % 8 < (nth sh (g.n.toNat / 8)).2
  ·by_cases c3 : low fs [g.a, g.b, g.c] b 3 < (nth sh (g.n.toNat / 8)).1
   ·rw [h _ (zzh c1 c3 c2)]
   ·rw [decide_eq_false c3]; simp
  ·rw [decide_eq_false c2]; simp
 ·rw [decide_eq_false c1]; simp
theorem jqa {ins : Nat} {sh : Sh} {gates : List Gate} : ∀ j, j ≤ gates.length → ∃ fs, FsP (zcz ins sh) ins sh gates j fs
 | 0, _ => ⟨_, .base (by unfold zcz zb1; exact Nat.le_add_right _ _)⟩
 | j + 1, h => by
  obtain ⟨fs, hF⟩ := jqa (ins := ins) (sh := sh) (gates := gates) j (by omega)
  obtain ⟨t, h1, h2⟩ := jsw (f := zjs ins sh fs (nth gates j)) fun a b hab => jf8 hF.ok hab
  exact ⟨_, hF.snoc h1 h2⟩
theorem jiq {V : Nat} : ∀ {t : T} {k : Nat}, t.Ok V k → k ≤ V → t.sz + 1 ≤ 2 * 2 ^ (V - k)
 | .leaf _, k, _, _ => by have := Nat.two_pow_pos (V - k); simp only [T.sz]; omega
 | .node v l h, k, hok, hk => by
  have h1 := hok.1
  have h2 := hok.2.1
  have hl := jiq hok.2.2.2.1 (by omega)
  have hh := jiq hok.2.2.2.2 (by omega)
  have e : 2 ^ (V - v) = 2 ^ (V - (v + 1)) + 2 ^ (V - (v + 1)) := zo0 h2
  have e2 : 2 ^ (V - v) ≤ 2 ^ (V - k) := Nat.pow_le_pow_right (by decide) (by omega)
  simp only [T.sz]; omega
theorem jmk {V : Nat} {fs : List T} (hf : ∀ t ∈ fs, t.Ok V 0) (hV : V ≤ 14) : (zd1 fs).length ≤ fs.length * 32767 := by
 have h1 := zuj fs []
 have h2 : (fs.map T.sz).sum ≤ (fs.map T.sz).length * 32767 := jfm fun x hx => by
  obtain ⟨t, ht, rfl⟩ := List.mem_map.1 hx
  have := jiq (hf t ht) (Nat.zero_le _)
  have h3 : 2 ^ (V - 0) ≤ 2 ^ 14 := Nat.pow_le_pow_right (by decide) (by omega)
  omega
 rw [List.length_map] at h2
 simp only [List.length_nil, Nat.zero_add] at h1
 unfold zd1
 omega
end Go.Proofs.Ytgfnpfchdlcoeaa

/- The reference's builder. -/
set_option linter.unusedVariables false
set_option linter.unusedSimpArgs false
set_option maxRecDepth 100000
set_option maxHeartbeats 4000000
namespace Go.Proofs.Ytgfnpfchdlcoeaa
open Go Go.RowKit
def jgj (fs : List T) (nodes : List Int) : List Nd := if 3000 < (zd1 fs).length then [] else zdl (zd1 (zej fs nodes))
def jj2 (fs : List T) (nodes : List Int) : List Nat := if 3000 < (zd1 fs).length then [] else (zej fs nodes).map (num (zd1 (zej fs nodes)))
def jm5 (fs : List T) : Int := if 3000 < (zd1 fs).length then 2 else 0
theorem jqb {n : Net} {sh : Sh} (hsh : ShOk sh) {fs : List T} (hF : FsP (zcz n.ins.length sh) n.ins.length sh n.gates n.gates.length fs) (hg : GatesOk (2 + n.ins.length) n.gates) (hV : zcz n.ins.length sh ≤ 20) {k : Nat} (hk : k < 2 + n.ins.length + n.gates.length) :
  nth (zoi n sh) k = tbF (zcz n.ins.length sh) 0 (nth fs k) := by
 rw [jmj hk, jp8 hsh hF hg hV hk (Nat.le_refl _)]; rfl
theorem zz3 {sh : Sh} (h : ShOk sh) : zbi Try.prog 19 [shD sh] (.d (oD true)) := by
 have hl : (shZ sh).length = sh.length := by simp [shZ]
 have h8 := h.len
 have hk := zzs (shZ sh) (by rw [hl]; unfold maxLen; omega)
 rw [← jlp, zzn h, decide_eq_false (by rw [hl]; omega)] at hk
 exact hk
theorem jf9 {gs : List T} {i : Nat} (h : i < gs.length) : (gs.take (i + 1)).map (num (zd1 (gs.take (i + 1)))) = (gs.take i).map (num (zd1 (gs.take i))) ++ [num (zd1 (gs.take (i + 1))) (nth gs i)] := by
 rw [zel h, List.map_append]
 congr 1
 refine List.map_congr_left fun t ht => ?_
 exact zd9 (zt7 _ _) (zp5 ht)
theorem jqc : (type_of% @zah) ∧ (type_of% @zby) ∧ (type_of% @zbe) ∧ (type_of% @zdt) ∧ (type_of% @zbq) ∧ (type_of% @zbc) ∧ (type_of% @zh6) ∧ (type_of% @zo1) := ⟨@zah, @zby, @zbe, @zdt, @zbq, @zbc, @zh6, @zo1⟩
theorem jga (n : Net) (sh : Sh) (nodes : List Int) (fs : List T) (hsh : ShOk sh) (hi9 : n.ins.length ≤ 9) (hg60 : n.gates.length ≤ 60) (hgo : GatesOk (2 + n.ins.length) n.gates) (hv : zcz n.ins.length sh ≤ 14) (hF : FsP (zcz n.ins.length sh) n.ins.length sh n.gates n.gates.length fs) (hnl : nodes.length ≤ 40) (hno : nodes.any (zh7 (2 + n.ins.length + n.gates.length)) = false) : zbi Try.prog 16 [zf1 n, shD sh, zay nodes] (.d (zsw (jgj fs nodes) (jj2 fs nodes) (jm5 fs))) := by
 have hnb : NetB n := ⟨hi9, by omega, hgo⟩
 have htb0 : ∀ k, k < 2 + n.ins.length + n.gates.length → nth (zoi n sh) k = tbF (zcz n.ins.length sh) 0 (nth fs k) := fun k hk => jqb hsh hF hgo (by omega) hk
 have hfo0 := hF.ok
 have hrl0 : ∀ k, (zwg n sh k (2 ^ zcz n.ins.length sh)).length = 2 ^ zcz n.ins.length sh := fun k => zzy _ _ _ _
 have hfl := hF.len
 have hok : ∀ i, i < nodes.length → 0 ≤ nth nodes i ∧ nth nodes i < 2 + n.ins.length + n.gates.length := fun i hi => by
  have := List.any_eq_false.1 hno _ (zcf hi)
  simp only [zh7, Bool.or_eq_true, decide_eq_true_eq, not_or] at this
  omega
 refine za8 (fn := Try.f16) (by kernel_rfl) Try.func16 rfl (Nat.le_of_ble_eq_true rfl) fun c hc hp => ?_
 refine zba (τ' := frL [(0, .d (zf1 n)), (1, .d (shD sh)), (2, .d (zay nodes))]) (zaa (zaa (zaa (zae _) rfl) rfl) rfl) ?_
 refine zab hp zad hc rfl fun K1 hK1 => ?_
 simp -dsimp -implicitDefEqProofs (disch := first | omega | decide) only [q_r, zau, zb0, ↓reduceIte, D.one, zay, zau, zf1, zc2, zbh, zbg, shD, jb4]
 refine hK1 _ _ ?_
 refine zaf fun K2 hK2 => ?_
 refine zab hp zad hc rfl fun K3 hK3 => ?_
 simp -dsimp -implicitDefEqProofs (disch := first | omega | decide) only [q_r, ↓reduceIte, Nat.reduceEqDiff, Nat.reduceAdd]
 refine zb9 (zz3 hsh) rfl ?_
 simp -dsimp -implicitDefEqProofs (disch := first | omega | decide) only [q_r, ↓reduceIte, oD]
 refine hK3 _ _ ?_
 refine zag rfl (fun ht => ?_) (fun ht => ?_)
 ·cases ht
 ·refine zan (hK2 _ _ ?_)
  refine zaf fun K4 hK4 => ?_
  refine zab hp zad hc rfl fun K5 hK5 => ?_
  simp -dsimp -implicitDefEqProofs (disch := first | omega | decide) only [q_r]
  refine hK5 _ _ ?_
  refine zaq ?_
  refine za4 hp (fun τ' H' mm => ∃ (i : Nat), (i ≤ nodes.length) ∧ mm = nodes.length - i ∧ H' = [.cells (avs (zc2 n)), .cells [.d (.val (.slice none 0 0)), .d (.val (.slice none 0 0)), .d (iD 0)]] ∧ τ' = frL [(1, .d (shD sh)), (2, .d (zay nodes)), (3, .op 0 0), (6, .op 1 0), (7, .d (iD i))]) (nodes.length) ?_ ⟨0, Nat.zero_le _, rfl, rfl, rfl⟩ ?_
  ·refine Rt.end (zaa (zaa (zaa (zaa (zaa (zae _) rfl) rfl) rfl) rfl) rfl) ?_
   rfl
  rintro τ' H' mm ⟨i, hi, rfl, rfl, rfl⟩
  refine zaf fun K6 hK6 => ?_
  refine zab hp zad hc rfl fun K7 hK7 => ?_
  simp -dsimp -implicitDefEqProofs (disch := first | omega | decide) only [q_r, zc1, zar, ↓reduceIte, Nat.reduceEqDiff, iD, zay, zc2, zbh, zbg, shD, zc3]
  refine hK7 _ _ ?_
  refine zag rfl (fun ht => ?_) (fun ht => ?_)
  ·have hlt : i < nodes.length := by simp at ht; omega
   obtain ⟨k0, k1⟩ := hok i hlt
   have q1 : decide (nth nodes i < 0) = false := by simp; omega
   have q2 : decide (2 + (n.ins.length : Int) + n.gates.length ≤ nth nodes i) = false := by simp; omega
   refine zan (hK6 _ _ ?_)
   refine zaf fun K8 hK8 => ?_
   refine zaq ?_
   refine zbo zad hc mixed rfl (q := 0) (by kernel_rfl) (by kernel_rfl) fun K9 hK9 => ?_
   simp -dsimp -implicitDefEqProofs (disch := first | omega | decide) only [q_r, zam, ixO, zai, ↓reduceIte, List.append_nil, List.replicate_zero, Int.toNat_natCast, Nat.reduceEqDiff, iD, Nat.reduceAdd, q1, zc3, zci, zcn, zf0, zgm]
   refine zb9 (zug n (by omega) (by omega)) rfl ?_
   simp -dsimp -implicitDefEqProofs (disch := first | omega | decide) only [q_r, ↓reduceIte, Nat.reduceEqDiff, killAll, iD, Nat.reduceAdd, q2]
   refine hK9 _ _ ?_
   refine zag rfl (fun ht => ?_) (fun ht => ?_)
   ·cases ht
   ·refine zan (hK8 _ _ ?_)
    refine zbs hp zad hc rfl fun K10 hK10 => ?_
    simp -dsimp -implicitDefEqProofs (disch := first | omega | decide) only [q_r, ↓reduceIte, Nat.reduceEqDiff]
    refine hK10 _ _ ⟨_, _, _, ?_, ⟨i + 1, by omega, rfl, rfl, rfl⟩, ?_⟩
    ·first | omega | (simp only [List.length_cons]; omega) | (dsimp only; omega)
    ·refine Rt.end (zaa (zaa (zaa (zaa (zaa (zae _) rfl) rfl) rfl) rfl) rfl) ?_
     rfl
  ·refine zbd (hK4 _ _ ?_)
   refine zab hp zad hc rfl fun K11 hK11 => ?_
   simp -dsimp -implicitDefEqProofs (disch := first | omega | decide) only [q_r, zam, ↓reduceIte, Nat.reduceEqDiff, Nat.reduceAdd, zf0, zgm]
   refine zb9 (jf6 n sh hnb hsh (by omega)) rfl ?_
   simp -dsimp -implicitDefEqProofs (disch := first | omega | decide) only [q_r, ↓reduceIte, zlt]
   refine hK11 _ _ ?_
   have htl := zo1 n sh
   obtain ⟨V, hVd⟩ : ∃ V, zcz n.ins.length sh = V := ⟨_, rfl⟩
   obtain ⟨tb, htd⟩ : ∃ tb, zoi n sh = tb := ⟨_, rfl⟩
   rw [htd] at htl htb0 ⊢
   rw [hVd] at htb0 hfo0 hv
   have hsz : ∀ t ∈ fs, t.sz ≤ 32767 := fun t ht => by
    have h1 := jiq (hfo0 t ht) (Nat.zero_le _)
    have h2 : 2 ^ (V - 0) ≤ 2 ^ 14 := Nat.pow_le_pow_right (by decide) (by omega)
    omega
   have hexl : ∀ l : List T, (∀ t ∈ l, t ∈ fs) → (zd1 l).length ≤ l.length * 32767 := fun l hl => jmk (fun t ht => hfo0 t (hl t ht)) hv
   have hexr : ∀ l : List T, (∀ t ∈ l, t ∈ fs) → RowOk V (zd1 l) := fun l hl => zuk fun t ht => hfo0 t (hl t ht)
   refine zab hp zad hc rfl fun K12 hK12 => ?_
   simp -dsimp -implicitDefEqProofs (disch := first | omega | decide) only [q_r, zau, zb7, zb0, za6, ↓reduceIte, AV.one, D.one, Value.oneCell', Nat.reduceEqDiff, Nat.reduceAdd, zau, joj, znw, jle, joi]
   refine hK12 _ _ ?_
   refine zaf fun K13 hK13 => ?_
   refine zab hp zad hc rfl fun K14 hK14 => ?_
   simp -dsimp -implicitDefEqProofs (disch := first | omega | decide) only [q_r]
   refine hK14 _ _ ?_
   refine zaq ?_
   refine za4 hp (fun τ' H' mm => ∃ (i : Nat), (i ≤ fs.length) ∧ mm = fs.length - i ∧ H' = [.cells (avs ((zdl (zd1 (fs.take i))).flatMap ndC)), .cells (avs ((zh5 V (zd1 (fs.take i))).map zas)), .free, .free, .free, .cells (avs (zc2 n)), .cells [.d (.val (.slice none 0 0)), .d (.val (.slice none 0 0)), .d (iD 0)], .cells [.os 3 0 0 (zd1 (fs.take i)).length, .os 1 1 0 (zd1 (fs.take i)).length]] ∧ τ' = frL [(1, .d (shD sh)), (2, .d (zay nodes)), (6, .op 6 0), (8, .d (zlt tb)), (9, .op 7 0), (10, .d (iD i))]) (fs.length) ?_ ⟨0, Nat.zero_le _, rfl, rfl, rfl⟩ ?_
   ·refine Rt.trans (Rt.nilc 2 0 3 rfl rfl) ?_
    refine Rt.trans (Rt.nilc 2 1 1 rfl rfl) ?_
    refine Rt.trans (Rt.free3) ?_
    refine Rt.trans (Rt.gc (keep := [3,4,5,6,7,0,1,2]) (by decide) (by decide) (by simp [])) ?_
    refine Rt.end (zaa (zaa (zaa (zaa (zaa (zaa (zae _) rfl) rfl) rfl) rfl) rfl) rfl) ?_
    simp only [zay, gcH, zbb, zc0, zcb, gcV, zcp, za2, zav, List.map_cons, List.map_nil, List.getD_cons_zero, List.getD_cons_succ, List.set_cons_zero, List.set_cons_succ, List.cons_append, List.nil_append, zc2, zbh, zbg]; rfl
   rintro τ' H' mm ⟨i, hi, rfl, rfl, rfl⟩
   refine zaf fun K15 hK15 => ?_
   refine zab hp zad hc rfl fun K16 hK16 => ?_
   simp -dsimp -implicitDefEqProofs (disch := first | omega | decide) only [q_r, zc1, zar, ↓reduceIte, Nat.reduceEqDiff, iD, zay, zc2, zbh, zbg, shD, zlt, jb6]
   refine hK16 _ _ ?_
   refine zag rfl (fun ht => ?_) (fun ht => ?_)
   ·have hlt : i < fs.length := by simp at ht; omega
    have htk : ∀ t ∈ fs.take i, t ∈ fs := fun t ht => List.mem_of_mem_take ht
    have hxl := hexl _ htk
    have hxr := hexr _ htk
    rw [List.length_take] at hxl
    have hti : nth fs i ∈ fs := zcf hlt
    have hs2 := hsz _ hti
    have htbi := htb0 i (by omega)
    refine zan (hK15 _ _ ?_)
    refine zaf fun K17 hK17 => ?_
    refine zaq ?_
    refine zl8 zad hp hc mixed rfl [(0, []), (1, []), (2, []), (3, []), (4, []), (5, []), (6, []), (7, [])] [[], [], [], [1, 2], [1, 2, 3], [0, 1, 2, 3, 4], [0, 1, 2, 3, 4, 5], [0, 1, 2, 3, 4, 5, 6]] 0 (by kernel_rfl) fun K18 hK18 => ?_
    simp -dsimp -implicitDefEqProofs (disch := first | omega | decide) only [q_r, zam, ixO, zai, ↓reduceIte, List.append_nil, List.replicate_zero, Int.toNat_natCast, Nat.reduceEqDiff, zas, Nat.reduceAdd, List.getD_cons_zero, List.getD_cons_succ, znw, zq1, jb6, zqz, zq0]
    rw [htbi]
    refine zma (S := zi7 V (zd1 (fs.take i))) (T := [.cells (avs (zc2 n)), .cells [.d (.val (.slice none 0 0)), .d (.val (.slice none 0 0)), .d (iD 0)], .cells [.os 3 0 0 (zd1 (fs.take i)).length, .os 1 1 0 (zd1 (fs.take i)).length]]) (zx3 V (by omega) _ (nth fs i) (Nat.le_refl _) 0 0 (zd1 (fs.take i)) rfl (hfo0 _ hti) (by omega) hxr (by omega)) rfl (Nat.le_of_ble_eq_true rfl) (by first | rfl | (simp [AV.allIs, AV.allI, zaz, za5, za3, okI, ltI, zak, zbj, zi7]; done) | (intro o ho; simp at ho; done)) (fun t => zbv (by first | rfl | (simp [AV.allIs, AV.allI, zaz, za5, za3, okI, ltI, zak, zbj, zi7]; done) | (intro o ho; simp at ho; done)) t) (fun t => zbv (by first | rfl | (simp [AV.allIs, AV.allI, zaz, za5, za3, okI, ltI, zak, zbj, zi7]; done) | (intro o ho; simp at ho; done)) t) (by first | rfl | (simp [AV.allIs, AV.allI, zaz, za5, za3, okI, ltI, zak, zbj, zi7]; done) | (intro o ho; simp at ho; done)) (by first | rfl | (simp [zaz, za3, zak, zi7]; done) | (intro o ho; simp at ho; done)) (by first | rfl | (simp [AV.allIs, AV.allI, zaz, okI, zak, zi7]; done) | (intro o ho; simp at ho; done)) ?_
    rintro _ _ ⟨acc', hacc, rfl, j, rfl⟩
    refine ⟨rfl, ?_⟩
    simp -dsimp -implicitDefEqProofs (disch := first | omega | decide) only [q_r, zkz, zfs, zd6, za6, ↓reduceIte, AV.one, Nat.reduceEqDiff, iD, zay, Nat.reduceAdd, zc2, zbh, zbg, znw, jlf]
    refine hK18 _ _ (hK17 _ _ ?_)
    refine zbs hp zad hc rfl fun K19 hK19 => ?_
    simp -dsimp -implicitDefEqProofs (disch := first | omega | decide) only [q_r, ↓reduceIte, Nat.reduceEqDiff]
    refine hK19 _ _ ⟨_, _, _, ?_, ⟨i + 1, by omega, rfl, rfl, rfl⟩, ?_⟩
    ·first | omega | (simp only [List.length_cons]; omega) | (dsimp only; omega)
    ·refine Rt.trans (Rt.free3) ?_
     refine Rt.trans (Rt.gc (keep := [2,3,8,9,10,5,6,7]) (by decide) (by decide) (by simp [])) ?_
     refine Rt.end (zaa (zaa (zaa (zaa (zaa (zaa (zae _) rfl) rfl) rfl) rfl) rfl) rfl) ?_
     simp only [zay, gcH, zbb, zc0, zap, zcb, gcV, Nat.reduceAdd, zcp, za2, zav, List.map_cons, List.map_nil, List.getD_cons_zero, List.getD_cons_succ, ↓reduceIte, Nat.reduceEqDiff, Option.map_some, List.cons_append, List.nil_append, zc2, zbh, zbg]; rw [zh1 hlt, ← hacc]; rfl
   ·have hie : i = fs.length := by simp at ht; omega
    rw [hie, List.take_length]
    refine zbd (hK13 _ _ ?_)
    refine zaf fun K20 hK20 => ?_
    refine zab hp zad hc rfl fun K21 hK21 => ?_
    simp -dsimp -implicitDefEqProofs (disch := first | omega | decide) only [q_r, zam, zac, zc1, zar, ↓reduceIte, Nat.reduceEqDiff, Nat.reduceAdd, zlp, zcj, zck, zcm]
    refine hK21 _ _ ?_
    refine zag rfl (fun ht => ?_) (fun ht => ?_)
    ·have hbig : 3000 < (zd1 fs).length := by simp at ht; omega
     refine zab hp zad hc rfl fun K22 hK22 => ?_
     simp -dsimp -implicitDefEqProofs (disch := first | omega | decide) only [q_r, zb7, za6, ↓reduceIte, AV.one, D.one, Value.oneCell', Nat.reduceEqDiff, Nat.reduceAdd, zv4, zpu, zk2, zv3]
     refine hK22 _ _ ?_
     refine zao ?_
     try dsimp only [zfd, zcc]
     refine zch rfl ?_
     simp -dsimp -implicitDefEqProofs (disch := first | omega | decide) only [q_r, zam, ↓reduceIte, Nat.reduceEqDiff, Nat.reduceAdd, zk2, zv2]
     show zaj _ _ = _
     simp (disch := first | omega | decide) only [zaj, za1, zcr, za9, za7, Nat.reduceAdd, Nat.zero_add, D.fix, Option.map_some, Option.bind_some, List.length_cons, List.length_nil]
     unfold jgj jj2 jm5
     rw [if_pos hbig, if_pos hbig, if_pos hbig]; rfl
    ·have hsm : ¬ 3000 < (zd1 fs).length := by simp at ht; omega
     have hrin := zzv (fs := fs) (nodes := nodes) fun k hk => by
      obtain ⟨i, hi, rfl⟩ := List.getElem_of_mem hk
      have := hok i hi
      rw [zcd hi] at this
      omega
     have hrl := zh2 fs nodes
     obtain ⟨gs, hgs⟩ : ∃ gs, gs = zej fs nodes := ⟨_, rfl⟩
     rw [← hgs] at hrin hrl
     have hgn : ∀ i, i < nodes.length → nth gs i = nth fs (nth nodes i).toNat := fun i hi => by rw [hgs]; exact zjj hi
     refine zan (hK20 _ _ ?_)
     refine zab hp zad hc rfl fun K23 hK23 => ?_
     simp -dsimp -implicitDefEqProofs (disch := first | omega | decide) only [q_r, zau, zb7, zb0, za6, ↓reduceIte, AV.one, D.one, Value.oneCell', Nat.reduceEqDiff, Nat.reduceAdd, zau, joj, znw, jle, joi]
     refine hK23 _ _ ?_
     refine zab hp zad hc rfl fun K24 hK24 => ?_
     simp -dsimp -implicitDefEqProofs (disch := first | omega | decide) only [q_r, zau, zb7, zb0, za6, ↓reduceIte, AV.one, D.one, Value.oneCell', Nat.reduceEqDiff, Nat.reduceAdd, zau, zvz, zc8, zvy, zvx]
     refine hK24 _ _ ?_
     refine zaf fun K25 hK25 => ?_
     refine zab hp zad hc rfl fun K26 hK26 => ?_
     simp -dsimp -implicitDefEqProofs (disch := first | omega | decide) only [q_r]
     refine hK26 _ _ ?_
     refine zaq ?_
     refine za4 hp (fun τ' H' mm => ∃ (i : Nat), (i ≤ nodes.length) ∧ mm = nodes.length - i ∧ H' = [.cells (avs ((zdl (zd1 (gs.take i))).flatMap ndC)), .cells (avs ((zh5 V (zd1 (gs.take i))).map zas)), .free, .free, .free, .cells [.d (.val (.slice none 0 0)), .d (.val (.slice none 0 0)), .d (iD 0)], .cells [.os 3 0 0 (zd1 (gs.take i)).length, .os 1 1 0 (zd1 (gs.take i)).length], .cells [.d (.val (.slice none 0 0)), .os 1 8 0 i], .cells (avs (((gs.take i).map (num (zd1 (gs.take i)))).map zzi))] ∧ τ' = frL [(2, .d (zay nodes)), (6, .op 5 0), (8, .d (zlt tb)), (11, .op 6 0), (12, .op 7 0), (13, .d (iD i))]) (nodes.length) ?_ ⟨0, Nat.zero_le _, rfl, rfl, rfl⟩ ?_
     ·refine Rt.trans (Rt.nilc 8 0 3 rfl rfl) ?_
      refine Rt.trans (Rt.nilc 8 1 1 rfl rfl) ?_
      refine Rt.trans (Rt.nilc 9 1 1 rfl rfl) ?_
      refine Rt.trans (Rt.gc (keep := [10,11,2,3,4,6,8,9,12]) (by decide) (by decide) (by simp [])) ?_
      refine Rt.end (zaa (zaa (zaa (zaa (zaa (zaa (zae _) rfl) rfl) rfl) rfl) rfl) rfl) ?_
      simp only [gcH, zbb, zc0, zcb, gcV, zcp, List.map_cons, List.map_nil, List.getD_cons_zero, List.getD_cons_succ, List.set_cons_zero, List.set_cons_succ, List.cons_append, List.nil_append]; rfl
     rintro τ' H' mm ⟨i, hi, rfl, rfl, rfl⟩
     refine zaf fun K27 hK27 => ?_
     refine zab hp zad hc rfl fun K28 hK28 => ?_
     simp -dsimp -implicitDefEqProofs (disch := first | omega | decide) only [q_r, zc1, zar, ↓reduceIte, Nat.reduceEqDiff, iD, zay, zlt, zc3]
     refine hK28 _ _ ?_
     refine zag rfl (fun ht => ?_) (fun ht => ?_)
     ·have hlt : i < nodes.length := by simp at ht; omega
      obtain ⟨k0, k1⟩ := hok i hlt
      have htk : ∀ t ∈ gs.take i, t ∈ fs := fun t ht => hrin t (List.mem_of_mem_take ht)
      have hxl := hexl _ htk
      have hxr := hexr _ htk
      rw [List.length_take] at hxl
      have hti : nth gs i ∈ fs := hrin _ (zcf (by omega))
      have hs2 := hsz _ hti
      have htbi := htb0 (nth nodes i).toNat (by omega)
      rw [← hgn i hlt] at htbi
      refine zan (hK27 _ _ ?_)
      refine zaf fun K29 hK29 => ?_
      refine zaq ?_
      refine ze9 zad hp hc mixed rfl [(0, []), (1, []), (2, []), (3, []), (4, []), (5, []), (6, []), (7, []), (9, []), (8, []), (10, [])] [[], [], [], [], [2, 3], [2, 3, 4], [1, 2, 3, 4, 5], [1, 2, 3, 4, 5, 6], [0, 1, 2, 3, 4, 5, 6, 7], [], [0, 1, 2, 3, 4, 5, 6, 7, 8, 9]] 1 (by kernel_rfl) fun K30 hK30 => ?_
      simp -dsimp -implicitDefEqProofs (disch := first | omega | decide) only [q_r, zam, ixO, zai, zb0, zc6, ↓reduceIte, List.replicate_zero, List.replicate_succ, Int.toNat_natCast, Nat.reduceEqDiff, shB, zqn, iD, zas, Nat.reduceAdd, zc6, zpe, List.getD_cons_zero, List.getD_cons_succ, znw, zq1, zc3, zci, zcn, jb6, zqz, zq0, jhp]
      rw [htbi]
      refine zma (S := zi7 V (zd1 (gs.take i))) (T := [.cells [.d (.val (.slice none 0 0)), .d (.val (.slice none 0 0)), .d (iD 0)], .cells [.os 3 0 0 (zd1 (gs.take i)).length, .os 1 1 0 (zd1 (gs.take i)).length], .cells [.d (.val (.slice none 0 0)), .os 1 8 0 i], .cells (avs (((gs.take i).map (num (zd1 (gs.take i)))).map zzi)), .cells [.d (.val (.slice none 0 0)), .d (.val (.slice none 0 0)), .d (iD 0)]]) (zx3 V (by omega) _ (nth gs i) (Nat.le_refl _) 0 0 (zd1 (gs.take i)) rfl (hfo0 _ hti) (by omega) hxr (by omega)) rfl (Nat.le_of_ble_eq_true rfl) (by first | rfl | (simp [AV.allIs, AV.allI, zaz, za5, za3, okI, ltI, zak, zbj, zi7]; done) | (intro o ho; simp at ho; done)) (fun t => zbv (by first | rfl | (simp [AV.allIs, AV.allI, zaz, za5, za3, okI, ltI, zak, zbj, zi7]; done) | (intro o ho; simp at ho; done)) t) (fun t => zbv (by first | rfl | (simp [AV.allIs, AV.allI, zaz, za5, za3, okI, ltI, zak, zbj, zi7]; done) | (intro o ho; simp at ho; done)) t) (by first | rfl | (simp [AV.allIs, AV.allI, zaz, za5, za3, okI, ltI, zak, zbj, zi7]; done) | (intro o ho; simp at ho; done)) (by first | rfl | (simp [zaz, za3, zak, zi7]; done) | (intro o ho; simp at ho; done)) (by first | rfl | (simp [AV.allIs, AV.allI, zaz, okI, zak, zi7]; done) | (intro o ho; simp at ho; done)) ?_
      rintro _ _ ⟨acc', hacc, rfl, j, rfl⟩
      refine ⟨rfl, ?_⟩
      simp -dsimp -implicitDefEqProofs (disch := first | omega | decide) only [q_r, za6, ↓reduceIte, AV.one, D.one, Value.oneCell', Nat.reduceEqDiff, iD, Nat.reduceAdd, zpy]
      refine hK30 _ _ ?_
      refine zab hp zad hc rfl fun K31 hK31 => ?_
      simp -dsimp -implicitDefEqProofs (disch := first | omega | decide) only [q_r, zam, zac, za6, ↓reduceIte, AV.one, Nat.reduceEqDiff, Nat.reduceAdd, zxn, znw, zq1]
      refine hK31 _ _ ?_
      refine zbs hp zad hc rfl fun K32 hK32 => ?_
      simp -dsimp -implicitDefEqProofs (disch := first | assumption | omega | (simp [maxLen, jqc] <;> omega) | decide) only [q_r, zau, zam, zac, zb0, zic, za6, ↓reduceIte, List.append_nil, List.replicate_zero, List.replicate_succ, Nat.reduceEqDiff, List.drop_zero, Nat.reduceAdd, zau, List.length_map, zes, zea, zeb, je3, zci, zcn, zgb]
      refine hK32 _ _ (hK29 _ _ ?_)
      refine zbs hp zad hc rfl fun K33 hK33 => ?_
      simp -dsimp -implicitDefEqProofs (disch := first | omega | decide) only [q_r, ↓reduceIte, Nat.reduceEqDiff]
      refine hK33 _ _ ⟨_, _, _, ?_, ⟨i + 1, by omega, rfl, rfl, rfl⟩, ?_⟩
      ·first | omega | (simp only [List.length_cons]; omega) | (dsimp only; omega)
      ·refine Rt.trans (Rt.free3) ?_
       refine Rt.trans (Rt.gc (keep := [2,3,12,13,14,5,6,7,11]) (by decide) (by decide) (by simp [])) ?_
       refine Rt.end (zaa (zaa (zaa (zaa (zaa (zaa (zae _) rfl) rfl) rfl) rfl) rfl) rfl) ?_
       simp only [gcH, zbb, zc0, zap, zcb, gcV, Nat.reduceAdd, zcp, List.map_cons, List.map_nil, List.getD_cons_zero, List.getD_cons_succ, ↓reduceIte, Nat.reduceEqDiff, Option.map_some, List.cons_append, List.nil_append]; rw [jf9 (by omega), zh1 (by omega), ← hacc]; simp [zzi, iD]
     ·have hie : i = nodes.length := by simp at ht; omega
      rw [hie, List.take_of_length_le (by omega)]
      refine zbd (hK25 _ _ ?_)
      refine zab hp zad hc rfl fun K34 hK34 => ?_
      simp -dsimp -implicitDefEqProofs (disch := first | omega | decide) only [q_r, zam, zac, za6, ↓reduceIte, Nat.reduceEqDiff, Nat.reduceAdd, zlp, zcj, zck, zbk]
      refine hK34 _ _ ?_
      refine zab hp zad hc rfl fun K35 hK35 => ?_
      simp -dsimp -implicitDefEqProofs (disch := first | omega | decide) only [q_r, zam, zb7, za6, ↓reduceIte, AV.one, D.one, Value.oneCell', Nat.reduceEqDiff, Nat.reduceAdd, zc8, zds, zv4, zpt, zk2, zv3]
      refine hK35 _ _ ?_
      refine zao ?_
      try dsimp only [zfd, zcc]
      refine zch rfl ?_
      simp -dsimp -implicitDefEqProofs (disch := first | omega | decide) only [q_r, zam, ↓reduceIte, Nat.reduceEqDiff, Nat.reduceAdd, zk2, zv2]
      show zaj _ _ = _
      simp (disch := first | assumption | omega | (simp only [maxLen, List.length_replicate, eq_self, true_and, and_true, and_self, zah, List.length_map, List.length_append, List.length_cons, List.length_nil, List.length_set, List.length_range, List.length_take, List.length_drop, zby, zbe, zdt, zbq, zbc, zh6, zo1] <;> omega) | decide | fail) only [zaj, za1, zcr, zce, za9, za7, zbt, zbl, zcg, Nat.reduceAdd, Nat.zero_add, zax, D.fix, Option.map_some, Option.bind_some, Nat.mul_one, List.getElem?_cons_zero, List.getElem?_cons_succ, List.length_cons, List.length_nil]
      unfold jgj jj2 jm5
      rw [if_neg hsm, if_neg hsm, if_neg hsm, ← hgs, zl5 (f := ndC) (fun _ => rfl), jlm]
      simp [zsw, zdp, iD, hrl, zbc]
end Go.Proofs.Ytgfnpfchdlcoeaa
