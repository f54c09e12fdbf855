/- The order of the numbers: the law's walk. -/
import Derived.Test.YtgfnpfchdlcoeaaQr
import Derived.Test.YtgfnpfchdlcoeaaQ
import Derived.Test.YtgfnpfchdlcoeaaEd
set_option linter.unusedVariables false
set_option linter.unusedSimpArgs false
set_option maxRecDepth 100000
set_option maxHeartbeats 4000000
namespace Go.Proofs.Ytgfnpfchdlcoeaa
open Go Go.RowKit
end Go.Proofs.Ytgfnpfchdlcoeaa

/- The order of the numbers. -/
set_option linter.unusedVariables false
set_option linter.unusedSimpArgs false
set_option maxRecDepth 100000
set_option maxHeartbeats 4000000
namespace Go.Proofs.Ytgfnpfchdlcoeaa
open Go Go.RowKit
theorem zzx {n : Net} (hd : DriveOk (2 + n.ins.length + n.gates.length) n.drive) : n.drive.any (zh7 (2 + n.ins.length + n.gates.length)) = false := by
 rw [List.any_eq_false]
 intro x hx
 obtain ⟨k, hk, rfl⟩ := List.getElem_of_mem hx
 obtain ⟨d0, d1⟩ := hd k hk
 rw [zcd hk] at d0 d1
 simp [zh7]; omega
theorem jl9 {V ins : Nat} {sh : Sh} {g1 g2 : List Gate} {f1 f2 : List T} (h1 : FsP V ins sh g1 g1.length f1) (h2 : FsP V ins sh g2 g2.length f2) (hp : g1 <+: g2) (hg : GatesOk (2 + ins) g1) : ∀ k, k < 2 + ins + g1.length → nth f2 k = nth f1 k := by
 intro k
 induction k using Nat.strongRecOn with
 | ind k ih =>
  intro hk
  by_cases h0 : k = 0
  ·subst h0; rw [h1.f0, h2.f0]
  by_cases hk1 : k = 1
  ·subst hk1; rw [h1.f1, h2.f1]
  by_cases hv : k < 2 + ins
  ·have a := h1.fv (k - 2) (by omega)
   have b := h2.fv (k - 2) (by omega)
   rw [show 2 + (k - 2) = k by omega] at a b
   rw [a, b]
  ·have hpl := hp.length_le
   obtain ⟨q, rfl⟩ : ∃ q, k = 2 + ins + q := ⟨k - (2 + ins), by omega⟩
   have hl1 := h1.len
   have hl2 := h2.len
   refine T.Ok.eq (h2.ok _ (zcf (by omega))) (h1.ok _ (zcf (by omega))) fun a => ?_
   rw [h1.fg q (by omega) a, h2.fg q (by omega) a]
   have eg : nth g2 q = nth g1 q := by
    obtain ⟨r, rfl⟩ := hp
    exact zda (by omega)
   rw [eg]
   have hgo := hg q (by omega)
   have hx : ∀ j : Int, 0 ≤ j → j < (2 + ins + q : Nat) → nth (f2.take (2 + ins + q)) j.toNat = nth (f1.take (2 + ins + q)) j.toNat := fun j j0 j1 => by
    rw [ze2 ⟨by omega, by omega⟩, ze2 ⟨by omega, by omega⟩]
    exact ih j.toNat (by omega) (by omega)
   have ha := hx _ hgo.a0 hgo.a1
   have hb := hx _ hgo.b0 hgo.b1
   have hc := hx _ hgo.c0 hgo.c1
   unfold zjs
   have hlow : low (f2.take (2 + ins + q)) [(nth g1 q).a, (nth g1 q).b, (nth g1 q).c] a 3 = low (f1.take (2 + ins + q)) [(nth g1 q).a, (nth g1 q).b, (nth g1 q).c] a 3 := by
    have := zqf (fs := f2.take (2 + ins + q)) (a := a) (x := (nth g1 q).a) (y := (nth g1 q).b) (z := (nth g1 q).c)
    have h2' := zqf (fs := f1.take (2 + ins + q)) (a := a) (x := (nth g1 q).a) (y := (nth g1 q).b) (z := (nth g1 q).c)
    rw [ha, hb, hc] at this
    omega
   rw [ha, hb, hc, hlow]
end Go.Proofs.Ytgfnpfchdlcoeaa

/- Of no program: a row of rows of the call's own, as many as there are. -/
set_option linter.unusedVariables false
set_option linter.unusedSimpArgs false
namespace Go.Proofs.Ytgfnpfchdlcoeaa
open Go Go.RowKit
def hdl (n : Nat) : List (List D) → List AV
 | [] => []
 | l :: ls => .os 1 n 0 l.length :: hdl (n + 1) ls
def zdq (ls : List (List D)) : zal := ls.map fun l => .cells (avs l)
theorem zls : ∀ (ls : List (List D)) (n : Nat), (hdl n ls).length = ls.length
 | [], _ => rfl
 | _ :: ls, n => by rw [hdl, List.length_cons, zls ls, List.length_cons]
theorem zqh (ls : List (List D)) : (zdq ls).length = ls.length := List.length_map _
theorem zul : ∀ (ls : List (List D)) (n k : Nat), (hdl n ls)[k]? = (ls[k]?).map fun l => .os 1 (n + k) 0 l.length
 | [], _, _ => by simp [hdl]
 | l :: ls, n, 0 => by simp [hdl]
 | l :: ls, n, k + 1 => by
  rw [hdl, List.getElem?_cons_succ, zul ls, List.getElem?_cons_succ, show n + 1 + k = n + (k + 1) by omega]
theorem jpv {ls : List (List D)} {n k : Nat} (h : k < ls.length) : (hdl n ls)[k]? = some (.os 1 (n + k) 0 (nth ls k).length) := by rw [zul, zw5 h]; rfl
theorem jik {ls : List (List D)} {k : Nat} (h : k < ls.length) : (zdq ls)[k]? = some (.cells (avs (nth ls k))) := by rw [zdq, zie h]
theorem jfw : ∀ (a b : List (List D)) (n : Nat), hdl n (a ++ b) = hdl n a ++ hdl (n + a.length) b
 | [], b, n => rfl
 | l :: a, b, n => by
  rw [List.cons_append, hdl, hdl, jfw a b, List.cons_append, List.length_cons, show n + 1 + a.length = n + (a.length + 1) by omega]
theorem jfx (a b : List (List D)) : zdq (a ++ b) = zdq a ++ zdq b := List.map_append
theorem Rt.rows_mk {τ : Fr} {o : AObj} (K : Nat) : ∀ j, j ≤ K → Rt [] τ [o, .cells (avs (List.replicate K (.val (.slice none 0 0))))] τ (o :: .cells (hdl 2 (List.replicate j []) ++ avs (List.replicate (K - j) (.val (.slice none 0 0)))) :: zdq (List.replicate j []))
 | 0, _ => Rt.refl _ _
 | j + 1, h => by
  refine Rt.trans (Rt.rows_mk K j (by omega)) ?_
  refine Rt.trans (Rt.nilc 1 j 1 (by simp [zdq]; rfl) ?_) (Rt.heap ?_)
  ·rw [List.getElem?_append_right (by rw [zls]; simp), zls, List.length_replicate, Nat.sub_self, show K - j = (K - (j + 1)) + 1 by omega, List.replicate_succ]; rfl
  ·have e1 : (hdl 2 (List.replicate j ([] : List D)) ++ avs (List.replicate (K - j) (.val (.slice none 0 0)))).set j (.os 1 (o :: .cells (hdl 2 (List.replicate j []) ++ avs (List.replicate (K - j) (.val (.slice none 0 0)))) :: zdq (List.replicate j [])).length 0 0) = hdl 2 (List.replicate (j + 1) []) ++ avs (List.replicate (K - (j + 1)) (.val (.slice none 0 0))) := by
    rw [show K - j = (K - (j + 1)) + 1 by omega, List.replicate_succ, zav, List.set_append_right _ _ (by rw [zls]; simp), zls, List.length_replicate, Nat.sub_self, List.replicate_succ', jfw]
    simp [hdl, zqh]; omega
   rw [e1, List.replicate_succ' (n := j), jfx]
   rfl
theorem Rt.rows {τ : Fr} {o : AObj} (K : Nat) : Rt [] τ [o, .cells (avs (List.replicate K (.val (.slice none 0 0))))] τ (o :: .cells (hdl 2 (List.replicate K [])) :: zdq (List.replicate K [])) :=
 (Rt.rows_mk K K (Nat.le_refl _)).trans (Rt.heap (by simp [avs]))
def Kp2 (keep : List Nat) : Prop := keep.Nodup ∧ keep[0]? = some 0 ∧ keep[1]? = some 1
theorem zqi : ∀ {l : List Nat} {j x : Nat}, l.Nodup → l[j]? = some x → zcp l x = some j
 | [], _, _, _, h => by simp at h
 | a :: l, 0, x, _, h => by
  simp at h; subst h
  simp [zcp]
 | a :: l, j + 1, x, hn, h => by
  obtain ⟨h1, h2⟩ := List.nodup_cons.1 hn
  rw [List.getElem?_cons_succ] at h
  have : x ≠ a := fun e => h1 (e ▸ List.mem_of_getElem? h)
  rw [zcp, if_neg this, zqi h2 h]; rfl
def LoV (x : AV) : Prop := (∀ id l, 2 ≤ id → fzV id l x = x) ∧ ∀ keep, Kp2 keep → gcV keep x = x
theorem jpw : LoV .any := ⟨fun _ _ _ => by rw [fzV], fun _ _ => by rw [gcV]⟩
theorem jtg (x : D) : LoV (.d x) := ⟨fun _ _ _ => by rw [fzV], fun _ _ => by rw [gcV]⟩
theorem jjx (i : Nat) : LoV (.op 0 i) := ⟨fun _ _ h => by rw [fzV, if_neg (by omega)], fun _ h => by rw [gcV, zqi h.1 h.2.1]⟩
theorem jjy (k off n : Nat) : LoV (.os k 1 off n) := ⟨fun _ _ h => by rw [fzV, if_neg (by omega)], fun _ h => by rw [gcV, zqi h.1 h.2.2]⟩
def LoF (τ : Fr) : Prop := ∀ t, LoV (τ t)
theorem jjz : LoF (frL []) := fun _ => jpw
theorem jfy {t : Nat} {x : AV} {l : List (Nat × AV)} (hx : LoV x) (h : LoF (frL l)) : LoF (frL ((t, x) :: l)) := fun s => by
 by_cases e : s = t
 ·subst e; simpa [frL] using hx
 ·have := h s
  simpa [frL, e] using this
def zum (K k : Nat) : List Nat := (List.range (K + 2)).map fun i => if i = 2 + k then 3 + K else i
theorem jfz (K k : Nat) : (zum K k).length = K + 2 := by simp [zum]
theorem zjx {K k i : Nat} (h : i < K + 2) : (zum K k)[i]? = some (if i = 2 + k then 3 + K else i) := by
 rw [zum, List.getElem?_map, List.getElem?_range h]; rfl
theorem jf0 {K k : Nat} (h : k < K) : Kp2 (zum K k) := by
 refine ⟨?_, ?_, ?_⟩
 ·refine List.pairwise_map.2 (List.Pairwise.imp_of_mem (fun ha hb hne => ?_) List.nodup_range)
  rw [List.mem_range] at ha hb
  split <;> split <;> omega
 ·rw [zjx (by omega), if_neg (by omega)]
 ·rw [zjx (by omega), if_neg (by omega)]
theorem jma {ls : List (List D)} {k : Nat} {l : List D} {cs : List D} (h : k < ls.length) :
  gcH (zum ls.length k) (.cells (avs cs) :: .cells ((hdl 2 ls).set k (.os 1 (3 + ls.length) 0 l.length)) :: ((zdq ls).set k .dead ++ [.dead, .cells (avs l)])) = .cells (avs cs) :: .cells (hdl 2 (ls.set k l)) :: zdq (ls.set k l) := by
 have k2 := jf0 h
 refine List.ext_getElem? fun i => ?_
 unfold gcH
 rw [List.getElem?_map]
 by_cases hi : i < ls.length + 2
 ·rw [zjx hi, Option.map_some]
  match i, hi with
  | 0, _ => rw [if_neg (by omega)]; simp [gcO, zap]
  | 1, _ =>
   rw [if_neg (by omega)]
   simp only [List.getD_cons_succ, List.getD_cons_zero, List.getElem?_cons_succ, List.getElem?_cons_zero, gcO]
   congr 2
   rw [zfg]
   refine List.ext_getElem? fun j => ?_
   rw [List.getElem?_map, List.getElem?_set, zls, zul, zul, List.getElem?_set]
   by_cases hj : k = j
   ·subst hj
    rw [if_pos rfl, if_pos h, if_pos rfl, if_pos h]
    simp only [Option.map_some]
    rw [gcV, zqi k2.1 (j := 2 + k) (by rw [zjx (by omega), if_pos rfl])]
   ·rw [if_neg hj, if_neg hj]
    cases hl : ls[j]? with
    | none => rfl
    | some m =>
     have hjl := (List.getElem?_eq_some_iff.1 hl).1
     simp only [Option.map_some]
     rw [gcV, zqi k2.1 (j := 2 + j) (by rw [zjx (by omega), if_neg (by omega)])]
  | i + 2, hi =>
   simp only [List.getElem?_cons_succ]
   rw [zdq, zdq, List.getElem?_map, List.getElem?_set]
   by_cases hj : k = i
   ·subst hj
    rw [if_pos (by omega), if_pos rfl, if_pos h]
    have e : (3 + ls.length) = ls.length + 1 + 1 + 1 := by omega
    rw [e, List.getD_cons_succ, List.getD_cons_succ, List.getD_eq_getElem?_getD, List.getElem?_append_right (by simp [zdq])]
    simp [zdq, gcO, zap]
   ·have hil : i < ls.length := by omega
    rw [if_neg (by omega), if_neg hj, List.getD_cons_succ, List.getD_cons_succ, List.getD_eq_getElem?_getD, List.getElem?_append_left (by simp [zdq]; omega), List.getElem?_set_ne hj, List.getElem?_map, zw5 hil]
    simp [gcO, zap]
 ·have : (zum ls.length k)[i]? = none := List.getElem?_eq_none (by rw [jfz]; omega)
  rw [this, List.getElem?_eq_none (by simp [zdq]; omega)]; rfl
theorem Rt.row {τ : Fr} (hτ : LoF τ) {ls : List (List D)} {k : Nat} {l : List D} {cs : List D} (h : k < ls.length) :
  Rt [] τ (.cells (avs cs) :: .cells ((hdl 2 ls).set k (.os 1 (3 + ls.length) 0 l.length)) :: ((zdq ls).set k .dead ++ [.dead, .cells (avs l)])) τ (.cells (avs cs) :: .cells (hdl 2 (ls.set k l)) :: zdq (ls.set k l)) := by
 have k2 := jf0 h
 have hg : Rt [] τ (.cells (avs cs) :: .cells ((hdl 2 ls).set k (.os 1 (3 + ls.length) 0 l.length)) :: ((zdq ls).set k .dead ++ [.dead, .cells (avs l)])) _ _ := Rt.gc (keep := zum ls.length k) (by simp) k2.1 (fun i hi => by
  obtain ⟨j, hj, rfl⟩ := List.mem_map.1 hi
  rw [List.mem_range] at hj
  simp only [List.length_cons, List.length_append, List.length_set, zqh, List.length_nil]
  split <;> omega)
 rw [jma h] at hg
 have e : (fun t => gcV (zum ls.length k) (τ t)) = τ := funext fun t => (hτ t).2 _ k2
 rw [e] at hg
 exact hg
theorem Rt.lessl {m : List Nat} {τ τ1 : Fr} {H H1 : zal} (h1 : jiy τ τ1) (h2 : Rt m τ1 H τ1 H1) : Rt m τ H τ1 H1 := (Rt.less h1).trans h2
def fss (ls : List (List D)) : List D := ls.map fun l => .fs l l.length
theorem jj0 {l : List D} : ∀ (ls : List (List D)) (n m : Nat), m < n → zga m l (hdl n ls) = hdl n ls
 | [], _, _, _ => by simp [hdl, zga]
 | x :: ls, n, m, h => by rw [hdl, zga, fzV, if_neg (by omega), jj0 ls (n + 1) m (by omega)]
theorem zxy (id : Nat) (l : List D) (a b : List AV) : zga id l (a ++ b) = zga id l a ++ zga id l b := by rw [zfi, zfi, zfi, List.map_append]
theorem jil (id : Nat) (l : List D) (ls : List (List D)) : (zdq ls).map (fzO id l) = zdq ls := by
 rw [zdq, List.map_map]
 exact List.map_congr_left fun x _ => by simp [fzO, zbw]
theorem Rt.rows_fz {τ : Fr} (hτ : LoF τ) {cs : List D} : ∀ (done ls : List (List D)), Rt [] τ (.cells (avs cs) :: .cells (avs (fss done) ++ hdl (2 + done.length) ls) :: (List.replicate done.length .dead ++ zdq ls)) τ (.cells (avs cs) :: .cells (avs (fss (done ++ ls))) :: List.replicate (done ++ ls).length .dead)
 | done, [] => Rt.heap (by simp [hdl, zdq])
 | done, l :: ls => by
  have h := Rt.rows_fz hτ (cs := cs) (done ++ [l]) ls
  rw [List.append_assoc, List.singleton_append] at h
  refine Rt.trans ?_ h
  have hz : Rt [] τ (.cells (avs cs) :: .cells (avs (fss done) ++ hdl (2 + done.length) (l :: ls)) :: (List.replicate done.length .dead ++ zdq (l :: ls))) _ _ := Rt.fz (id := 2 + done.length) (l := l) (by
   rw [show 2 + done.length = done.length + 1 + 1 by omega, List.getElem?_cons_succ, List.getElem?_cons_succ, List.getElem?_append_right (by simp)]
   simp [zdq, avs])
  have e : (fun t => fzV (2 + done.length) l (τ t)) = τ := funext fun t => (hτ t).1 _ _ (by omega)
  rw [e] at hz
  refine hz.trans (Rt.heap ?_)
  unfold fzH
  rw [show 2 + done.length = done.length + 1 + 1 by omega, List.set_cons_succ, List.set_cons_succ, List.map_cons, List.map_cons]
  have e2 : (List.replicate done.length AObj.dead ++ zdq (l :: ls)).set done.length AObj.dead = List.replicate (done.length + 1) AObj.dead ++ zdq ls := by
   rw [List.set_append_right _ _ (by simp)]
   simp [zdq, List.replicate_succ']
  rw [e2, List.map_append, jil, List.map_replicate]
  simp only [fzO, zbw, zxy]
  rw [hdl, zga, jj0 ls _ _ (by omega), fzV, if_pos rfl, zax (by simp)]
  simp [fss, avs, Nat.add_comm, Nat.add_left_comm, Nat.add_assoc]
theorem Rt.rows_all {τ : Fr} (hτ : LoF τ) {cs : List D} {ls : List (List D)} : Rt [] τ (.cells (avs cs) :: .cells (hdl 2 ls) :: zdq ls) τ [.cells (avs cs), .cells (avs (fss ls))] := by
 have h := Rt.rows_fz hτ (cs := cs) [] ls
 have hg : Rt [] τ (.cells (avs cs) :: .cells (avs (fss ls)) :: List.replicate ls.length .dead) _ _ := Rt.gc (keep := [0, 1]) (by simp) (by decide) (by simp)
 have e : (fun t => gcV [0, 1] (τ t)) = τ := funext fun t => (hτ t).2 _ ⟨by decide, rfl, rfl⟩
 rw [e] at hg
 refine (Rt.heap ?_).trans (h.trans ((Rt.heap ?_).trans (hg.trans (Rt.heap ?_))))
 ·simp [fss, avs]
 ·simp
 ·simp [gcH, gcO, zap]
end Go.Proofs.Ytgfnpfchdlcoeaa
