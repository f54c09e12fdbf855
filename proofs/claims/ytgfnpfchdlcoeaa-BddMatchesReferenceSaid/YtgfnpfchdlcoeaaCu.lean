/- The chapter's examples: the calls. -/
import Derived.Test.YtgfnpfchdlcoeaaCt
set_option linter.unusedVariables false
set_option linter.unusedSimpArgs false
namespace Go.Proofs.Ytgfnpfchdlcoeaa
open Go Go.RowKit
theorem RCalls.det {P : Program} {f : FuncId} {ds : List D} {Q : AV → Prop} {x : AV} (h : RCalls P f ds Q) (hQ : ∀ r, Q r → r = x) : zbi P f ds x :=
 ⟨h.1, fun w O vals hl hx hO => (h.2 w O vals hl hx hO).mono fun e w' ⟨v, r, he, hq, hr, hb⟩ => ⟨v, he, hQ r hq ▸ hr, hb⟩⟩
theorem zqc : ∀ (t : T) (acc : List T), (zeu t acc).length ≤ acc.length + t.sz
 | .leaf _, acc => Nat.le_add_right _ _
 | .node v l h, acc => by
  have h1 := zqc l acc
  have h2 := zqc h (zeu l acc)
  unfold zeu
  split
  ·omega
  ·simp only [List.length_append, List.length_cons, List.length_nil, T.sz]; omega
theorem zuj : ∀ (fs : List T) (acc : List T), (fs.foldl (fun acc t => zeu t acc) acc).length ≤ acc.length + (fs.map T.sz).sum
 | [], acc => by simp
 | t :: fs, acc => by
  have := zuj fs (zeu t acc)
  have := zqc t acc
  simp only [List.foldl_cons, List.map_cons, List.sum_cons]; omega
theorem jl4 {V : Nat} : ∀ {t : T} {k : Nat}, t.Ok V k → k ≤ V → t.sz + 1 ≤ 2 ^ (V - k + 1)
 | .leaf b, k, _, _ => by
  have : 2 ^ 1 ≤ 2 ^ (V - k + 1) := Nat.pow_le_pow_right (by decide) (by omega)
  simp [T.sz]; omega
 | .node v l h, k, ht, hk => by
  have h1 := ht.1
  have h2 := ht.2.1
  have hl := jl4 (k := v + 1) ht.2.2.2.1 (by omega)
  have hh := jl4 (k := v + 1) ht.2.2.2.2 (by omega)
  have e : 2 ^ (V - v + 1) = 2 ^ (V - (v + 1) + 1) + 2 ^ (V - (v + 1) + 1) := by
   rw [show V - v + 1 = (V - (v + 1) + 1) + 1 by omega, Nat.pow_succ]; omega
  have := Nat.pow_le_pow_right (n := 2) (by decide) (show V - v + 1 ≤ V - k + 1 by omega)
  simp only [T.sz]; omega
theorem jfm {l : List Nat} {b : Nat} (h : ∀ x ∈ l, x ≤ b) : l.sum ≤ l.length * b := by
 induction l with
 | nil => simp
 | cons x l ih =>
  have := h x (List.mem_cons_self ..)
  have := ih fun y hy => h y (List.mem_cons_of_mem _ hy)
  simp only [List.sum_cons, List.length_cons, Nat.succ_mul]; omega
theorem zzt {V ins : Nat} {sh : Sh} {gates : List Gate} {j : Nat} {fs : List T} (h : FsP V ins sh gates j fs) (hV : V ≤ 4) (hl : 2 + ins + j ≤ 20) : ¬ 3000 < (zd1 fs).length := by
 have h1 := zuj fs []
 have h2 : (fs.map T.sz).sum ≤ (fs.map T.sz).length * 32 := jfm fun x hx => by
  obtain ⟨t, ht, rfl⟩ := List.mem_map.1 hx
  have := jl4 (h.ok t ht) (Nat.zero_le _)
  have := Nat.pow_le_pow_right (n := 2) (by decide) (show V - 0 + 1 ≤ 5 by omega)
  omega
 have h3 := h.len
 rw [List.length_map] at h2
 simp only [List.length_nil, Nat.zero_add] at h1
 unfold zd1
 omega
theorem ze2 {α : Type} [Inhabited α] {l : List α} {i k : Nat} (h : i < k ∧ i < l.length) : nth (l.take k) i = nth l i := by
 rw [zcd (by rw [List.length_take]; omega), zcd h.2, List.getElem_take]
def exN : Net := ⟨[⟨3, 0, 0⟩, ⟨3, 1, 0⟩, ⟨3, 2, 0⟩], [⟨2, 2, 3, 0, 0⟩, ⟨3, 5, 4, 0, 0⟩, ⟨7, 0, 0, 0, 0⟩], [], []⟩
theorem jfn : zbi Try.prog 40 [] (.d (zf1 exN)) := zm1 (n := 60) mixed zad (by kernel_rfl)
def tA : T := .node 2 (.leaf false) (.leaf true)
def tB : T := .node 1 tA (.leaf true)
def tR : T := .node 0 tA tB
def tW : List T := [tA, tB, tR]
def wantN : List NI := [⟨2, 0, 1⟩, ⟨1, 2, 1⟩, ⟨0, 2, 3⟩]
theorem jjv {m : Nat} (k : Nat) (hk : k < 3) (hm : m = 5 + k) : GOp m (nth exN.gates k) := by
 subst hm
 match k, hk with
 | 0, _ => exact ⟨by decide, by decide, by decide, by decide, by decide, by decide, by decide, by decide⟩
 | 1, _ => exact ⟨by decide, by decide, by decide, by decide, by decide, by decide, by decide, by decide⟩
 | 2, _ => exact ⟨by decide, by decide, by decide, by decide, by decide, by decide, by decide, by decide⟩
theorem jpm : BIn 3 exN [] [6] := ⟨⟨by decide, fun k hk => absurd hk (by simp)⟩, by decide, by decide, fun k hk => jjv k hk (by simp [exN]), by decide, by decide, by decide, by decide, by decide⟩
theorem jr2 : ShOk [(1, 1)] := ⟨by decide, fun k hk => by
 have : k = 0 := by simpa using hk
 subst this
 decide⟩
theorem jpn : BIn 4 exN [(1, 1)] [7, 0] := ⟨jr2, by decide, by decide, fun k hk => jjv k hk (by simp [exN]), by decide, by decide, by decide, by decide, by decide⟩
theorem jr3 : zbi Try.prog 15 [zf1 exN, .fs [] 0, zay [6]] (.d (zui wantN [4] 0)) := by
 refine (zxs 3 exN [] [6] jpm).det ?_
 rintro r ⟨ns, rs, e, rfl, h | h⟩
 ·obtain ⟨_, _, _, j, fs, hj, hF, hbig⟩ := h
  exact absurd hbig (zzt hF (by omega) (by simp [exN] at hj ⊢; omega))
 ·obtain ⟨rfl, fs, hF, _, rfl, rfl⟩ := h
  have hl : fs.length = 8 := hF.len
  have t5 : ∀ a, (nth fs 5).eval a = (a 0 && a 1) := fun a => by
   have := hF.fg 0 (by decide) a
   have e2 := hF.fv 0 (by decide)
   have e3 := hF.fv 1 (by decide)
   refine this.trans ?_
   show ((nth (fs.take 5) 2).eval a && (nth (fs.take 5) 3).eval a) = _
   rw [ze2 (by omega), ze2 (by omega), e2, e3]
   simp [zut, T.eval]
  have t6 : ∀ a, (nth fs 6).eval a = ((a 0 && a 1) || a 2) := fun a => by
   have := hF.fg 1 (by decide) a
   have e4 := hF.fv 2 (by decide)
   refine this.trans ?_
   show ((nth (fs.take 6) 5).eval a || (nth (fs.take 6) 4).eval a) = _
   rw [ze2 (by omega), ze2 (by omega), e4, t5]
   simp [zut, T.eval]
  have hR : nth fs 6 = tR := T.Ok.eq (hF.ok _ (zcf (by omega))) (show tR.Ok 3 0 by simp [tR, tB, tA, T.Ok]) fun a => by
   rw [t6]
   simp only [tR, tB, tA, T.eval]
   cases a 0 <;> cases a 1 <;> cases a 2 <;> rfl
  have hr : zej fs [6] = [tR] := by show [nth fs 6] = _; rw [hR]
  rw [hr, jfl]
  congr 1
theorem jr4 : zbi Try.prog 15 [zf1 exN, shD [(1, 1)], zay [7, 0]] (.d (zui [⟨3, 0, 1⟩] [2, 0] 0)) := by
 refine (zxs 4 exN [(1, 1)] [7, 0] jpn).det ?_
 rintro r ⟨ns, rs, e, rfl, h | h⟩
 ·obtain ⟨_, _, _, j, fs, hj, hF, hbig⟩ := h
  exact absurd hbig (zzt hF (by omega) (by simp [exN] at hj ⊢; omega))
 ·obtain ⟨rfl, fs, hF, _, rfl, rfl⟩ := h
  have hl : fs.length = 8 := hF.len
  have t7 : ∀ a, (nth fs 7).eval a = a 3 := fun a => by
   have := hF.fg 2 (by decide) a
   refine this.trans ?_
   show zt5 3 [(1, 1)] 0 (low (fs.take 7) [0, 0, 0] a 3) a = _
   have e0 : nth (fs.take 7) 0 = .leaf false := by rw [ze2 (by omega)]; exact hF.f0
   have : low (fs.take 7) [0, 0, 0] a 3 = 0 := by
    simp only [low]
    show 0 + (if (nth (fs.take 7) 0).eval a = true then _ else 0) + (if (nth (fs.take 7) 0).eval a = true then _ else 0) + (if (nth (fs.take 7) 0).eval a = true then _ else 0) = 0
    rw [e0]; rfl
   rw [this]; rfl
  have hR : nth fs 7 = zut 3 := T.Ok.eq (hF.ok _ (zcf (by omega))) (show (zut 3).Ok 4 0 by simp [zut, T.Ok]) fun a => by
   rw [t7]
   simp [zut, T.eval]
  have hr : zej fs [7, 0] = [zut 3, .leaf false] := by
   show [nth fs 7, nth fs 0] = _
   rw [hR, hF.f0]
  rw [hr, jfl]
  congr 1
theorem jr5 : zbi Try.prog 15 [zf1 exN, .fs [] 0, zay [8]] (.d (zui [] [] 1)) := zud exN [] [8] (by decide) (by decide) (by decide) (by decide) (by decide)
theorem jr6 : zbi Try.prog 15 [zf1 exN, shI [(9, 0)], .fs [] 0] (.d (zui [] [] 1)) := zud exN [(9, 0)] [] (by decide) (by decide) (by decide) (by decide) (by decide)
end Go.Proofs.Ytgfnpfchdlcoeaa
