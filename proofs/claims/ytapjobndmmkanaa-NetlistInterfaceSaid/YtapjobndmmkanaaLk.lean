/- The builder run again makes nothing new; the size of R21.Large's netlists. -/
import Derived.Test.YtapjobndmmkanaaLg
set_option linter.unusedVariables false
set_option linter.unusedSimpArgs false
namespace Go.Proofs.Ytapjobndmmkanaa
open Go Go.RowKit
section
variable {m : Nat} {gs gs' : Gs} {x y z : Int}
theorem zoz {g : Gate} (hp : (zct m gs g).1 <+: gs') : zct m gs' g = (gs', (zct m gs g).2) := by
 unfold zct at hp ⊢
 by_cases hg : g ∈ gs
 ·simp only [if_pos hg] at hp ⊢
  obtain ⟨t, rfl⟩ := hp
  rw [if_pos (List.mem_append_left _ hg), znz hg]
 ·simp only [if_neg hg] at hp ⊢
  obtain ⟨t, rfl⟩ := hp
  have hm : g ∈ gs ++ [g] := by simp
  rw [if_pos (List.mem_append_left _ hm), znz hm, zrd hg]
theorem zwp (hp : gs <+: gs') (hx : NdB m gs x) (hy : NdB m gs y) : zlj m gs' x y = zlj m gs x y := by
 unfold zlj; rw [zvy hp hx.2, zvy hp hy.2]
theorem jyy (h2 : 2 ≤ m) (h : GI m gs) (hx : NdB m gs x) (hp : (zdk m gs x).1 <+: gs') : zdk m gs' x = (gs', (zdk m gs x).2) := by
 have hpre := (zfu h2 h hx).pre.trans hp
 unfold zdk at hp ⊢
 rw [zvy hpre hx.2]
 by_cases h1 : x < 2
 ·simp only [if_pos h1]
 ·simp only [if_neg h1] at hp ⊢
  by_cases h3 : 0 ≤ zfy m gs x
  ·simp only [if_pos h3]
  ·simp only [if_neg h3] at hp ⊢; exact zoz hp
theorem jrp (h2 : 2 ≤ m) (h : GI m gs) (hx : NdB m gs x) (hy : NdB m gs y) (hxy : x ≤ y) (hp : (jn0 m gs x y).1 <+: gs') : jn0 m gs' x y = (gs', (jn0 m gs x y).2) := by
 have hpre := (jvz h2 h hx hy hxy).pre.trans hp
 unfold jn0 at hp ⊢
 rw [zwp hpre hx hy]
 by_cases h1 : x = 0 ∨ zlj m gs x y = true
 ·simp only [if_pos h1]
 ·simp only [if_neg h1] at hp ⊢
  by_cases h3 : x = 1 ∨ x = y
  ·simp only [if_pos h3]
  ·simp only [if_neg h3] at hp ⊢; exact zoz hp
theorem jyz (h2 : 2 ≤ m) (h : GI m gs) (hx : NdB m gs x) (hy : NdB m gs y) (hxy : x ≤ y) (hp : (orS m gs x y).1 <+: gs') : orS m gs' x y = (gs', (orS m gs x y).2) := by
 have hpre := (ye9 h2 h hx hy hxy).pre.trans hp
 unfold orS at hp ⊢
 rw [zwp hpre hx hy]
 by_cases h1 : x = 1 ∨ zlj m gs x y = true
 ·simp only [if_pos h1]
 ·simp only [if_neg h1] at hp ⊢
  by_cases h3 : x = 0 ∨ x = y
  ·simp only [if_pos h3]
  ·simp only [if_neg h3] at hp ⊢; exact zoz hp
theorem jrq (h2 : 2 ≤ m) (h : GI m gs) (hx : NdB m gs x) (hy : NdB m gs y) (hxy : x ≤ y) (hp : (jn1 m gs x y).1 <+: gs') : jn1 m gs' x y = (gs', (jn1 m gs x y).2) := by
 have hpre := (jv0 h2 h hx hy hxy).pre.trans hp
 unfold jn1 at hp ⊢
 rw [zwp hpre hx hy]
 by_cases h1 : x = 0
 ·simp only [if_pos h1]
 simp only [if_neg h1] at hp ⊢
 by_cases h3 : x = 1
 ·simp only [if_pos h3] at hp ⊢; exact jyy h2 h hy hp
 simp only [if_neg h3] at hp ⊢
 by_cases h4 : x = y
 ·simp only [if_pos h4]
 simp only [if_neg h4] at hp ⊢
 by_cases h5 : zlj m gs x y = true
 ·simp only [if_pos h5]
 ·simp only [if_neg h5] at hp ⊢; exact zoz hp
theorem jy0 (h2 : 2 ≤ m) (h : GI m gs) (hx : NdB m gs x) (hy : NdB m gs y) (hp : (zda m gs x y).1 <+: gs') : zda m gs' x y = (gs', (zda m gs x y).2) := jrp h2 h (zk9 hx hy) (zla hx hy) (jbv x y) hp
theorem ydw (h2 : 2 ≤ m) (h : GI m gs) (hx : NdB m gs x) (hy : NdB m gs y) (hp : (orB m gs x y).1 <+: gs') : orB m gs' x y = (gs', (orB m gs x y).2) := jyz h2 h (zk9 hx hy) (zla hx hy) (jbv x y) hp
theorem jak (h2 : 2 ≤ m) (h : GI m gs) (hx : NdB m gs x) (hy : NdB m gs y) (hp : (zhj m gs x y).1 <+: gs') : zhj m gs' x y = (gs', (zhj m gs x y).2) := jrq h2 h (zk9 hx hy) (zla hx hy) (jbv x y) hp
theorem jrr (h2 : 2 ≤ m) (h : GI m gs) (hx : NdB m gs x) (hy : NdB m gs y) (hz : NdB m gs z) (hp : (jn2 m gs x y z).1 <+: gs') : jn2 m gs' x y z = (gs', (jn2 m gs x y z).2) := by
 unfold jn2 at hp ⊢
 by_cases h1 : x = 0
 ·simp only [if_pos h1] at hp ⊢; exact jy0 h2 h hy hz hp
 simp only [if_neg h1] at hp ⊢
 by_cases h3 : x = 1
 ·simp only [if_pos h3] at hp ⊢; exact ydw h2 h hy hz hp
 simp only [if_neg h3] at hp ⊢
 by_cases h4 : x = y ∨ y = z
 ·simp only [if_pos h4]
 ·simp only [if_neg h4] at hp ⊢; exact zoz hp
theorem jy1 (h2 : 2 ≤ m) (h : GI m gs) (hx : NdB m gs x) (hy : NdB m gs y) (hz : NdB m gs z) (hp : (zz4 m gs x y z).1 <+: gs') : zz4 m gs' x y z = (gs', (zz4 m gs x y z).2) := by
 unfold zz4 at hp ⊢
 obtain ⟨a, b, c, e1, e2, e3, h1, h3, hh⟩ := jp3 x y z
 rw [e2, e1, e3] at hp ⊢
 have ha : NdB m gs a ∧ NdB m gs b ∧ NdB m gs c := by
  rcases hh with ⟨rfl, rfl, rfl⟩ | ⟨rfl, rfl, rfl⟩ | ⟨rfl, rfl, rfl⟩ | ⟨rfl, rfl, rfl⟩ | ⟨rfl, rfl, rfl⟩ | ⟨rfl, rfl, rfl⟩ <;> refine ⟨?_, ?_, ?_⟩ <;> assumption
 exact jrr h2 h ha.1 ha.2.1 ha.2.2 hp
theorem joy {x y : List Int} {c : Int} (h2 : 2 ≤ m) (h : GI m gs) (hx : ∀ k, k < x.length → NdB m gs (nth x k)) (hy : ∀ k, k < x.length → NdB m gs (nth y k)) (hc : NdB m gs c) : ∀ k, k ≤ x.length → (zfk m gs x y c k).gs <+: gs' → zfk m gs' x y c k = ⟨gs', (zfk m gs x y c k).c, (zfk m gs x y c k).l⟩
 | 0, _, _ => rfl
 | k + 1, hk, hp => by
  obtain ⟨ih, ihc⟩ := zql h2 h hx hy hc k (by omega)
  have rc := joy h2 h hx hy hc k (by omega)
  have hxk := (hx k (by omega)).pre ih.pre
  have hyk := (hy k (by omega)).pre ih.pre
  have ha := zj1 h2 ih.gi hxk hyk
  have hb := zj1 h2 ha.gi ha.nd (ihc.pre ha.pre)
  have hd := jf6 h2 hb.gi (hxk.pre (ha.pre.trans hb.pre)) (hyk.pre (ha.pre.trans hb.pre)) (ihc.pre (ha.pre.trans hb.pre))
  rw [zfk] at hp ⊢
  rw [zfk]
  simp only at hp ⊢
  by_cases hlt : k + 1 < x.length
  ·simp only [if_pos hlt] at hp ⊢
   rw [rc (ha.pre.trans (hb.pre.trans (hd.pre.trans hp)))]
   simp only
   rw [jak h2 ih.gi hxk hyk (hb.pre.trans (hd.pre.trans hp))]
   simp only
   rw [jak h2 ha.gi ha.nd (ihc.pre ha.pre) (hd.pre.trans hp)]
   simp only
   rw [jy1 h2 hb.gi (hxk.pre (ha.pre.trans hb.pre)) (hyk.pre (ha.pre.trans hb.pre)) (ihc.pre (ha.pre.trans hb.pre)) hp]
  ·simp only [if_neg hlt] at hp ⊢
   rw [rc (ha.pre.trans (hb.pre.trans hp))]
   simp only
   rw [jak h2 ih.gi hxk hyk (hb.pre.trans hp)]
   simp only
   rw [jak h2 ha.gi ha.nd (ihc.pre ha.pre) hp]
theorem zul {st : Gs → Nat → Re} (h : ∀ gs k, (st gs k).1 = gs) : ∀ n, (zbs st gs n).1 = gs
 | 0 => rfl
 | n + 1 => by show (st (zbs st gs n).1 n).1 = gs; rw [h]; exact zul h n
theorem jlc {c : Ct} {inp : Int → Nat → Nat → Int} {data : List (List Int)} {a b w : Nat} (h2 : 2 ≤ m) (hi : InOk c inp m) (ha : a < c.regs.length) (hb : b < c.regs.length) (hwa : nth c.regs a = w) (hwb : nth c.regs b = w) (hg : GI m gs) :
  (zbz c inp m data gs (lgX a b)).1.length ≤ gs.length + (7 * w + 1) := by
 unfold lgX
 simp only [zbz, hwa, hwb]
 obtain ⟨X, hX⟩ : ∃ X, X = (List.range w).map fun k => inp 1 a k := ⟨_, rfl⟩
 obtain ⟨Y, hY⟩ : ∃ Y, Y = (List.range w).map fun k => inp 1 b k := ⟨_, rfl⟩
 rw [← hX, ← hY]
 have lX : X.length = w := by rw [hX]; simp
 have lY : Y.length = w := by rw [hY]; simp
 have nX : ∀ gs : Gs, ∀ k, k < w → NdB m gs (nth X k) := fun gs k hk => by
  rw [hX, zlb hk]; have := hi.r a k ha (by omega); exact ⟨this.1, by omega⟩
 have nY : ∀ gs : Gs, ∀ k, k < w → NdB m gs (nth Y k) := fun gs k hk => by
  rw [hY, zlb hk]; have := hi.r b k hb (by omega); exact ⟨this.1, by omega⟩
 clear hX hY
 rw [lX, lY]
 have h0 : NdB m gs 0 := ⟨by decide, by omega⟩
 have hS := (zql h2 hg (x := X) (y := Y) (fun k hk => nX gs k (by omega)) (fun k hk => nY gs k (by omega)) h0 w (by omega)).1
 ·have hsb := joy (gs' := (zdk m (ltB m (zfk m gs X Y 0 w).gs (zfk m gs X Y 0 w).l X (zfk m gs X Y 0 w).l.length).1 (ltB m (zfk m gs X Y 0 w).gs (zfk m gs X Y 0 w).l X (zfk m gs X Y 0 w).l.length).2).1) h2 hg (x := X) (y := Y) (fun k hk => nX gs k (by omega)) (fun k hk => nY gs k (by omega)) h0 w (by omega)
  generalize zfk m gs X Y 0 w = S at *
  have lS : S.l.length = w := hS.wid
  rw [lS] at hsb ⊢
  have hT := jjz h2 hS.gi (x := S.l) (y := X) (fun k hk => hS.nd k (by omega)) (fun k hk => nX _ k (by omega)) w (by omega)
  generalize ltB m S.gs S.l X w = T at *
  have hN := zfu h2 hT.gi hT.nd
  generalize zdk m T.1 T.2 = N at *
  rw [hsb (hT.pre.trans hN.pre)]
  simp only
  have hM := zcv (m := m) (q := 2) (gs := N.1) (st := fun gs i => zj0 m gs (nth [N.2] 0) (nth Y i) (nth S.l i)) hN.gi (n := w) fun k hk gs' hp hg' => ztw h2 hg' (hN.nd.pre hp) (nY _ k hk) ((hS.nd k hk).pre (hT.pre.trans (hN.pre.trans hp)))
  have l1 := hM.len; have l2 := hN.len; have l3 : T.1.length ≤ S.gs.length + _ := hT.len; have l4 : S.gs.length ≤ _ := hS.len
  omega
end
section
variable {n w : Nat}
theorem zm2 : (lgP n w).regs.length = n := by simp [lgP]
theorem jtb {i : Nat} (hi : i < n) : nth (lgP n w).regs i = lgR n w i := zlb hi
theorem zwq {i : Nat} (hi : i < n) : nth (ctP (lgP n w)).regs i = w := by
 unfold ctP; simp only; rw [jbx (by rw [zm2]; exact hi), jtb hi]; rfl
theorem jal : (ctP (lgP n w)).regs.length = n := by simp [ctP, lgP]
theorem jrs {i j : Nat} (hi : i < n) (hj : j < n) : za0 (ctP (lgP n w)) (lgX i j) = 10 * w + 1 := by
 simp only [lgX, za0, zb4, zwq hi, zwq hj]; omega
theorem jy2 (hn : 1 ≤ n) : ∀ k, k ≤ n → cRP (lgP n w) k = k * (12 * w + 1)
 | 0, _ => by simp [cRP, cQP, cTP, lgP]
 | k + 1, hk => by
  rw [cRP, jy2 hn k (by omega), jtb (by omega)]
  show _ + (za0 (ctP (lgP n w)) (lgX k ((k + 1) % n)) + 2 * w) = _
  rw [jrs (by omega) (Nat.mod_lt _ (by omega)), Nat.succ_mul k]; omega
theorem zrv (hn : 1 ≤ n) : zgz (lgP n w) = n * (12 * w + 1) := by
 show cRP (lgP n w) (lgP n w).regs.length + 0 = _
 rw [zm2, jy2 hn n (Nat.le_refl _), Nat.add_zero]
theorem jhm : ∀ k, k ≤ n → (zfe (lgP n w) k).length = k * w
 | 0, _ => by simp [zfe]
 | k + 1, hk => by rw [zfe, List.length_append, zaz, jhm k (by omega), jtb (by omega), Nat.succ_mul k]; rfl
theorem jam : (zfi (lgP n w)).length = n * w := by
 show (zfe (lgP n w) (lgP n w).regs.length).length = _
 rw [zm2]; exact jhm n (Nat.le_refl _)
theorem ydx {i j : Nat} (hi : i < n) (hj : j < n) {q : Bool} : WT (ctP (lgP n w)) q (lgX i j) ∧ zb4 (ctP (lgP n w)) (lgX i j) = w := by
 have e1 := zwq (w := w) hi; have e2 := zwq (w := w) hj
 simp only [lgX, WT, zb4, e1, e2, jal]
 simp [hi, hj]
theorem zum (hn : 1 ≤ n) (hn' : n ≤ 16) (hw : 1 ≤ w) (hw' : w ≤ 8) : PrOk (lgP n w) := by
 have hc : zgz (lgP n w) ≤ 100000 := by
  rw [zrv hn]
  have := Nat.mul_le_mul hn' (show 12 * w + 1 ≤ 97 by omega)
  omega
 refine ⟨⟨fun i hi => ?_, fun i hi => ?_, fun i hi => ?_, by simp [ctP, lgP]⟩, fun i hi => ?_, fun i hi => ?_, fun i hi => ?_, fun i hi => ?_, fun i hi => ?_, fun i hi => ?_, fun i hi => ?_, fun i hi => ?_, by rw [zm2]; omega, by simp [lgP], by simp [lgP], hc⟩
 ·rw [jal] at hi; rw [zwq hi]; exact ⟨hw, hw'⟩
 ·simp [ctP, lgP] at hi
 ·simp [ctP, lgP] at hi
 ·simp [lgP] at hi
 ·rw [zm2] at hi; rw [jtb hi]
  exact ydx hi (Nat.mod_lt _ (by omega))
 all_goals simp [lgP] at hi
theorem joz (hn : 1 ≤ n) (hn' : n ≤ 16) (hw : 1 ≤ w) (hw' : w ≤ 8) : ∀ i, i ≤ n → (zbu (lgP n w) i).gs.length ≤ i * (7 * w + 1)
 | 0, _ => Nat.zero_le _
 | i + 1, hi => by
  have ih := joz hn hn' hw hw' i (by omega)
  have h := zum (n := n) (w := w) hn hn' hw hw'
  have ho := zeb h i (by rw [zm2]; omega)
  have hx := jlc (data := zbd (lgP n w)) (w := w) mP2 (yar h) (a := i) (b := (i + 1) % n) (by rw [jal]; omega) (by rw [jal]; exact Nat.mod_lt _ (by omega)) (zwq (by omega)) (zwq (Nat.mod_lt _ (by omega))) ho.gi
  rw [zbu]
  simp only
  rw [jtb (show i < n by omega)]
  rw [zul fun gs k => by
   rw [show zcf (lgP n w) = 1 from rfl]
   unfold zj0
   rw [if_neg (by decide), if_pos (Or.inl rfl)]]
  rw [Nat.succ_mul]
  exact Nat.le_trans hx (by omega)
theorem jo0 (hn : 1 ≤ n) (hn' : n ≤ 9) (hw : 1 ≤ w) (hw' : w ≤ 8) : 2 + (zfi (lgP n w)).length + (ze4 (lgP n w)).gates.length ≤ 600 := by
 have h1 := joz hn (by omega) hw hw' n (Nat.le_refl _)
 have h2 : (ze4 (lgP n w)).gates.length ≤ n * (7 * w + 1) := by
  show (zbu (lgP n w) (lgP n w).regs.length).gs.length ≤ _
  rw [zm2]; exact h1
 rw [jam]
 have h3 : n * w ≤ 9 * 8 := Nat.mul_le_mul hn' hw'
 have h4 : n * (7 * w + 1) ≤ 9 * 57 := Nat.mul_le_mul hn' (by omega)
 omega
end
end Go.Proofs.Ytapjobndmmkanaa
