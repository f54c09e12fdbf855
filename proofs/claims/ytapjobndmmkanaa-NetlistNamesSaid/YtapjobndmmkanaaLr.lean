/- The law NetlistNames. -/
import Derived.Test.YtapjobndmmkanaaQr
import Derived.Test.YtapjobndmmkanaaLee
import Derived.Test.YtapjobndmmkanaaVi
set_option linter.unusedVariables false
set_option linter.unusedSimpArgs false
set_option maxRecDepth 100000
set_option maxHeartbeats 4000000
namespace Go.Proofs.Ytapjobndmmkanaa
open Go Go.RowKit
theorem jie : ((((((type_of% @zph) ∧ ((type_of% @zto) ∧ (type_of% @jvt))) ∧ (((type_of% @zfs) ∧ (type_of% @zim)) ∧ ((type_of% @zmw) ∧ (type_of% @jfs)))) ∧ (((type_of% @ye6) ∧ ((type_of% @ye7) ∧ (type_of% @jft))) ∧ (((type_of% @zjp) ∧ (type_of% @zjq)) ∧ ((type_of% @zmr) ∧ (type_of% @zts))))) ∧ ((((type_of% @zdl) ∧ ((type_of% @zk1) ∧ (type_of% @zk2))) ∧ (((type_of% @zms) ∧ (type_of% @jjs)) ∧ ((type_of% @zfb) ∧ (type_of% @zk3)))) ∧ (((type_of% @zmt) ∧ ((type_of% @zmu) ∧ (type_of% @jbr))) ∧ (((type_of% @zd6) ∧ (type_of% @zk4)) ∧ ((type_of% @zk5) ∧ (type_of% @zmv)))))) ∧ (((((type_of% @jjt) ∧ ((type_of% @zd7) ∧ (type_of% @zew))) ∧ (((type_of% @zex) ∧ (type_of% @jir)) ∧ ((type_of% @zyx) ∧ (type_of% @jnb)))) ∧ (((type_of% @jnc) ∧ ((type_of% @jnd) ∧ (type_of% @zeo))) ∧ (((type_of% @zqg) ∧ (type_of% @zyy)) ∧ ((type_of% @zyr) ∧ (type_of% @znh))))) ∧ ((((type_of% @ztt) ∧ ((type_of% @zyq) ∧ (type_of% @zy0))) ∧ (((type_of% @zy2) ∧ (type_of% @zy6)) ∧ ((type_of% @zzd) ∧ (type_of% @zzg)))) ∧ ((((type_of% @zoq) ∧ (type_of% @zpl)) ∧ ((type_of% @zgv) ∧ (type_of% @zpj))) ∧ (((type_of% @zpk) ∧ (type_of% @zgu)) ∧ ((type_of% @zfr) ∧ (type_of% @zkh))))))) := ⟨⟨⟨⟨⟨@zph, ⟨@zto, @jvt⟩⟩, ⟨⟨@zfs, @zim⟩, ⟨@zmw, @jfs⟩⟩⟩, ⟨⟨@ye6, ⟨@ye7, @jft⟩⟩, ⟨⟨@zjp, @zjq⟩, ⟨@zmr, @zts⟩⟩⟩⟩, ⟨⟨⟨@zdl, ⟨@zk1, @zk2⟩⟩, ⟨⟨@zms, @jjs⟩, ⟨@zfb, @zk3⟩⟩⟩, ⟨⟨@zmt, ⟨@zmu, @jbr⟩⟩, ⟨⟨@zd6, @zk4⟩, ⟨@zk5, @zmv⟩⟩⟩⟩⟩, ⟨⟨⟨⟨@jjt, ⟨@zd7, @zew⟩⟩, ⟨⟨@zex, @jir⟩, ⟨@zyx, @jnb⟩⟩⟩, ⟨⟨@jnc, ⟨@jnd, @zeo⟩⟩, ⟨⟨@zqg, @zyy⟩, ⟨@zyr, @znh⟩⟩⟩⟩, ⟨⟨⟨@ztt, ⟨@zyq, @zy0⟩⟩, ⟨⟨@zy2, @zy6⟩, ⟨@zzd, @zzg⟩⟩⟩, ⟨⟨⟨@zoq, @zpl⟩, ⟨@zgv, @zpj⟩⟩, ⟨⟨@zpk, @zgu⟩, ⟨@zfr, @zkh⟩⟩⟩⟩⟩⟩
/-! ### Processes that differ in names only -/
structure SameP (p q : Pr) : Prop where
  rl : q.regs.length = p.regs.length
  ml : q.mems.length = p.mems.length
  tl : q.takes.length = p.takes.length
  ql : q.puts.length = p.puts.length
  rw : ∀ i, (nth q.regs i).w = (nth p.regs i).w
  rn : ∀ i, (nth q.regs i).next = (nth p.regs i).next
  mw : ∀ i, (nth q.mems i).w = (nth p.mems i).w
  mo : ∀ i, (nth q.mems i).words = (nth p.mems i).words
  me : ∀ i, (nth q.mems i).en = (nth p.mems i).en
  ma : ∀ i, (nth q.mems i).ad = (nth p.mems i).ad
  md : ∀ i, (nth q.mems i).da = (nth p.mems i).da
  tw : ∀ i, (nth q.takes i).w = (nth p.takes i).w
  th : ∀ i, (nth q.takes i).wh = (nth p.takes i).wh
  qw : ∀ i, (nth q.puts i).w = (nth p.puts i).w
  qh : ∀ i, (nth q.puts i).wh = (nth p.puts i).wh
  qd : ∀ i, (nth q.puts i).da = (nth p.puts i).da
  c : ctP q = ctP p
section
variable {p q : Pr} (h : SameP p q)
include h
theorem jif : ∀ i, zfe q i = zfe p i
  | 0 => rfl
  | i + 1 => by rw [zfe, zfe, jif i, h.rw]
theorem jig : ∀ i, ze3 q i = ze3 p i
  | 0 => by rw [ze3, ze3, h.rl, jif h]
  | i + 1 => by rw [ze3, ze3, jig i, h.tw]
theorem jih : ∀ i, zfz q i = zfz p i
  | 0 => by rw [zfz, zfz, h.tl, jig h]
  | i + 1 => by rw [zfz, zfz, jih i]
theorem zux : zfi q = zfi p := by unfold zfi; rw [h.ql, jih h]
theorem jpa : mP q = mP p := by unfold mP; rw [zux h]
theorem zuy : inp q = inp p := by funext a b c; unfold inp; rw [zux h]
theorem zo6 : zcp q = zcp p := by funext a b c; unfold zcp; rw [h.c, zuy h, jpa h]
theorem zl7 : ∀ i, zc4 q i = zc4 p i
  | 0 => rfl
  | i + 1 => by rw [zc4, zc4, zl7 i, h.tw, h.th, zo6 h, zuy h, jpa h]
theorem ja1 : ∀ i, zj2 q i = zj2 p i
  | 0 => by rw [zj2, zj2, h.tl, zl7 h]
  | i + 1 => by rw [zj2, zj2, ja1 i, h.qh, zo6 h, h.tl, zl7 h]
theorem ja2 : ∀ i, zgy q i = zgy p i
  | 0 => by rw [zgy, zgy, h.ql, ja1 h]
  | i + 1 => by rw [zgy, zgy, ja2 i, h.tl, zl7 h, zuy h, jpa h]
theorem zr5 : ∀ i, zh3 q i = zh3 p i
  | 0 => by rw [zh3, zh3, h.tl, ja2 h]
  | i + 1 => by rw [zh3, zh3, zr5 i, h.ql, ja1 h, zuy h, jpa h]
theorem zr6 : zcf q = zcf p := by unfold zcf; rw [h.ql, zr5 h]
theorem yaa : zei q = zei p := by unfold zei; rw [h.tl, zl7 h]
theorem yab : zea q = zea p := by unfold zea; rw [h.ql, ja1 h]
theorem zwv : zbd q = zbd p := by unfold zbd; rw [h.tl, zl7 h]
theorem jii : ∀ i, zbu q i = zbu p i
  | 0 => by rw [zbu, zbu, h.ql, zr5 h]
  | i + 1 => by rw [zbu, zbu, jii i, h.rn, zo6 h, zwv h, zr6 h, zuy h, jpa h]
theorem jij : ∀ i, zc8 q i = zc8 p i
  | 0 => by rw [zc8, zc8, h.rl, jii h]
  | i + 1 => by rw [zc8, zc8, jij i, zr6 h, yaa h, jpa h]
theorem jik : ∀ i, zc3 q i = zc3 p i
  | 0 => by rw [zc3, zc3, h.tl, jij h]
  | i + 1 => by rw [zc3, zc3, jik i, zr6 h, yab h, jpa h, h.qd, zo6 h, zwv h]
theorem jil : ∀ i, zcg q i = zcg p i
  | 0 => by rw [zcg, zcg, h.ql, jik h]
  | i + 1 => by rw [zcg, zcg, jil i, zr6 h, jpa h, h.me, h.ma, h.md, h.mo, zo6 h, zwv h]
theorem jpb : ze4 q = ze4 p := by unfold ze4; rw [h.ml, jil h, zux h]
theorem yac : ∀ i, cTP q i = cTP p i
  | 0 => rfl
  | i + 1 => by rw [cTP, cTP, yac i, h.tw, h.th, h.c]
theorem yad : ∀ i, cQP q i = cQP p i
  | 0 => by rw [cQP, cQP, h.tl, yac h]
  | i + 1 => by rw [cQP, cQP, yad i, h.qh, h.c]
theorem yae : ∀ i, cRP q i = cRP p i
  | 0 => by rw [cRP, cRP, h.ql, yad h, h.tl]
  | i + 1 => by rw [cRP, cRP, yae i, h.rn, h.rw, h.c]
theorem yaf : ∀ i, cUP q i = cUP p i
  | 0 => by rw [cUP, cUP, h.rl, yae h, h.tl]
  | i + 1 => by rw [cUP, cUP, yaf i, h.qd, h.qw, h.c]
theorem yag : ∀ i, cMP q i = cMP p i
  | 0 => by rw [cMP, cMP, h.ql, yaf h]
  | i + 1 => by rw [cMP, cMP, yag i, h.me, h.ma, h.md, h.c]
theorem jim : zgz q = zgz p := by unfold zgz; rw [h.ml, yag h]
theorem yep (hp : PrOk p) : PrOk q := by
  refine ⟨h.c ▸ hp.ct, fun i hi => ?_, fun i hi => ?_, fun i hi => ?_, fun i hi => ?_, fun i hi => ?_, fun i hi => ?_, fun i hi => ?_, fun i hi => ?_, h.rl ▸ hp.rl, h.tl ▸ hp.tl, h.ql ▸ hp.ql, jim h ▸ hp.cl⟩
  · rw [h.c, h.th]; exact hp.tw i (h.tl ▸ hi)
  · rw [h.c, h.rn, h.rw]; exact hp.rn i (h.rl ▸ hi)
  · rw [h.c, h.qh]; exact hp.qw i (h.ql ▸ hi)
  · rw [h.c, h.qd, h.qw]; exact hp.qd i (h.ql ▸ hi)
  · rw [h.qw]; exact hp.qb i (h.ql ▸ hi)
  · rw [h.c, h.me]; exact hp.me i (h.ml ▸ hi)
  · rw [h.c, h.ma]; exact hp.ma i (h.ml ▸ hi)
  · rw [h.c, h.md, h.mw]; exact hp.md i (h.ml ▸ hi)
end
theorem zr7 {α β : Type} [Inhabited α] {f : α → β} {l m : List α} (h : l.map f = m.map f) (i : Nat) : f (nth l i) = f (nth m i) := by
  have hl : l.length = m.length := by simpa using congrArg List.length h
  by_cases hi : i < l.length
  · have e : (l.map f)[i]? = (m.map f)[i]? := by rw [h]
    rw [zbj hi, zbj (by omega)] at e
    exact Option.some.inj e
  · unfold nth
    rw [List.getD_eq_getElem?_getD, List.getD_eq_getElem?_getD, List.getElem?_eq_none (by omega), List.getElem?_eq_none (by omega)]
def jsf (r : PReg) : Nat × Ex := (r.w, r.next)
def jsg (m : PMem) : Nat × Nat × Ex × Ex × Ex := (m.w, m.words, m.en, m.ad, m.da)
def jsh (t : PTake) : Nat × Ex := (t.w, t.wh)
def jsi (q : PPut) : Nat × Ex × Ex := (q.w, q.wh, q.da)
theorem jin {α β γ : Type} {f : α → β} {g : β → γ} {k : α → γ} (hk : ∀ a, g (f a) = k a) {l m : List α} (h : l.map f = m.map f) : l.map k = m.map k := by
  have := congrArg (List.map g) h
  rw [List.map_map, List.map_map] at this
  have e : g ∘ f = k := funext hk
  rwa [e] at this
theorem jsj {p q : Pr} (hr : q.regs.map jsf = p.regs.map jsf) (hm : q.mems.map jsg = p.mems.map jsg) (ht : q.takes.map jsh = p.takes.map jsh) (hq : q.puts.map jsi = p.puts.map jsi) : SameP p q := by
  have e1 := zr7 hr; have e2 := zr7 hm; have e3 := zr7 ht; have e4 := zr7 hq
  refine ⟨by simpa using congrArg List.length hr, by simpa using congrArg List.length hm, by simpa using congrArg List.length ht, by simpa using congrArg List.length hq, fun i => congrArg (·.1) (e1 i), fun i => congrArg (·.2) (e1 i), fun i => congrArg (·.1) (e2 i), fun i => congrArg (·.2.1) (e2 i), fun i => congrArg (·.2.2.1) (e2 i), fun i => congrArg (·.2.2.2.1) (e2 i), fun i => congrArg (·.2.2.2.2) (e2 i), fun i => congrArg (·.1) (e3 i), fun i => congrArg (·.2) (e3 i), fun i => congrArg (·.1) (e4 i), fun i => congrArg (·.2.1) (e4 i), fun i => congrArg (·.2.2) (e4 i), ?_⟩
  unfold ctP
  rw [jin (g := fun x : Nat × Ex => x.1) (k := fun x : PReg => x.w) (fun _ => rfl) hr, jin (g := fun x : Nat × Ex => x.1) (k := fun x : PTake => x.w) (fun _ => rfl) ht, jin (g := fun x : Nat × Nat × Ex × Ex × Ex => (x.2.1, x.1)) (k := fun x : PMem => (x.words, x.w)) (fun _ => rfl) hm]
def zr8 (cs : List D) (b : Nat) : List (Nat × D) → List D
  | [] => cs
  | (o, x) :: r => zr8 (cs.set (b + o) x) b r
theorem zuz : ∀ (xs : List (Nat × D)) (A B C : List D), (∀ p ∈ xs, p.1 < B.length) → zr8 (A ++ (B ++ C)) A.length xs = A ++ (zr8 B 0 xs ++ C)
  | [], A, B, C, _ => rfl
  | (o, x) :: r, A, B, C, h => by
    have ho : o < B.length := h (o, x) (by simp)
    rw [zr8, zr8, List.set_append_right _ _ (by omega), Nat.add_sub_cancel_left, List.set_append_left _ _ (by omega), Nat.zero_add]
    exact zuz r A (B.set o x) C (fun p hp => by rw [List.length_set]; exact h p (List.mem_cons_of_mem _ hp))
theorem zlh {α : Type} [Inhabited α] {f : α → List D} {w : Nat} (hw : ∀ a, (f a).length = w) {l : List α} {k : Nat} (a : α) (xs : List (Nat × D)) (hk : k < l.length) (ho : ∀ p ∈ xs, p.1 < w) (ha : zr8 (f (nth l k)) 0 xs = f a) : zr8 (l.flatMap f) (k * w) xs = (l.set k a).flatMap f := by
  have e1 : l.flatMap f = (l.take k).flatMap f ++ (f (nth l k) ++ (l.drop (k + 1)).flatMap f) := by
    conv => lhs; rw [jab hk]
    simp
  have hl : ((l.take k).flatMap f).length = k * w := by
    rw [zca hw, List.length_take, Nat.min_eq_left (by omega)]
  rw [e1, ← hl, zuz xs _ _ _ (fun p hp => by rw [hw]; exact ho p hp), ha]
  rw [List.set_eq_take_append_cons_drop, if_pos hk]
  simp
theorem ex7 (e : Ex) : ∃ a b c d f g h, exC e = [a, b, c, d, f, g, h] := by cases e <;> exact ⟨_, _, _, _, _, _, _, rfl⟩
def nmR (r : PReg) (s : ByteArray) (x y : Int) : PReg := ⟨s, r.w, x, r.next, y, ⟨#[]⟩, 0⟩
def nmM (m : PMem) (s : ByteArray) (y : Int) : PMem := ⟨s, m.w, m.words, m.en, m.ad, m.da, y, ⟨#[]⟩, 0⟩
def nmT (t : PTake) (y : Int) : PTake := ⟨y, t.w, t.wh⟩
def nmQ (q : PPut) (y : Int) : PPut := ⟨y, q.w, q.wh, q.da⟩
theorem yeq (r : PReg) (s : ByteArray) (x y : Int) : zr8 (prC r) 0 [(0, sD s), (2, iD x), (10, iD y), (11, sD ⟨#[]⟩), (12, iD 0)] = prC (nmR r s x y) := by
  obtain ⟨a, b, c, d, f, g, h, e⟩ := ex7 r.next
  unfold prC nmR; simp only [e]; rfl
theorem yer (m : PMem) (s : ByteArray) (y : Int) : zr8 (pmC m) 0 [(0, sD s), (24, iD y), (25, sD ⟨#[]⟩), (26, iD 0)] = pmC (nmM m s y) := by
  obtain ⟨a, b, c, d, f, g, h, e⟩ := ex7 m.en
  obtain ⟨a', b', c', d', f', g', h', e'⟩ := ex7 m.ad
  obtain ⟨a2, b2, c2, d2, f2, g2, h2, e2⟩ := ex7 m.da
  unfold pmC nmM; simp only [e, e', e2]; rfl
theorem yes {l : List PReg} {k : Nat} (h : k < l.length) : (l.flatMap prC)[k * 13]? = some (sD (nth l k).name) := (zci (j := 0) zrl h (by omega)).trans rfl
theorem yeu {l : List PMem} {k : Nat} (h : k < l.length) : (l.flatMap pmC)[k * 27]? = some (sD (nth l k).name) := (zci (j := 0) zt7 h (by omega)).trans rfl
theorem v_s {P : Program} {t : TypeId} {s : ByteArray} (h : s.size ≤ 9) : zhc P .add t (.string ⟨#[115]⟩) (.string s) = some (.string (⟨#[115]⟩ ++ s)) := joc (by have : (⟨#[115]⟩ : ByteArray).size = 1 := rfl; omega)
def nmS : ByteArray := ⟨#[97, 110, 111, 116, 104, 101, 114]⟩
def nmZ : ByteArray := ⟨#[122]⟩
def nmH (k0 k1 k2 k3 : Nat) (p : Pr) (rs : List PReg) (ms : List PMem) (ts : List PTake) (qs : List PPut) : zae :=
  [.cells [.d (.val (.int .u8 k0)), .d (.val (.int .u8 k1)), .d (.val (.int .u8 k2)), .d (.val (.int .u8 k3))], .cells (avs (zar p)),
   .cells [.d (sD nmS), .d (sD nmZ), .os 13 3 0 p.regs.length, .os 27 4 0 p.mems.length, .os 9 5 0 p.takes.length, .os 16 6 0 p.puts.length],
   .cells (avs (rs.flatMap prC)), .cells (avs (ms.flatMap pmC)), .cells (avs (ts.flatMap ptC)), .cells (avs (qs.flatMap pqC))]
def nmG (k0 k1 k2 k3 : Nat) (p : Pr) (l : List AV) (h : zae) : zae :=
  .cells [.d (.val (.int .u8 k0)), .d (.val (.int .u8 k1)), .d (.val (.int .u8 k2)), .d (.val (.int .u8 k3))] :: .cells (avs (zar p)) :: .cells (.d (sD nmS) :: .d (sD nmZ) :: l) :: h
theorem ze2 {p q : Prop} (hq : q) (h : p = q := by
  conv => lhs; simp -dsimp -implicitDefEqProofs (disch := first | assumption | omega | (simp only [r_z, zab, zac, za7, zbr, zbb, zbc] <;> omega) | decide) only [r_r, ↓reduceIte, Nat.reduceEqDiff, Nat.reduceAdd, D.fix, Int.reduceToNat, Nat.reduceMul, Nat.reduceBNe, Nat.reduceBEq, zb1, beq_self_eq_true, zcb, zb7, zay, za3, zav, za2, zeq, List.cons_append, List.nil_append, zbq, zar, sD, nmH, nmG, nmS, nmZ, jie]) : p := h.mpr hq
theorem jcp {p q : Prop} (hq : q) (h : p = q := by
  conv => lhs; simp -dsimp -implicitDefEqProofs (disch := first | assumption | omega | (simp only [r_z, zab, zac, za7, zbr, zbb, zbc] <;> omega) | decide) only [r_r, ↓reduceIte, Nat.reduceEqDiff, Nat.reduceAdd, D.fix, Int.reduceToNat, Nat.reduceMul, Nat.reduceBNe, Nat.reduceBEq, zb1, beq_self_eq_true, zcb, zb7, zay, za3, zav, za2, zeq, List.cons_append, List.nil_append, zbq, zar, sD, nmH, nmG, nmS, nmZ]) : p := h.mpr hq
theorem jtk (k : List Nat) {m : List Nat} {τ τ1 : Fr} {H H1 : zae} (h : Rt m (fun t => gcV k (τ t)) (gcH k H) τ1 H1) (a : ∀ i ∈ m, k[i]? = some i := by decide) (b : k.Nodup := by decide) (c : ∀ i ∈ k, i < H.length := by
  simp [fzH, gcH]) : Rt m τ H τ1 H1 := Rt.trans (Rt.gc a b c) h
theorem jiu {m : List Nat} {τ τ' : Fr} {H H' : zae} (h2 : H = H') (h : zfq τ τ' := by
  repeat (first | exact zas _ | refine zao ?_ (by first | rfl | (simp [r_f, zab, zac, za7, zbr, zbb, zbc]; done) | simp [r_f, zab, zac, za7, zbr, zbb, zbc, *]))) : Rt m τ H τ' H' := Rt.end h h2
theorem yah {p q r : Prop} (e : r) (hq : q) (h : r → p = q := by
  intro hY
  conv => lhs; simp -dsimp -implicitDefEqProofs (disch := first | assumption | omega | (simp only [r_z, zab, zac, za7, zbr, zbb, zbc] <;> omega) | decide) only [r_r, ↓reduceIte, Nat.reduceEqDiff, Nat.reduceAdd, D.fix, Int.reduceToNat, Nat.reduceMul, Nat.reduceBNe, Nat.reduceBEq, zb1, beq_self_eq_true, zcb, zb7, zay, za3, zav, za2, zeq, List.cons_append, List.nil_append, zbq, zar, sD, nmH, nmG, nmS, nmZ, jie, hY]) : p := (h e).mpr hq
theorem yai {p : Prop} (h : p := by
  first | rfl | (simp only [r_g, Nat.reduceAdd, ↓reduceIte, Nat.reduceEqDiff, zb1, beq_self_eq_true, zcb, zb7, zay, za3, zav, za2, zeq, List.cons_append, List.nil_append, zbq, zar, sD, nmH, nmG, nmS, nmZ]; first | done | rfl)) : p := h
theorem yaj {p q : Prop} (hq : q) (h : p = q := by
  conv => lhs; simp only [r_g, Nat.reduceAdd, ↓reduceIte, Nat.reduceEqDiff, zb1, beq_self_eq_true, zcb, zb7, zay, za3, zav, za2, zeq, List.cons_append, List.nil_append, zbq, zar, sD, nmH, nmG, nmS, nmZ]) : p := h.mpr hq
theorem jio (b : List Int) (hb0 : zg6 b) (hl0 : b.length ≤ maxLen) (k0 k1 k2 k3 : Nat) (h0 : k0 < 256) (h1 : k1 < 256) (h2 : k2 < 256) (h3 : k3 < 256) : zbg Try.prog 7 [.agg [bytesD b], .agg [.val (.int .u8 k0), .val (.int .u8 k1), .val (.int .u8 k2), .val (.int .u8 k3)]] (.d (oD true)) := by
  refine za4 (fn := Try.f7) (by kernel_rfl) Try.func7 rfl (Nat.le_of_ble_eq_true rfl) fun c hc hp => ?_
  refine za9 (τ' := frL [(0, .d (.agg [bytesD b])), (1, .d (.agg [.val (.int .u8 k0), .val (.int .u8 k1), .val (.int .u8 k2), .val (.int .u8 k3)]))]) (by repeat (first | exact zas _ | refine zao ?_ (by first | rfl | (simp [r_f, zab, zac, za7, zbr, zbb, zbc]; done) | simp [r_f, zab, zac, za7, zbr, zbb, zbc, *]))) ?_
  refine szq hp (fun _ hZ => ze2 hZ) ?_
  refine zag hp zak hc rfl fun K2 hK2 => ?_
  refine jcp ?_
  refine zbp (zgn) rfl ?_
  refine jcp ?_
  refine hK2 _ _ ?_
  refine zaa fun K3 hK3 => ?_
  refine szq hp (fun _ hZ => ze2 hZ) ?_
  refine szf ?_
  refine zaj (hK3 _ _ ?_)
  refine zag hp zak hc rfl fun K5 hK5 => ?_
  refine ze2 ?_
  refine zx3 (zrm b hb0 hl0) rfl fun r hr => ?_
  obtain ⟨p, hp', rfl⟩ := hr
  refine ze2 ?_
  refine hK5 _ _ ?_
  have br := hp'.r3; have bt := hp'.t2; have bq := hp'.q2; have bm := hp'.m1
  refine szq hp (fun _ hZ => ze2 hZ) ?_
  refine szq hp (fun _ hZ => ze2 hZ) ?_
  refine szq hp (fun _ hZ => ze2 hZ) ?_
  refine szq hp (fun _ hZ => ze2 hZ) ?_
  refine szq hp (fun _ hZ => ze2 hZ) ?_
  refine szq hp (fun _ hZ => ze2 hZ) ?_
  refine szq hp (fun _ hZ => ze2 hZ) ?_
  refine zaa fun K13 hK13 => ?_
  refine zat hp (τ' := frL [(3, .op 0 0), (5, .d (oD true)), (6, .op 1 0), (7, .op 2 0)]) (H' := nmH k0 k1 k2 k3 p p.regs p.mems p.takes p.puts) ?_ ?_
  · refine jtk [1,2,3,5,7,9,11] ?_
    refine jiu ?_
    exact yai
  refine szq hp (fun _ hZ => jcp hZ) ?_
  refine zaf ?_
  refine zan hp (fun τ' H' mm => ∃ (i : Nat) (rs : List PReg), (i ≤ p.regs.length ∧ rs.length = p.regs.length ∧ rs.map jsf = p.regs.map jsf) ∧ mm = p.regs.length - i ∧ H' = nmH k0 k1 k2 k3 p rs p.mems p.takes p.puts ∧ τ' = frL [(3, .op 0 0), (5, .d (oD true)), (6, .op 1 0), (7, .op 2 0), (8, .d (iD i))]) (p.regs.length) ?_ ⟨0, p.regs, ⟨Nat.zero_le _, rfl, rfl⟩, rfl, rfl, rfl⟩ ?_
  · refine jiu ?_
    exact yai
  rintro τ' H' mm ⟨i, rs, ⟨hi, hrl, hrk⟩, rfl, rfl, rfl⟩
  refine zaa fun K15 hK15 => ?_
  refine szq hp (fun _ hZ => ze2 hZ) ?_
  refine zal rfl (fun ht => ?_) (fun ht => ?_)
  · have hlt : i < p.regs.length := by simp at ht; omega
    have hlt2 : i < rs.length := by omega
    have hnm := v_s (P := Try.prog) (t := 9) (hp'.rn i hlt)
    have hw := hp'.rw i hlt
    have hu : IntKind.u64.wrap ((nth p.regs i).w : Int) = (nth p.regs i).w := jpv (by omega) (by omega)
    have hs := jqa (w := (nth p.regs i).w) (by omega)
    have hm := zrj (v := k0) (w := (nth p.regs i).w) (by omega) (by omega)
    have hp0 := Nat.two_pow_pos (nth p.regs i).w
    have hp2 : 2 ^ (nth p.regs i).w ≤ 256 := Nat.le_trans (Nat.pow_le_pow_right (by decide) (show (nth p.regs i).w ≤ 8 by omega)) (show 2 ^ 8 ≤ 256 by decide)
    obtain ⟨M, hM⟩ : ∃ M : Nat, 2 ^ (nth p.regs i).w = M := ⟨_, rfl⟩
    rw [hM] at hs hm hp0 hp2
    have hk14 : (k1 : Int) % 4 = ((k1 % 4 : Nat) : Int) := by omega
    obtain ⟨rg, hrg⟩ : ∃ rg, rg = nmR (nth rs i) (⟨#[115]⟩ ++ (nth p.regs i).name) ((k0 % M : Nat) : Int) ((k1 % 4 : Nat) : Int) := ⟨_, rfl⟩
    have hset := zlh zrl rg [(0, sD (⟨#[115]⟩ ++ (nth p.regs i).name)), (2, iD ((k0 % M : Nat) : Int)), (10, iD ((k1 % 4 : Nat) : Int)), (11, sD ⟨#[]⟩), (12, iD 0)] hlt2 (by simp) (by rw [hrg]; exact yeq _ _ _ _)
    have hkey : (rs.set i rg).map jsf = p.regs.map jsf := (zdu (f := jsf) (a := rg) hlt2 (by rw [hrg]; rfl)).trans hrk
    refine zaj (hK15 _ _ ?_)
    refine zaa fun K17 hK17 => ?_
    refine zaf ?_
    refine za5 zak hc mixed rfl (q := 0) (by kernel_rfl) (by kernel_rfl) fun K18 hK18 => ?_
    simp -dsimp -implicitDefEqProofs (disch := first | assumption | omega | (simp only [r_z, zab, zac, za7, zbr, zbb, zbc] <;> omega) | decide) only [r_r, ↓reduceIte, Nat.reduceEqDiff, Nat.reduceAdd, D.fix, Int.reduceToNat, Nat.reduceMul, Nat.reduceBNe, Nat.reduceBEq, zb1, beq_self_eq_true, zcb, zb7, zay, za3, zav, za2, zeq, List.cons_append, List.nil_append, zbq, zar, sD, nmH, nmG, nmS, nmZ, yes, hnm, jie]
    refine hK18 _ _ ?_
    refine za5 zak hc mixed rfl (q := 0) (by kernel_rfl) (by kernel_rfl) fun K19 hK19 => ?_
    simp -dsimp -implicitDefEqProofs (disch := first | assumption | omega | (simp only [r_z, zab, zac, za7, zbr, zbb, zbc] <;> omega) | decide) only [r_r, ↓reduceIte, Nat.reduceEqDiff, Nat.reduceAdd, D.fix, Int.reduceToNat, Nat.reduceMul, Nat.reduceBNe, Nat.reduceBEq, zb1, beq_self_eq_true, zcb, zb7, zay, za3, zav, za2, zeq, List.cons_append, List.nil_append, zbq, zar, sD, nmH, nmG, nmS, nmZ, jr3, hu, hs, hm, jie]
    refine hK19 _ _ ?_
    refine szs hp (fun _ hZ => yah hk14 hZ) (hK17 _ _ ?_)
    refine za1 hp zak hc rfl fun K21 hK21 => ?_
    refine ze2 ?_
    refine hK21 _ _ ⟨_, _, _, ?_, ⟨i + 1, rs.set i rg, ⟨by omega, by simp [hrl], hkey⟩, rfl, rfl, rfl⟩, ?_⟩
    · first | omega | (simp only [List.length_cons]; omega) | (dsimp only; omega)
    · refine jtk [0,1,2,3,4,5,6] ?_
      refine jiu ?_
      refine yaj ?_; rw [← hset]; rfl
  · have hii : i = p.regs.length := by simp at ht; omega
    refine zau (hK13 _ _ ?_)
    refine zaa fun K22 hK22 => ?_
    refine szq hp (fun _ hZ => jcp hZ) ?_
    refine zaf ?_
    refine zan hp (fun τ' H' mm => ∃ (i : Nat) (ms : List PMem), (i ≤ p.mems.length ∧ ms.length = p.mems.length ∧ ms.map jsg = p.mems.map jsg) ∧ mm = p.mems.length - i ∧ H' = nmH k0 k1 k2 k3 p rs ms p.takes p.puts ∧ τ' = frL [(3, .op 0 0), (5, .d (oD true)), (6, .op 1 0), (7, .op 2 0), (9, .d (iD i))]) (p.mems.length) ?_ ⟨0, p.mems, ⟨Nat.zero_le _, rfl, rfl⟩, rfl, rfl, rfl⟩ ?_
    · refine jiu ?_
      exact yai
    rintro τ' H' mm ⟨i, ms, ⟨hi, hml, hmk⟩, rfl, rfl, rfl⟩
    refine zaa fun K24 hK24 => ?_
    refine szq hp (fun _ hZ => ze2 hZ) ?_
    refine zal rfl (fun ht => ?_) (fun ht => ?_)
    · have hlt : i < p.mems.length := by simp at ht; omega
      have hlt2 : i < ms.length := by omega
      have hnm := v_s (P := Try.prog) (t := 9) (hp'.mn i hlt)
      have hk24 : (k2 : Int) % 4 = ((k2 % 4 : Nat) : Int) := by omega
      obtain ⟨rg, hrg⟩ : ∃ rg, rg = nmM (nth ms i) (⟨#[115]⟩ ++ (nth p.mems i).name) ((k2 % 4 : Nat) : Int) := ⟨_, rfl⟩
      have hset := zlh zt7 rg [(0, sD (⟨#[115]⟩ ++ (nth p.mems i).name)), (24, iD ((k2 % 4 : Nat) : Int)), (25, sD ⟨#[]⟩), (26, iD 0)] hlt2 (by simp) (by rw [hrg]; exact yer _ _ _)
      have hkey : (ms.set i rg).map jsg = p.mems.map jsg := (zdu (f := jsg) (a := rg) hlt2 (by rw [hrg]; rfl)).trans hmk
      refine zaj (hK24 _ _ ?_)
      refine zaa fun K26 hK26 => ?_
      refine zaf ?_
      refine za5 zak hc mixed rfl (q := 0) (by kernel_rfl) (by kernel_rfl) fun K27 hK27 => ?_
      simp -dsimp -implicitDefEqProofs (disch := first | assumption | omega | (simp only [r_z, zab, zac, za7, zbr, zbb, zbc] <;> omega) | decide) only [r_r, ↓reduceIte, Nat.reduceEqDiff, Nat.reduceAdd, D.fix, Int.reduceToNat, Nat.reduceMul, Nat.reduceBNe, Nat.reduceBEq, zb1, beq_self_eq_true, zcb, zb7, zay, za3, zav, za2, zeq, List.cons_append, List.nil_append, zbq, zar, sD, nmH, nmG, nmS, nmZ, yeu, hnm, jie]
      refine hK27 _ _ ?_
      refine szs hp (fun _ hZ => yah hk24 hZ) (hK26 _ _ ?_)
      refine za1 hp zak hc rfl fun K29 hK29 => ?_
      refine ze2 ?_
      refine hK29 _ _ ⟨_, _, _, ?_, ⟨i + 1, ms.set i rg, ⟨by omega, by simp [hml], hkey⟩, rfl, rfl, rfl⟩, ?_⟩
      · first | omega | (simp only [List.length_cons]; omega) | (dsimp only; omega)
      · refine jtk [0,1,2,3,4,5,6] ?_
        refine jiu ?_
        refine yaj ?_; rw [← hset]; rfl
    · have hii2 : i = p.mems.length := by simp at ht; omega
      refine zau (hK22 _ _ ?_)
      refine zaa fun K30 hK30 => ?_
      refine szq hp (fun _ hZ => jcp hZ) ?_
      refine zaf ?_
      refine zan hp (fun τ' H' mm => ∃ (i : Nat) (ts : List PTake), (i ≤ p.takes.length ∧ ts.length = p.takes.length ∧ ts.map jsh = p.takes.map jsh) ∧ mm = p.takes.length - i ∧ H' = nmH k0 k1 k2 k3 p rs ms ts p.puts ∧ τ' = frL [(3, .op 0 0), (5, .d (oD true)), (6, .op 1 0), (7, .op 2 0), (10, .d (iD i))]) (p.takes.length) ?_ ⟨0, p.takes, ⟨Nat.zero_le _, rfl, rfl⟩, rfl, rfl, rfl⟩ ?_
      · refine jiu ?_
        exact yai
      rintro τ' H' mm ⟨i, ts, ⟨hi, htl, htk⟩, rfl, rfl, rfl⟩
      refine zaa fun K32 hK32 => ?_
      refine szq hp (fun _ hZ => ze2 hZ) ?_
      refine zal rfl (fun ht => ?_) (fun ht => ?_)
      · have hlt : i < p.takes.length := by simp at ht; omega
        have hlt2 : i < ts.length := by omega
        obtain ⟨rg, hrg⟩ : ∃ rg, rg = nmT (nth ts i) ((k3 : Int) + (i : Int)) := ⟨_, rfl⟩
        have hset := zlh zwa rg [(0, iD ((k3 : Int) + (i : Int)))] hlt2 (by simp) (by rw [hrg]; rfl)
        have hkey : (ts.set i rg).map jsh = p.takes.map jsh := (zdu (f := jsh) (a := rg) hlt2 (by rw [hrg]; rfl)).trans htk
        refine zaj (hK32 _ _ ?_)
        refine zaa fun K34 hK34 => ?_
        refine zaf ?_
        refine szs hp (fun _ hZ => ze2 hZ) (hK34 _ _ ?_)
        refine za1 hp zak hc rfl fun K36 hK36 => ?_
        refine ze2 ?_
        refine hK36 _ _ ⟨_, _, _, ?_, ⟨i + 1, ts.set i rg, ⟨by omega, by simp [htl], hkey⟩, rfl, rfl, rfl⟩, ?_⟩
        · first | omega | (simp only [List.length_cons]; omega) | (dsimp only; omega)
        · refine jtk [0,1,2,3,4,5,6] ?_
          refine jiu ?_
          refine yaj ?_; rw [← hset]; rfl
      · have hii3 : i = p.takes.length := by simp at ht; omega
        refine zau (hK30 _ _ ?_)
        refine zaa fun K37 hK37 => ?_
        refine szq hp (fun _ hZ => jcp hZ) ?_
        refine zaf ?_
        refine zan hp (fun τ' H' mm => ∃ (i : Nat) (qs : List PPut), (i ≤ p.puts.length ∧ qs.length = p.puts.length ∧ qs.map jsi = p.puts.map jsi) ∧ mm = p.puts.length - i ∧ H' = nmH k0 k1 k2 k3 p rs ms ts qs ∧ τ' = frL [(3, .op 0 0), (5, .d (oD true)), (6, .op 1 0), (7, .op 2 0), (11, .d (iD i))]) (p.puts.length) ?_ ⟨0, p.puts, ⟨Nat.zero_le _, rfl, rfl⟩, rfl, rfl, rfl⟩ ?_
        · refine jiu ?_
          exact yai
        rintro τ' H' mm ⟨i, qs, ⟨hi, hql, hqk⟩, rfl, rfl, rfl⟩
        refine zaa fun K39 hK39 => ?_
        refine szq hp (fun _ hZ => ze2 hZ) ?_
        refine zal rfl (fun ht => ?_) (fun ht => ?_)
        · have hlt : i < p.puts.length := by simp at ht; omega
          have hlt2 : i < qs.length := by omega
          obtain ⟨rg, hrg⟩ : ∃ rg, rg = nmQ (nth qs i) ((k3 : Int) + 2 + (i : Int)) := ⟨_, rfl⟩
          have hset := zlh zot rg [(0, iD ((k3 : Int) + 2 + (i : Int)))] hlt2 (by simp) (by rw [hrg]; rfl)
          have hkey : (qs.set i rg).map jsi = p.puts.map jsi := (zdu (f := jsi) (a := rg) hlt2 (by rw [hrg]; rfl)).trans hqk
          refine zaj (hK39 _ _ ?_)
          refine zaa fun K41 hK41 => ?_
          refine zaf ?_
          refine szs hp (fun _ hZ => ze2 hZ) (hK41 _ _ ?_)
          refine za1 hp zak hc rfl fun K43 hK43 => ?_
          refine ze2 ?_
          refine hK43 _ _ ⟨_, _, _, ?_, ⟨i + 1, qs.set i rg, ⟨by omega, by simp [hql], hkey⟩, rfl, rfl, rfl⟩, ?_⟩
          · first | omega | (simp only [List.length_cons]; omega) | (dsimp only; omega)
          · refine jtk [0,1,2,3,4,5,6] ?_
            refine jiu ?_
            refine yaj ?_; rw [← hset]; rfl
        · have hii4 : i = p.puts.length := by simp at ht; omega
          refine zau (hK37 _ _ ?_)
          refine zat hp (τ' := frL [(5, .d (oD true)), (6, .op 0 0), (7, .op 1 0)]) (H' := [.cells (avs (zar p)), .cells (avs (zar ⟨nmS, nmZ, rs, ms, ts, qs⟩))]) ?_ ?_
          · refine Rt.trans (Rt.fz (id := 3) (l := (rs.flatMap prC)) rfl) ?_
            refine Rt.trans (Rt.heap (H' := nmG k0 k1 k2 k3 p [.d (.fs (rs.flatMap prC) p.regs.length), .os 27 4 0 p.mems.length, .os 9 5 0 p.takes.length, .os 16 6 0 p.puts.length] [.dead, .cells (avs (ms.flatMap pmC)), .cells (avs (ts.flatMap ptC)), .cells (avs (qs.flatMap pqC))]) (by simp only [r_g, Nat.reduceAdd, ↓reduceIte, Nat.reduceEqDiff, zb1, beq_self_eq_true, zcb, zb7, zay, za3, zav, za2, zeq, List.cons_append, List.nil_append, zbq, zar, sD, nmH, nmG, nmS, nmZ, zbf, za7, zbr, zbb, zbc, hrl, hml, htl, hql]; first | done | rfl)) ?_
            refine Rt.trans (Rt.fz (id := 4) (l := (ms.flatMap pmC)) rfl) ?_
            refine Rt.trans (Rt.heap (H' := nmG k0 k1 k2 k3 p [.d (.fs (rs.flatMap prC) p.regs.length), .d (.fs (ms.flatMap pmC) p.mems.length), .os 9 5 0 p.takes.length, .os 16 6 0 p.puts.length] [.dead, .dead, .cells (avs (ts.flatMap ptC)), .cells (avs (qs.flatMap pqC))]) (by simp only [r_g, Nat.reduceAdd, ↓reduceIte, Nat.reduceEqDiff, zb1, beq_self_eq_true, zcb, zb7, zay, za3, zav, za2, zeq, List.cons_append, List.nil_append, zbq, zar, sD, nmH, nmG, nmS, nmZ, zbf, za7, zbr, zbb, zbc, hrl, hml, htl, hql]; first | done | rfl)) ?_
            refine Rt.trans (Rt.fz (id := 5) (l := (ts.flatMap ptC)) rfl) ?_
            refine Rt.trans (Rt.heap (H' := nmG k0 k1 k2 k3 p [.d (.fs (rs.flatMap prC) p.regs.length), .d (.fs (ms.flatMap pmC) p.mems.length), .d (.fs (ts.flatMap ptC) p.takes.length), .os 16 6 0 p.puts.length] [.dead, .dead, .dead, .cells (avs (qs.flatMap pqC))]) (by simp only [r_g, Nat.reduceAdd, ↓reduceIte, Nat.reduceEqDiff, zb1, beq_self_eq_true, zcb, zb7, zay, za3, zav, za2, zeq, List.cons_append, List.nil_append, zbq, zar, sD, nmH, nmG, nmS, nmZ, zbf, za7, zbr, zbb, zbc, hrl, hml, htl, hql]; first | done | rfl)) ?_
            refine Rt.trans (Rt.fz (id := 6) (l := (qs.flatMap pqC)) rfl) ?_
            refine Rt.trans (Rt.heap (H' := [.cells [.d (.val (.int .u8 k0)), .d (.val (.int .u8 k1)), .d (.val (.int .u8 k2)), .d (.val (.int .u8 k3))], .cells (avs (zar p)), .cells [.d (sD nmS), .d (sD nmZ), .d (.fs (rs.flatMap prC) p.regs.length), .d (.fs (ms.flatMap pmC) p.mems.length), .d (.fs (ts.flatMap ptC) p.takes.length), .d (.fs (qs.flatMap pqC) p.puts.length)], .dead, .dead, .dead, .dead]) (by simp only [r_g, Nat.reduceAdd, ↓reduceIte, Nat.reduceEqDiff, zb1, beq_self_eq_true, zcb, zb7, zay, za3, zav, za2, zeq, List.cons_append, List.nil_append, zbq, zar, sD, nmH, nmG, nmS, nmZ, zbf, za7, zbr, zbb, zbc, hrl, hml, htl, hql]; first | done | rfl)) ?_
            refine jtk [1,2] ?_
            refine jiu ?_
            refine yaj ?_; rw [hrl, hml, htl, hql]
          have hsm : SameP p ⟨nmS, nmZ, rs, ms, ts, qs⟩ := jsj hrk hmk htk hqk
          generalize (⟨nmS, nmZ, rs, ms, ts, qs⟩ : Pr) = q at *
          have c1 := zjn hp'
          have c2 : zbg Try.prog 30 [zbq q] (.d (.agg (zeq (ze4 p) 0))) := by
            have := zlf q (yep hsm hp'.ok) (by rw [zux hsm]; have := hp'.ins; omega) (by rw [jim hsm]; have := hp'.cost; omega) (by rw [hsm.ml]; omega) (by rw [zux hsm, jpb hsm]; have := jau hp'; omega)
            rwa [jpb hsm] at this
          have hv := jht hp'
          have hlen := hv.len; have hd0 := hv.d0; have hdl := hv.dl
          have hsame := jhu (ze4 p) (by omega) (by omega) (by omega) (by omega)
          refine za5 zak hc mixed rfl (q := 2) (by kernel_rfl) (by kernel_rfl) fun K44 hK44 => ?_
          refine ze2 ?_
          refine zbp (c1) rfl ?_
          refine ze2 ?_
          refine zbp (c2) rfl ?_
          refine ze2 ?_
          refine hK44 _ _ ?_
          refine zag hp zak hc rfl fun K45 hK45 => ?_
          refine ze2 ?_
          refine zbp (hsame) rfl ?_
          refine ze2 ?_
          refine hK45 _ _ ?_
          refine zam ?_
          show closeA _ _ = _
          simp (disch := first | assumption | omega | (simp only [r_z, zab, zac, za7, zbr, zbb, zbc] <;> omega) | decide) only [r_c, Nat.reduceAdd, D.fix, ↓reduceIte, Nat.reduceEqDiff, zb1, beq_self_eq_true, zcb, zb7, zay, za3, zav, za2, zeq, List.cons_append, List.nil_append, zbq, zar, sD, nmH, nmG, nmS, nmZ]
end Go.Proofs.Ytapjobndmmkanaa
