/- Of no program: a run that simp carries out, each step in its turn. -/
import Derived.Test.YtfpcailbobjfnaaAK
set_option linter.unusedVariables false
set_option linter.unusedSimpArgs false
namespace Go.Proofs.Ytfpcailbobjfnaa
open Go Go.RowKit
def optK {α : Type} (o : Option α) (K : α → Prop) : Prop := ∃ x, o = some x ∧ K x
theorem optK_congr {α : Type} {o o' : Option α} {K : α → Prop} (h : o = o') : optK o K = optK o' K := by rw [h]
theorem optK_some {α : Type} {x : α} {K : α → Prop} : optK (some x) K = K x := by simp [optK]
theorem optK_none {α : Type} {K : α → Prop} : optK none K = False := by simp [optK]
def GK (g : Option Bool) (A B : Prop) : Prop := match g with | some true => A | some false => B | none => False
theorem GK_congr {g g' : Option Bool} {A B : Prop} (h : g = g') : GK g A B = GK g' A B := by rw [h]
theorem GK_t {A B : Prop} : GK (some true) A B = A := rfl
theorem GK_f {A B : Prop} : GK (some false) A B = B := rfl
/-- What follows, hidden from simp until its turn comes. -/
inductive Tg.{u} {α : Sort u} (a : α) : Type where
  | mk
def tg.{u} {α : Sort u} (a : α) : Tg a := .mk
def oK {α : Type} {K : α → Prop} (o : Option α) (_ : Tg K) : Prop := optK o K
theorem oK_some {α : Type} {x : α} {K : α → Prop} : oK (some x) (tg K) = K x := optK_some
def gK {A B : Prop} (g : Option Bool) (_ : Tg A) (_ : Tg B) : Prop := GK g A B
theorem gK_t {A B : Prop} : gK (some true) (tg A) (tg B) = A := rfl
theorem gK_f {A B : Prop} : gK (some false) (tg A) (tg B) = B := rfl
theorem gK_b {A B : Prop} {b : Bool} (hA : b = true → A) (hB : b = false → B) : gK (some b) (tg A) (tg B) := by cases b <;> simp_all [gK, GK]
theorem GK_b {A B : Prop} {b : Bool} (hA : b = true → A) (hB : b = false → B) : GK (some b) A B := by cases b <;> simp_all [GK]
def KCall (P : Program) (N : Nat) (H : AHeap) (f : AV) (xs : List AV) (inl : Bool) (KK : AV → AHeap → Prop) : Prop :=
  (∃ x, CallQ P N H f xs x ∧ KK x H) ∨ inl = true ∧ ∃ n fi ca, calleeOf f = some (n, fi, ca) ∧ (IcK P n (fi ++ xs ++ ca) H KK ∨ ∃ ds Q, AV.toD.toDs (fi ++ xs ++ ca) = some ds ∧ RCalls P n ds Q ∧ ∀ x, Q x → KK x H)
theorem KCall_congr {P : Program} {N N' : Nat} {H H' : AHeap} {f f' : AV} {xs xs' : List AV} {inl : Bool} {KK : AV → AHeap → Prop} (h1 : N = N') (h2 : H = H') (h3 : f = f') (h4 : xs = xs') : KCall P N H f xs inl KK = KCall P N' H' f' xs' inl KK := by rw [h1, h2, h3, h4]
def kC {KK : AV → AHeap → Prop} (P : Program) (N : Nat) (H : AHeap) (f : AV) (xs : List AV) (inl : Bool) (_ : Tg KK) : Prop := KCall P N H f xs inl KK
def cT (P : Program) (KT : TypeId → Bool) (op : Op) (ρ : Operand → AV) (H : AHeap) (KK : AV → AHeap → Prop) : Prop :=
  match kOf [] op with
  | 0 => if isCallV op then (match op with
      | .call { callee := .value f, args := args, .. } => KCall P H.length H (ρ f) (args.toList.map ρ) true KK
      | _ => False) else optK (opF P H.length H KT ρ op) fun x => KK x H
  | 2 => (match op with
    | .store t p y => optK (storeF P t (ρ p) (ρ y) H [] 0) fun H' => KK (.d (.val undef)) H'
    | _ => False)
  | 4 => optK (mapF P KT ρ op H []) fun p => KK p.1 p.2
  | _ => optK (layF P H.length ρ op H) fun p => KK p.1 (deadH H p.2.2 ++ [p.2.1])
def sT (P : Program) (KT : TypeId → Bool) (ops : List Oper) : List Oper → Fr → AHeap → (Fr → AHeap → Prop) → Prop
  | [], τ, H, K => K τ H
  | o :: l, τ, H, K => GK (guardA ops τ o) (cT P KT o.op (evalA τ) H fun x H' => sT P KT ops l (τ.put o.dst x) H' K) (sT P KT ops l (τ.put o.dst (.d (.val undef))) H K)
def cE (P : Program) (KT : TypeId → Bool) (N r : Nat) (fresh : Bool) (m : List (Nat × Nat)) (o : Oper) (ρ : Operand → AV) (H : AHeap) (sh : List (Nat × Nat)) (KK : AV → AHeap → List (Nat × Nat) → Prop) : Prop :=
  match kOf [] o.op with
  | 0 => if isCallV o.op then (match o.op with
      | .call { callee := .value f, args := args, .. } => KCall P N H (ρ f) (args.toList.map ρ) false fun x _ => KK x H sh
      | _ => False) else optK (opF P N H KT ρ o.op) fun x => KK x H sh
  | 2 => (match o.op with
    | .store t p y => optK (storeF P t (ρ p) (ρ y) H sh (if fresh then N else 0)) fun H' => KK (.d (.val undef)) H' sh
    | _ => False)
  | 4 => optK (mapF P KT ρ o.op H sh) fun p => KK p.1 p.2 sh
  | _ => optK (layEF P N r (alsL m o.after.toList) ρ o.op H sh) fun p => KK p.1 p.2.1 p.2.2
def sE (P : Program) (KT : TypeId → Bool) (ops : List Oper) (N : Nat) : Nat → Nat → List (Nat × Nat) → List Oper → Fr → AHeap → List (Nat × Nat) → (Fr → AHeap → List (Nat × Nat) → Prop) → Prop
  | _, _, _, [], τ, H, sh, K => K τ H sh
  | i, r, m, o :: l, τ, H, sh, K => GK (guardA ops τ o)
      (cE P KT N r (freshSt ops o) m o (evalA τ) H sh fun x H' sh' => sE P KT ops N (i + 1) (if lays [] o then r + 1 else r) (if lays [] o then (i, r) :: m else m) l (τ.put o.dst x) H' sh' K)
      (sE P KT ops N (i + 1) (if lays [] o then r + 1 else r) (if lays [] o then (i, r) :: m else m) l (τ.put o.dst (.d (.val undef))) H sh K)
section
variable {P : Program} {KT : TypeId → Bool} {τ : Fr} {H : AHeap}
theorem optK_mono {α : Type} {o : Option α} {K K' : α → Prop} (hK : ∀ x, K x → K' x) (h : optK o K) : optK o K' := by
  obtain ⟨x, h1, h2⟩ := h; exact ⟨x, h1, hK x h2⟩
theorem KCall_mono {N : Nat} {f : AV} {xs : List AV} {inl : Bool} {K K' : AV → AHeap → Prop} (hK : ∀ x H', K x H' → K' x H') (h : KCall P N H f xs inl K) : KCall P N H f xs inl K' := by
  rcases h with ⟨x, h1, h2⟩ | ⟨h0, n, fi, ca, h1, h2⟩
  · exact .inl ⟨x, h1, hK _ _ h2⟩
  · refine .inr ⟨h0, n, fi, ca, h1, ?_⟩
    rcases h2 with h2 | ⟨ds, Q, h2, h3, h4⟩
    · exact .inl (h2.mono hK)
    · exact .inr ⟨ds, Q, h2, h3, fun x hx => hK _ _ (h4 x hx)⟩
theorem cT_mono {op : Op} {ρ : Operand → AV} {K K' : AV → AHeap → Prop} (hK : ∀ x H', K x H' → K' x H') (h : cT P KT op ρ H K) : cT P KT op ρ H K' := by
  unfold cT at h ⊢
  split at h
  · split at h
    · rename_i hc
      rw [if_pos hc]
      split at h
      · exact KCall_mono hK h
      · exact h.elim
    · rename_i hc
      rw [if_neg hc]
      exact optK_mono (fun x => hK x H) h
  · split at h
    · exact optK_mono (fun x => hK _ x) h
    · exact h.elim
  · exact optK_mono (fun p => hK p.1 p.2) h
  · exact optK_mono (fun p => hK p.1 _) h
theorem coreE_mono {N r : Nat} {fresh : Bool} {m : List (Nat × Nat)} {o : Oper} {sh : List (Nat × Nat)} {K K' : AV → AHeap → List (Nat × Nat) → Prop} (hK : ∀ x H' sh', K x H' sh' → K' x H' sh') (h : coreE P [] N r fresh m o τ H sh K) : coreE P [] N r fresh m o τ H sh K' := by
  unfold coreE at h ⊢
  split at h
  · obtain ⟨x, h1, h2⟩ := h; exact ⟨x, h1, hK _ _ _ h2⟩
  · obtain ⟨x, h1, h2⟩ := h; exact ⟨x, h1, hK _ _ _ h2⟩
  · obtain ⟨x, y, h1, h2⟩ := h; exact ⟨x, y, h1, hK _ _ _ h2⟩
  · obtain ⟨a1, a2, a3, x, H', sh', h1, h2⟩ := h; exact ⟨a1, a2, a3, x, H', sh', h1, hK _ _ _ h2⟩
end
section
variable {P : Program} {KT : TypeId → Bool} {c : Cx} {τ : Fr} {H : AHeap} {Q : Exit → Fr → AHeap → Prop} {ops : List Oper}
theorem GK_cases {g : Option Bool} {A B : Prop} (h : GK g A B) : ∃ b, g = some b ∧ (b = true → A) ∧ (b = false → B) := by
  unfold GK at h
  split at h
  · exact ⟨true, rfl, fun _ => h, fun e => by cases e⟩
  · exact ⟨false, rfl, (fun e => by cases e), fun _ => h⟩
  · exact h.elim
theorem cT_ok (hKT : ∀ k, KT k = true → Maps.Keyed P k) {o : Oper} {K : Fr → AHeap → Prop} (h : cT P KT o.op (evalA τ) H fun x H' => K (τ.put o.dst x) H') : coreT P [] o τ H K := by
  unfold cT at h
  unfold coreT
  split at h
  · rename_i hk
    simp only [hk]
    split at h
    · split at h
      · rename_i f args ts e
        rw [e]
        rcases h with ⟨x, hq, hx⟩ | ⟨_, n, fi, ca, hc, hq⟩
        · exact .inl ⟨x, hq, hx⟩
        · exact .inr ⟨n, fi, ca, hc, hq⟩
      · exact h.elim
    · obtain ⟨x, hx, hK⟩ := h
      exact .inl ⟨x, opF_ok hKT hx, hK⟩
  · rename_i hk
    simp only [hk]
    split at h
    · rename_i t p y e
      obtain ⟨H1, hH, hK⟩ := h
      rw [e]
      exact ⟨_, storeF_ok hH, hK⟩
    · exact h.elim
  · rename_i hk
    simp only [hk]
    obtain ⟨p, hp, hK⟩ := h
    exact ⟨p.1, p.2, mapF_ok hKT hp, hK⟩
  · rename_i hk0 hk2 hk4
    obtain ⟨⟨x, ob, dd⟩, hl, hK⟩ := h
    have hlay := layT_ok hl (K := fun x H' => K (τ.put o.dst x) H') hK
    rcases kOf_lay hk0 hk2 hk4 with hk | hk
    · simp only [hk]; exact hlay
    · simp only [hk]; exact hlay
theorem sT_ok (hKT : ∀ k, KT k = true → Maps.Keyed P k) {K : Fr → AHeap → Prop} : ∀ {os : List Oper} {τ : Fr} {H : AHeap}, sT P KT ops os τ H K → runT P [] ops os τ H K
  | [], _, _, h => h
  | o :: os, τ, H, h => by
    obtain ⟨b, hg, ht, hf⟩ := GK_cases h
    refine ⟨b, hg, fun e => cT_ok hKT ?_, fun e => sT_ok hKT (hf e)⟩
    have := ht e
    exact cT_mono (fun x H' hh => sT_ok hKT hh) this
theorem cE_ok (hKT : ∀ k, KT k = true → Maps.Keyed P k) {N r : Nat} {fresh : Bool} {m : List (Nat × Nat)} {o : Oper} {sh : List (Nat × Nat)} {K : AV → AHeap → List (Nat × Nat) → Prop} (h : cE P KT N r fresh m o (evalA τ) H sh K) : coreE P [] N r fresh m o τ H sh K := by
  unfold cE at h
  unfold coreE
  split at h
  · rename_i hk
    simp only [hk]
    split at h
    · split at h
      · rename_i f args ts e
        rw [e]
        rcases h with ⟨x, hq, hx⟩ | ⟨e, _⟩
        · exact ⟨x, hq, hx⟩
        · cases e
      · exact h.elim
    · obtain ⟨x, hx, hK⟩ := h
      exact ⟨x, opF_ok hKT hx, hK⟩
  · rename_i hk
    simp only [hk]
    split at h
    · rename_i t p y e
      obtain ⟨H1, hH, hK⟩ := h
      rw [e]
      exact ⟨_, storeF_ok hH, hK⟩
    · exact h.elim
  · rename_i hk
    simp only [hk]
    obtain ⟨p, hp, hK⟩ := h
    exact ⟨p.1, p.2, mapF_ok hKT hp, hK⟩
  · rename_i hk0 hk2 hk4
    obtain ⟨⟨x, H', sh'⟩, hl, hK⟩ := h
    have := layE_ok hl hK
    rcases kOf_lay hk0 hk2 hk4 with hk | hk
    · simp only [hk]; exact this
    · simp only [hk]; exact this
theorem sE_ok (hKT : ∀ k, KT k = true → Maps.Keyed P k) {N : Nat} {K : Fr → AHeap → List (Nat × Nat) → Prop} : ∀ {os : List Oper} {i r : Nat} {m : List (Nat × Nat)} {τ : Fr} {H : AHeap} {sh : List (Nat × Nat)}, sE P KT ops N i r m os τ H sh K → runE P [] ops N i r m os τ H sh K
  | [], _, _, _, _, _, _, h => h
  | o :: os, i, r, m, τ, H, sh, h => by
    obtain ⟨b, hg, ht, hf⟩ := GK_cases h
    exact ⟨b, hg, fun e => coreE_mono (fun x H' sh' hh => sE_ok hKT hh) (cE_ok hKT (ht e)), fun e => sE_ok hKT (hf e)⟩
theorem awp_seq_s (hKT : ∀ k, KT k = true → Maps.Keyed P k) {id : Nat} {l : List Oper} {y : Code} {n : Nat} (hn : c.nt = n) (hd : dstOk n l = true) (h : ∀ K : Fr → AHeap → Prop, (∀ τ H, AWp P c y Q τ H → K τ H) → sT P KT l l τ H K) : AWp P c (.seq (.region id l.toArray false) y) Q τ H :=
  awp_seq_r (fr := []) hn hd fun K hK => sT_ok hKT (h K hK)
theorem awp_s (hKT : ∀ k, KT k = true → Maps.Keyed P k) {id : Nat} {l : List Oper} {n : Nat} (hn : c.nt = n) (hd : dstOk n l = true) (h : ∀ K : Fr → AHeap → Prop, (∀ τ H, Q .normal τ H → K τ H) → sT P KT l l τ H K) : AWp P c (.region id l.toArray false) Q τ H :=
  awp_r (fr := []) hn hd fun K hK => sT_ok hKT (h K hK)
theorem awp_seq_se (hKT : ∀ k, KT k = true → Maps.Keyed P k) {id : Nat} {l : List Oper} {y : Code} {n : Nat} (hn : c.nt = n) (hm : P.follows .mixedOrders = true) (hd : dstOk n l = true) {q : Nat} (hq : l.countP (lays []) = q) (hB : lexC [] l l.length 0 (Array.replicate l.length false) = true)
    (h : ∀ K : Fr → AHeap → Prop, (∀ τ H, AWp P c y Q τ H → K τ H) → sE P KT l H.length 0 0 [] l τ (H ++ List.replicate q .free) [] fun τ' H' sh' => K τ' (killAll sh' H')) : AWp P c (.seq (.region id l.toArray true) y) Q τ H :=
  awp_seq_e (fr := []) hn hm hd hq hB fun K hK => sE_ok hKT (h K hK)
theorem awp_se (hKT : ∀ k, KT k = true → Maps.Keyed P k) {id : Nat} {l : List Oper} {n : Nat} (hn : c.nt = n) (hm : P.follows .mixedOrders = true) (hd : dstOk n l = true) {q : Nat} (hq : l.countP (lays []) = q) (hB : lexC [] l l.length 0 (Array.replicate l.length false) = true)
    (h : ∀ K : Fr → AHeap → Prop, (∀ τ H, Q .normal τ H → K τ H) → sE P KT l H.length 0 0 [] l τ (H ++ List.replicate q .free) [] fun τ' H' sh' => K τ' (killAll sh' H')) : AWp P c (.region id l.toArray true) Q τ H :=
  awp_e (fr := []) hn hm hd hq hB fun K hK => sE_ok hKT (h K hK)
end
section
variable {P : Program} {KT : TypeId → Bool} {ops l : List Oper} {τ : Fr} {H : AHeap} {sh : List (Nat × Nat)} {N i r : Nat} {m : List (Nat × Nat)} {d : Option Tmp} {op : Op} {ty : TypeId} {pos : String} {af : Array Edge} {K : Fr → AHeap → Prop} {KD : Fr → AHeap → List (Nat × Nat) → Prop}
theorem sT_congr {os : List Oper} {τ' : Fr} {H' : AHeap} (h1 : τ = τ') (h2 : H = H') : sT P KT ops os τ H K = sT P KT ops os τ' H' K := by rw [h1, h2]
theorem sE_congr {os : List Oper} {τ' : Fr} {H' : AHeap} {sh' : List (Nat × Nat)} {N' i' r' : Nat} {m' : List (Nat × Nat)} (h0 : N = N') (h01 : i = i') (h02 : r = r') (h03 : m = m') (h1 : τ = τ') (h2 : H = H') (h3 : sh = sh') : sE P KT ops N i r m os τ H sh KD = sE P KT ops N' i' r' m' os τ' H' sh' KD := by rw [h0, h01, h02, h03, h1, h2, h3]
theorem guardA_congr {o : Oper} {τ' : Fr} (h1 : τ = τ') : guardA ops τ o = guardA ops τ' o := by rw [h1]
theorem sT_nil : sT P KT ops [] τ H K = K τ H := rfl
theorem sE_nil : sE P KT ops N i r m [] τ H sh KD = KD τ H sh := rfl
theorem sT_g {j : Nat} {want : Bool} : sT P KT ops (⟨d, op, ty, pos, af, some (j, want)⟩ :: l) τ H K = gK (guardA ops τ ⟨d, op, ty, pos, af, some (j, want)⟩) (tg (sT P KT ops (⟨d, op, ty, pos, af, none⟩ :: l) τ H K)) (tg (sT P KT ops l (τ.put d (.d (.val undef))) H K)) := rfl
theorem sT_move {y : Operand} : sT P KT ops (⟨d, .move y, ty, pos, af, none⟩ :: l) τ H K = (sT P KT ops l (τ.put d (evalA τ y)) H K) := by simp [sT, sE, guardA, GK, cT, cE, kOf, isCallV, opF, optK_some, lays]
theorem sE_move {y : Operand} : sE P KT ops N i r m (⟨d, .move y, ty, pos, af, none⟩ :: l) τ H sh KD = (sE P KT ops N (i + 1) r m l (τ.put d (evalA τ y)) H sh KD) := by simp [sT, sE, guardA, GK, cT, cE, kOf, isCallV, opF, optK_some, lays]
theorem sT_assign {y : Operand} : sT P KT ops (⟨d, .assign y, ty, pos, af, none⟩ :: l) τ H K = (sT P KT ops l (τ.put d (evalA τ y)) H K) := by simp [sT, sE, guardA, GK, cT, cE, kOf, isCallV, opF, optK_some, lays]
theorem sE_assign {y : Operand} : sE P KT ops N i r m (⟨d, .assign y, ty, pos, af, none⟩ :: l) τ H sh KD = (sE P KT ops N (i + 1) r m l (τ.put d (evalA τ y)) H sh KD) := by simp [sT, sE, guardA, GK, cT, cE, kOf, isCallV, opF, optK_some, lays]
theorem sT_pick {c a b : Operand} : sT P KT ops (⟨d, .pick c a b, ty, pos, af, none⟩ :: l) τ H K = (oK (match evalA τ c with | .d (.val (.bool t)) => some (if t then evalA τ a else evalA τ b) | _ => none) <| tg fun x => sT P KT ops l (τ.put d x) H K) := rfl
theorem sE_pick {c a b : Operand} : sE P KT ops N i r m (⟨d, .pick c a b, ty, pos, af, none⟩ :: l) τ H sh KD = (oK (match evalA τ c with | .d (.val (.bool t)) => some (if t then evalA τ a else evalA τ b) | _ => none) <| tg fun x => sE P KT ops N (i + 1) r m l (τ.put d x) H sh KD) := rfl
theorem sT_load {t : TypeId} {y : Operand} : sT P KT ops (⟨d, .load t y, ty, pos, af, none⟩ :: l) τ H K = (oK (loadF P H.length H t (evalA τ y)) <| tg fun x => sT P KT ops l (τ.put d x) H K) := rfl
theorem sE_load {t : TypeId} {y : Operand} : sE P KT ops N i r m (⟨d, .load t y, ty, pos, af, none⟩ :: l) τ H sh KD = (oK (loadF P N H t (evalA τ y)) <| tg fun x => sE P KT ops N (i + 1) r m l (τ.put d x) H sh KD) := rfl
theorem sT_fa {t : TypeId} {y : Operand} {f : Nat} : sT P KT ops (⟨d, .fieldAddr t y f, ty, pos, af, none⟩ :: l) τ H K = (oK (fieldAddrF P t f (evalA τ y)) <| tg fun x => sT P KT ops l (τ.put d x) H K) := rfl
theorem sE_fa {t : TypeId} {y : Operand} {f : Nat} : sE P KT ops N i r m (⟨d, .fieldAddr t y f, ty, pos, af, none⟩ :: l) τ H sh KD = (oK (fieldAddrF P t f (evalA τ y)) <| tg fun x => sE P KT ops N (i + 1) r m l (τ.put d x) H sh KD) := rfl
theorem sT_field {t : TypeId} {y : Operand} {f : Nat} : sT P KT ops (⟨d, .field t y f, ty, pos, af, none⟩ :: l) τ H K = (oK (fieldF P t f (evalA τ y)) <| tg fun x => sT P KT ops l (τ.put d x) H K) := rfl
theorem sE_field {t : TypeId} {y : Operand} {f : Nat} : sE P KT ops N i r m (⟨d, .field t y f, ty, pos, af, none⟩ :: l) τ H sh KD = (oK (fieldF P t f (evalA τ y)) <| tg fun x => sE P KT ops N (i + 1) r m l (τ.put d x) H sh KD) := rfl
theorem sT_ia {t : TypeId} {y z : Operand} : sT P KT ops (⟨d, .indexAddr t y z, ty, pos, af, none⟩ :: l) τ H K = (oK (indexAddrF P t (evalA τ y) (evalA τ z)) <| tg fun x => sT P KT ops l (τ.put d x) H K) := rfl
theorem sE_ia {t : TypeId} {y z : Operand} : sE P KT ops N i r m (⟨d, .indexAddr t y z, ty, pos, af, none⟩ :: l) τ H sh KD = (oK (indexAddrF P t (evalA τ y) (evalA τ z)) <| tg fun x => sE P KT ops N (i + 1) r m l (τ.put d x) H sh KD) := rfl
theorem sT_index {t : TypeId} {y z : Operand} : sT P KT ops (⟨d, .index t y z, ty, pos, af, none⟩ :: l) τ H K = (oK (indexF P t (evalA τ y) (evalA τ z)) <| tg fun x => sT P KT ops l (τ.put d x) H K) := rfl
theorem sE_index {t : TypeId} {y z : Operand} : sE P KT ops N i r m (⟨d, .index t y z, ty, pos, af, none⟩ :: l) τ H sh KD = (oK (indexF P t (evalA τ y) (evalA τ z)) <| tg fun x => sE P KT ops N (i + 1) r m l (τ.put d x) H sh KD) := rfl
theorem sT_slice {t : TypeId} {y : Operand} {lo hi : Option Operand} : sT P KT ops (⟨d, .slice t y lo hi none, ty, pos, af, none⟩ :: l) τ H K = (oK (sliceF P H.length H t (evalA τ y) (lo.map (evalA τ)) (hi.map (evalA τ))) <| tg fun x => sT P KT ops l (τ.put d x) H K) := rfl
theorem sE_slice {t : TypeId} {y : Operand} {lo hi : Option Operand} : sE P KT ops N i r m (⟨d, .slice t y lo hi none, ty, pos, af, none⟩ :: l) τ H sh KD = (oK (sliceF P N H t (evalA τ y) (lo.map (evalA τ)) (hi.map (evalA τ))) <| tg fun x => sE P KT ops N (i + 1) r m l (τ.put d x) H sh KD) := rfl
theorem sT_bin {op : BinOp} {t t' : TypeId} {y z : Operand} : sT P KT ops (⟨d, .binOp op t y z t', ty, pos, af, none⟩ :: l) τ H K = (oK (binF P op t (evalA τ y) (evalA τ z)) <| tg fun x => sT P KT ops l (τ.put d x) H K) := rfl
theorem sE_bin {op : BinOp} {t t' : TypeId} {y z : Operand} : sE P KT ops N i r m (⟨d, .binOp op t y z t', ty, pos, af, none⟩ :: l) τ H sh KD = (oK (binF P op t (evalA τ y) (evalA τ z)) <| tg fun x => sE P KT ops N (i + 1) r m l (τ.put d x) H sh KD) := rfl
theorem sT_un {op : UnOp} {t : TypeId} {y : Operand} : sT P KT ops (⟨d, .unOp op t y, ty, pos, af, none⟩ :: l) τ H K = (oK (unF op (evalA τ y)) <| tg fun x => sT P KT ops l (τ.put d x) H K) := rfl
theorem sE_un {op : UnOp} {t : TypeId} {y : Operand} : sE P KT ops N i r m (⟨d, .unOp op t y, ty, pos, af, none⟩ :: l) τ H sh KD = (oK (unF op (evalA τ y)) <| tg fun x => sE P KT ops N (i + 1) r m l (τ.put d x) H sh KD) := rfl
theorem sT_conv {s t : TypeId} {y : Operand} : sT P KT ops (⟨d, .convert s t y, ty, pos, af, none⟩ :: l) τ H K = (oK (convF P s t (evalA τ y)) <| tg fun x => sT P KT ops l (τ.put d x) H K) := rfl
theorem sE_conv {s t : TypeId} {y : Operand} : sE P KT ops N i r m (⟨d, .convert s t y, ty, pos, af, none⟩ :: l) τ H sh KD = (oK (convF P s t (evalA τ y)) <| tg fun x => sE P KT ops N (i + 1) r m l (τ.put d x) H sh KD) := rfl
theorem sT_build {t : TypeId} {ps : Array (Nat × Operand)} : sT P KT ops (⟨d, .build t ps, ty, pos, af, none⟩ :: l) τ H K = (oK (buildF P t (ps.toList.map fun p => (p.1, evalA τ p.2))) <| tg fun x => sT P KT ops l (τ.put d x) H K) := rfl
theorem sE_build {t : TypeId} {ps : Array (Nat × Operand)} : sE P KT ops N i r m (⟨d, .build t ps, ty, pos, af, none⟩ :: l) τ H sh KD = (oK (buildF P t (ps.toList.map fun p => (p.1, evalA τ p.2))) <| tg fun x => sE P KT ops N (i + 1) r m l (τ.put d x) H sh KD) := rfl
theorem sT_extract {y : Operand} {ix : Nat} : sT P KT ops (⟨d, .extract y ix, ty, pos, af, none⟩ :: l) τ H K = (oK (match evalA τ y with | .tup vs => vs[ix]? | _ => none) <| tg fun x => sT P KT ops l (τ.put d x) H K) := rfl
theorem sE_extract {y : Operand} {ix : Nat} : sE P KT ops N i r m (⟨d, .extract y ix, ty, pos, af, none⟩ :: l) τ H sh KD = (oK (match evalA τ y with | .tup vs => vs[ix]? | _ => none) <| tg fun x => sE P KT ops N (i + 1) r m l (τ.put d x) H sh KD) := rfl
theorem sT_nilc {y : Operand} : sT P KT ops (⟨d, .nilCheck y, ty, pos, af, none⟩ :: l) τ H K = (oK (if nilOk (evalA τ y) then some (evalA τ y) else none) <| tg fun x => sT P KT ops l (τ.put d x) H K) := rfl
theorem sE_nilc {y : Operand} : sE P KT ops N i r m (⟨d, .nilCheck y, ty, pos, af, none⟩ :: l) τ H sh KD = (oK (if nilOk (evalA τ y) then some (evalA τ y) else none) <| tg fun x => sE P KT ops N (i + 1) r m l (τ.put d x) H sh KD) := rfl
theorem sT_lookup {t : TypeId} {y z : Operand} {ok : Bool} : sT P KT ops (⟨d, .lookup t y z ok, ty, pos, af, none⟩ :: l) τ H K = (oK (lookupF P H.length H KT t (evalA τ y) (evalA τ z) ok) <| tg fun x => sT P KT ops l (τ.put d x) H K) := rfl
theorem sE_lookup {t : TypeId} {y z : Operand} {ok : Bool} : sE P KT ops N i r m (⟨d, .lookup t y z ok, ty, pos, af, none⟩ :: l) τ H sh KD = (oK (lookupF P N H KT t (evalA τ y) (evalA τ z) ok) <| tg fun x => sE P KT ops N (i + 1) r m l (τ.put d x) H sh KD) := rfl
theorem sT_mf {fn : Fn} {fi ca : Array Operand} : sT P KT ops (⟨d, .makeFunc fn fi ca, ty, pos, af, none⟩ :: l) τ H K = (sT P KT ops l (τ.put d (.clo fn (fi.toList.map (evalA τ)) (ca.toList.map (evalA τ)))) H K) := by simp [sT, sE, guardA, GK, cT, cE, kOf, isCallV, opF, optK_some, lays]
theorem sE_mf {fn : Fn} {fi ca : Array Operand} : sE P KT ops N i r m (⟨d, .makeFunc fn fi ca, ty, pos, af, none⟩ :: l) τ H sh KD = (sE P KT ops N (i + 1) r m l (τ.put d (.clo fn (fi.toList.map (evalA τ)) (ca.toList.map (evalA τ)))) H sh KD) := by simp [sT, sE, guardA, GK, cT, cE, kOf, isCallV, opF, optK_some, lays]
theorem sT_len {args : Array Operand} {ts : Array TypeId} : sT P KT ops (⟨d, .call ⟨.builtin .len, args, ts⟩, ty, pos, af, none⟩ :: l) τ H K = (oK (builtinF P .len ts.toList (args.toList.map (evalA τ))) <| tg fun x => sT P KT ops l (τ.put d x) H K) := rfl
theorem sE_len {args : Array Operand} {ts : Array TypeId} : sE P KT ops N i r m (⟨d, .call ⟨.builtin .len, args, ts⟩, ty, pos, af, none⟩ :: l) τ H sh KD = (oK (builtinF P .len ts.toList (args.toList.map (evalA τ))) <| tg fun x => sE P KT ops N (i + 1) r m l (τ.put d x) H sh KD) := rfl
theorem sT_max {args : Array Operand} {ts : Array TypeId} : sT P KT ops (⟨d, .call ⟨.builtin .max, args, ts⟩, ty, pos, af, none⟩ :: l) τ H K = (oK (builtinF P .max ts.toList (args.toList.map (evalA τ))) <| tg fun x => sT P KT ops l (τ.put d x) H K) := rfl
theorem sE_max {args : Array Operand} {ts : Array TypeId} : sE P KT ops N i r m (⟨d, .call ⟨.builtin .max, args, ts⟩, ty, pos, af, none⟩ :: l) τ H sh KD = (oK (builtinF P .max ts.toList (args.toList.map (evalA τ))) <| tg fun x => sE P KT ops N (i + 1) r m l (τ.put d x) H sh KD) := rfl
theorem sT_min {args : Array Operand} {ts : Array TypeId} : sT P KT ops (⟨d, .call ⟨.builtin .min, args, ts⟩, ty, pos, af, none⟩ :: l) τ H K = (oK (builtinF P .min ts.toList (args.toList.map (evalA τ))) <| tg fun x => sT P KT ops l (τ.put d x) H K) := rfl
theorem sE_min {args : Array Operand} {ts : Array TypeId} : sE P KT ops N i r m (⟨d, .call ⟨.builtin .min, args, ts⟩, ty, pos, af, none⟩ :: l) τ H sh KD = (oK (builtinF P .min ts.toList (args.toList.map (evalA τ))) <| tg fun x => sE P KT ops N (i + 1) r m l (τ.put d x) H sh KD) := rfl
theorem sT_call0 {f : FuncId} {args : Array Operand} {ts : Array TypeId} : sT P KT ops (⟨d, .call ⟨.value (.func f), args, ts⟩, ty, pos, af, none⟩ :: l) τ H K = (kC P H.length H ((evalA τ (.func f))) (args.toList.map (evalA τ)) true <| tg fun x H' => sT P KT ops l (τ.put d x) H' K) := rfl
theorem sE_call0 {f : FuncId} {args : Array Operand} {ts : Array TypeId} : sE P KT ops N i r m (⟨d, .call ⟨.value (.func f), args, ts⟩, ty, pos, af, none⟩ :: l) τ H sh KD = (kC P N H ((evalA τ (.func f))) (args.toList.map (evalA τ)) false <| tg fun x _ => sE P KT ops N (i + 1) r m l (τ.put d x) H sh KD) := rfl
theorem sT_callt {f : Nat} {args : Array Operand} {ts : Array TypeId} : sT P KT ops (⟨d, .call ⟨.value (.tmp f), args, ts⟩, ty, pos, af, none⟩ :: l) τ H K = (kC P H.length H ((evalA τ (.tmp f))) (args.toList.map (evalA τ)) true <| tg fun x H' => sT P KT ops l (τ.put d x) H' K) := rfl
theorem sE_callt {f : Nat} {args : Array Operand} {ts : Array TypeId} : sE P KT ops N i r m (⟨d, .call ⟨.value (.tmp f), args, ts⟩, ty, pos, af, none⟩ :: l) τ H sh KD = (kC P N H ((evalA τ (.tmp f))) (args.toList.map (evalA τ)) false <| tg fun x _ => sE P KT ops N (i + 1) r m l (τ.put d x) H sh KD) := rfl
theorem sT_box {t : TypeId} {y : Operand} : sT P KT ops (⟨d, .box t y, ty, pos, af, none⟩ :: l) τ H K = (oK (layF P H.length (evalA τ) (.box t y) H) <| tg fun p => sT P KT ops l (τ.put d p.1) (deadH H p.2.2 ++ [p.2.1]) K) := rfl
theorem sE_box {t : TypeId} {y : Operand} : sE P KT ops N i r m (⟨d, .box t y, ty, pos, af, none⟩ :: l) τ H sh KD = (oK (layEF P N r (alsL m af.toList) (evalA τ) (.box t y) H sh) <| tg fun p => sE P KT ops N (i + 1) (r + 1) ((i, r) :: m) l (τ.put d p.1) p.2.1 p.2.2 KD) := rfl
theorem sT_alloc {t : TypeId} : sT P KT ops (⟨d, .alloc t, ty, pos, af, none⟩ :: l) τ H K = (oK (layF P H.length (evalA τ) (.alloc t) H) <| tg fun p => sT P KT ops l (τ.put d p.1) (deadH H p.2.2 ++ [p.2.1]) K) := rfl
theorem sE_alloc {t : TypeId} : sE P KT ops N i r m (⟨d, .alloc t, ty, pos, af, none⟩ :: l) τ H sh KD = (oK (layEF P N r (alsL m af.toList) (evalA τ) (.alloc t) H sh) <| tg fun p => sE P KT ops N (i + 1) (r + 1) ((i, r) :: m) l (τ.put d p.1) p.2.1 p.2.2 KD) := rfl
theorem sT_make {t : TypeId} {y z : Operand} : sT P KT ops (⟨d, .makeSlice t y z, ty, pos, af, none⟩ :: l) τ H K = (oK (layF P H.length (evalA τ) (.makeSlice t y z) H) <| tg fun p => sT P KT ops l (τ.put d p.1) (deadH H p.2.2 ++ [p.2.1]) K) := rfl
theorem sE_make {t : TypeId} {y z : Operand} : sE P KT ops N i r m (⟨d, .makeSlice t y z, ty, pos, af, none⟩ :: l) τ H sh KD = (oK (layEF P N r (alsL m af.toList) (evalA τ) (.makeSlice t y z) H sh) <| tg fun p => sE P KT ops N (i + 1) (r + 1) ((i, r) :: m) l (τ.put d p.1) p.2.1 p.2.2 KD) := rfl
theorem sT_bs {t : TypeId} {n : Nat} {ps : Array (Nat × Operand)} : sT P KT ops (⟨d, .buildSlice t n ps, ty, pos, af, none⟩ :: l) τ H K = (oK (layF P H.length (evalA τ) (.buildSlice t n ps) H) <| tg fun p => sT P KT ops l (τ.put d p.1) (deadH H p.2.2 ++ [p.2.1]) K) := rfl
theorem sE_bs {t : TypeId} {n : Nat} {ps : Array (Nat × Operand)} : sE P KT ops N i r m (⟨d, .buildSlice t n ps, ty, pos, af, none⟩ :: l) τ H sh KD = (oK (layEF P N r (alsL m af.toList) (evalA τ) (.buildSlice t n ps) H sh) <| tg fun p => sE P KT ops N (i + 1) (r + 1) ((i, r) :: m) l (τ.put d p.1) p.2.1 p.2.2 KD) := rfl
theorem sT_app {args : Array Operand} {ts : Array TypeId} : sT P KT ops (⟨d, .call ⟨.builtin .append, args, ts⟩, ty, pos, af, none⟩ :: l) τ H K = (oK (layF P H.length (evalA τ) (.call ⟨.builtin .append, args, ts⟩) H) <| tg fun p => sT P KT ops l (τ.put d p.1) (deadH H p.2.2 ++ [p.2.1]) K) := rfl
theorem sE_app {args : Array Operand} {ts : Array TypeId} : sE P KT ops N i r m (⟨d, .call ⟨.builtin .append, args, ts⟩, ty, pos, af, none⟩ :: l) τ H sh KD = (oK (layEF P N r (alsL m af.toList) (evalA τ) (.call ⟨.builtin .append, args, ts⟩) H sh) <| tg fun p => sE P KT ops N (i + 1) (r + 1) ((i, r) :: m) l (τ.put d p.1) p.2.1 p.2.2 KD) := rfl
theorem sT_mm {t : TypeId} {y : Option Operand} : sT P KT ops (⟨d, .makeMap t y, ty, pos, af, none⟩ :: l) τ H K = (oK (layF P H.length (evalA τ) (.makeMap t y) H) <| tg fun p => sT P KT ops l (τ.put d p.1) (deadH H p.2.2 ++ [p.2.1]) K) := rfl
theorem sE_mm {t : TypeId} {y : Option Operand} : sE P KT ops N i r m (⟨d, .makeMap t y, ty, pos, af, none⟩ :: l) τ H sh KD = (oK (layEF P N r (alsL m af.toList) (evalA τ) (.makeMap t y) H sh) <| tg fun p => sE P KT ops N (i + 1) (r + 1) ((i, r) :: m) l (τ.put d p.1) p.2.1 p.2.2 KD) := rfl
theorem sT_store {t : TypeId} {y z : Operand} : sT P KT ops (⟨d, .store t y z, ty, pos, af, none⟩ :: l) τ H K = (oK (storeF P t (evalA τ y) (evalA τ z) H [] 0) <| tg fun H' => sT P KT ops l (τ.put d (.d (.val undef))) H' K) := rfl
theorem sE_store {t : TypeId} {y z : Operand} : sE P KT ops N i r m (⟨d, .store t y z, ty, pos, af, none⟩ :: l) τ H sh KD = (oK (storeF P t (evalA τ y) (evalA τ z) H sh (if freshSt ops ⟨d, .store t y z, ty, pos, af, none⟩ then N else 0)) <| tg fun H' => sE P KT ops N (i + 1) r m l (τ.put d (.d (.val undef))) H' sh KD) := rfl
theorem sT_mu {t : TypeId} {y z u : Operand} : sT P KT ops (⟨d, .mapUpdate t y z u, ty, pos, af, none⟩ :: l) τ H K = (oK (mapF P KT (evalA τ) (.mapUpdate t y z u) H []) <| tg fun p => sT P KT ops l (τ.put d p.1) p.2 K) := rfl
theorem sE_mu {t : TypeId} {y z u : Operand} : sE P KT ops N i r m (⟨d, .mapUpdate t y z u, ty, pos, af, none⟩ :: l) τ H sh KD = (oK (mapF P KT (evalA τ) (.mapUpdate t y z u) H sh) <| tg fun p => sE P KT ops N (i + 1) r m l (τ.put d p.1) p.2 sh KD) := rfl
theorem sT_ins {t : TypeId} {y z u : Operand} : sT P KT ops (⟨d, .insert t y z u, ty, pos, af, none⟩ :: l) τ H K = (oK (mapF P KT (evalA τ) (.insert t y z u) H []) <| tg fun p => sT P KT ops l (τ.put d p.1) p.2 K) := rfl
theorem sE_ins {t : TypeId} {y z u : Operand} : sE P KT ops N i r m (⟨d, .insert t y z u, ty, pos, af, none⟩ :: l) τ H sh KD = (oK (mapF P KT (evalA τ) (.insert t y z u) H sh) <| tg fun p => sE P KT ops N (i + 1) r m l (τ.put d p.1) p.2 sh KD) := rfl
theorem sT_me {t : TypeId} {y z : Operand} : sT P KT ops (⟨d, .mapEntry t y z, ty, pos, af, none⟩ :: l) τ H K = (oK (mapF P KT (evalA τ) (.mapEntry t y z) H []) <| tg fun p => sT P KT ops l (τ.put d p.1) p.2 K) := rfl
theorem sE_me {t : TypeId} {y z : Operand} : sE P KT ops N i r m (⟨d, .mapEntry t y z, ty, pos, af, none⟩ :: l) τ H sh KD = (oK (mapF P KT (evalA τ) (.mapEntry t y z) H sh) <| tg fun p => sE P KT ops N (i + 1) r m l (τ.put d p.1) p.2 sh KD) := rfl
theorem sT_es {t : TypeId} {y z u : Operand} : sT P KT ops (⟨d, .entryStore t y z u, ty, pos, af, none⟩ :: l) τ H K = (oK (mapF P KT (evalA τ) (.entryStore t y z u) H []) <| tg fun p => sT P KT ops l (τ.put d p.1) p.2 K) := rfl
theorem sE_es {t : TypeId} {y z u : Operand} : sE P KT ops N i r m (⟨d, .entryStore t y z u, ty, pos, af, none⟩ :: l) τ H sh KD = (oK (mapF P KT (evalA τ) (.entryStore t y z u) H sh) <| tg fun p => sE P KT ops N (i + 1) r m l (τ.put d p.1) p.2 sh KD) := rfl
theorem sE_g {j : Nat} {want : Bool} (hl : lays [] ⟨d, op, ty, pos, af, none⟩ = false) : sE P KT ops N i r m (⟨d, op, ty, pos, af, some (j, want)⟩ :: l) τ H sh KD = gK (guardA ops τ ⟨d, op, ty, pos, af, some (j, want)⟩) (tg (sE P KT ops N i r m (⟨d, op, ty, pos, af, none⟩ :: l) τ H sh KD)) (tg (sE P KT ops N (i + 1) r m l (τ.put d (.d (.val undef))) H sh KD)) := by
  have h1 : lays [] ⟨d, op, ty, pos, af, some (j, want)⟩ = false := hl
  have h2 : freshSt ops ⟨d, op, ty, pos, af, some (j, want)⟩ = freshSt ops ⟨d, op, ty, pos, af, none⟩ := rfl
  show _ = GK _ _ _
  simp only [sE, h1, hl, h2, Bool.false_eq_true, if_false]; rfl
theorem sE_gl {j : Nat} {want : Bool} (hl : lays [] ⟨d, op, ty, pos, af, none⟩ = true) : sE P KT ops N i r m (⟨d, op, ty, pos, af, some (j, want)⟩ :: l) τ H sh KD = gK (guardA ops τ ⟨d, op, ty, pos, af, some (j, want)⟩) (tg (sE P KT ops N i r m (⟨d, op, ty, pos, af, none⟩ :: l) τ H sh KD)) (tg (sE P KT ops N (i + 1) (r + 1) ((i, r) :: m) l (τ.put d (.d (.val undef))) H sh KD)) := by
  have h1 : lays [] ⟨d, op, ty, pos, af, some (j, want)⟩ = true := hl
  have h2 : freshSt ops ⟨d, op, ty, pos, af, some (j, want)⟩ = freshSt ops ⟨d, op, ty, pos, af, none⟩ := rfl
  show _ = GK _ _ _
  simp only [sE, h1, hl, h2, if_true]; rfl
theorem sE_gg {j : Nat} {want : Bool} : sE P KT ops N i r m (⟨d, op, ty, pos, af, some (j, want)⟩ :: l) τ H sh KD = gK (guardA ops τ ⟨d, op, ty, pos, af, some (j, want)⟩) (tg (sE P KT ops N i r m (⟨d, op, ty, pos, af, none⟩ :: l) τ H sh KD)) (tg (sE P KT ops N (i + 1) (if lays [] ⟨d, op, ty, pos, af, none⟩ then r + 1 else r) (if lays [] ⟨d, op, ty, pos, af, none⟩ then (i, r) :: m else m) l (τ.put d (.d (.val undef))) H sh KD)) := by
  cases hl : lays [] ⟨d, op, ty, pos, af, none⟩ with
  | false => rw [sE_g hl]; rfl
  | true => rw [sE_gl hl]; rfl
/-- Calls, by contracts. -/
theorem kc_by {f : FuncId} {args : List AV} {ds : List D} {x : AV} {inl : Bool} {KK : AV → AHeap → Prop} (hp : PCalls P f ds x) (hd : AV.toD.toDs args = some ds) (hK : KK x H) : kC P N H (.d (.val (.func (.func f) #[] #[]))) args inl (tg KK) := .inl (call_by hp hd hK)
theorem kc_own {f : FuncId} {args : List AV} {ds : List D} {v : Value} {inl : Bool} {KK : AV → AHeap → Prop} (hp : PCalls P f ds (.d (.val v))) (hd : deepL (lookH H N) 9 args = some ds) (hK : KK (.d (.val v)) H) : kC P N H (.d (.val (.func (.func f) #[] #[]))) args inl (tg KK) := .inl (call_own (KA := fun x => KK x H) hp hd hK)
theorem kc_new {f : FuncId} {args : List AV} {ds : List D} {x : AV} {inl : Bool} {KK : AV → AHeap → Prop} (hp : NCalls P f ds x) (hd : deepL (lookH H N) 9 args = some ds) (hK : KK x H) : kC P N H (.d (.val (.func (.func f) #[] #[]))) args inl (tg KK) := .inl (call_new (KA := fun x => KK x H) hp hd hK)
theorem kc_rel {f : FuncId} {args : List AV} {ds : List D} {Q : AV → Prop} {KK : AV → AHeap → Prop} (hp : RCalls P f ds Q) (hd : AV.toD.toDs args = some ds) (hK : ∀ x, Q x → KK x H) : kC P N H (.d (.val (.func (.func f) #[] #[]))) args true (tg KK) :=
  .inr ⟨rfl, f, [], [], rfl, .inr ⟨ds, Q, by simpa using hd, hp, hK⟩⟩
theorem kc_in {f : FuncId} {args : List AV} {KK : AV → AHeap → Prop} (h : IcK P f args H KK) : kC P N H (.d (.val (.func (.func f) #[] #[]))) args true (tg KK) :=
  .inr ⟨rfl, f, [], [], rfl, .inl (by simpa using h)⟩
end
end Go.Proofs.Ytfpcailbobjfnaa
