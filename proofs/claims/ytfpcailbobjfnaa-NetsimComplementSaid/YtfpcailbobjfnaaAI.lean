/- Of no program: an interpreter of the abstract machine, and that what it finds is so. -/
import Derived.Test.YtfpcailbobjfnaaAO
set_option linter.unusedVariables false
set_option linter.unusedSimpArgs false
namespace Go.Proofs.Ytfpcailbobjfnaa
open Go Go.RowKit
def fL (l : List AV) : Fr := fun t => l.getD t (.d (.val undef))
def putL (l : List AV) (d : Option Tmp) (x : AV) : List AV := match d with | some d => l.set d x | none => l
theorem putL_len (l : List AV) (d : Option Tmp) (x : AV) : (putL l d x).length = l.length := by unfold putL; split <;> simp
theorem fL_put (l : List AV) (d : Option Tmp) (x : AV) (h : ∀ t, d = some t → t < l.length) : (fL l).put d x = fL (putL l d x) := by
  unfold putL
  cases d with
  | none => rfl
  | some d =>
    have hd := h d rfl
    funext t
    simp only [Fr.put, fL, List.getD_eq_getElem?_getD, List.getElem?_set]
    by_cases ht : t = d
    · subst ht; simp [hd]
    · rw [if_neg ht, if_neg (Ne.symm ht)]
abbrev CB := FuncId → List AV → AHeap → Option (AV × AHeap)
def callTF (cb : CB) (ρ : Operand → AV) (op : Op) (H : AHeap) : Option (AV × AHeap) :=
  match op with
  | .call { callee := .value f, args := args, .. } => (match calleeOf (ρ f) with
    | some (n, fi, ca) => cb n (fi ++ args.toList.map ρ ++ ca) H
    | none => none)
  | _ => none
def coreTF (P : Program) (KT : TypeId → Bool) (cb : CB) (op : Op) (ρ : Operand → AV) (H : AHeap) : Option (AV × AHeap) :=
  match kOf [] op with
  | 0 => if isCallV op then callTF cb ρ op H else (opF P H.length H KT ρ op).map fun x => (x, H)
  | 2 => (match op with | .store t p y => (storeF P t (ρ p) (ρ y) H [] 0).map fun H' => (.d (.val undef), H') | _ => none)
  | 4 => mapF P KT ρ op H []
  | _ => (match layF P H.length ρ op H with
    | some (x, o, some i) => some (x, H.set i .dead ++ [o])
    | some (x, o, none) => some (x, H ++ [o])
    | none => none)
def runTF (P : Program) (KT : TypeId → Bool) (cb : CB) (ops : List Oper) : List Oper → List AV → AHeap → Option (List AV × AHeap)
  | [], l, H => some (l, H)
  | o :: os, l, H => match guardA ops (fL l) o with
    | some true => (match coreTF P KT cb o.op (evalA (fL l)) H with
      | some (x, H') => runTF P KT cb ops os (putL l o.dst x) H'
      | none => none)
    | some false => runTF P KT cb ops os (putL l o.dst (.d (.val undef))) H
    | none => none
section
variable {P : Program} {KT : TypeId → Bool} {cb : CB} {H : AHeap} {ρ : Operand → AV} {op : Op}
def deadH (H : AHeap) : Option Nat → AHeap
  | some i => H.set i .dead
  | none => H
def CBok (P : Program) (cb : CB) : Prop := ∀ f xs H x H', cb f xs H = some (x, H') → IcK P f xs H fun x1 H1 => x1 = x ∧ H1 = H'
theorem kOf_lay (hk0 : kOf [] op ≠ 0) (hk2 : kOf [] op ≠ 2) (hk4 : kOf [] op ≠ 4) : kOf [] op = 1 ∨ kOf [] op = 3 := by
  rcases kOf_le [] op with h | h | h | h | h <;> first | exact absurd h (by assumption) | exact .inl h | exact .inr h
theorem layT_ok {x : AV} {o : AObj} {dd : Option Nat} (h : layF P H.length ρ op H = some (x, o, dd)) {K : AV → AHeap → Prop} (hK : K x (deadH H dd ++ [o])) :
    ∃ x H', OpA P false H.length ρ op (H ++ [.free]) [] x H' [] ∧ K x H' := by
  cases op with
  | box t y =>
    obtain ⟨cs, hc, he⟩ := Option.map_eq_some_iff.1 h
    cases he
    rw [t_box]; exact ⟨cs, hc, hK⟩
  | alloc t =>
    obtain ⟨zs, hz, he⟩ := Option.map_eq_some_iff.1 h
    cases he
    rw [t_alloc]; exact ⟨zs, hz, hK⟩
  | makeSlice t l cp =>
    simp only [layF] at h
    split at h
    · rename_i s zs b n m hq hn hm
      obtain ⟨k1, hn⟩ := ixO_ok hn
      obtain ⟨k2, hm⟩ := ixO_ok hm
      split at h
      · rename_i hb
        cases h
        rw [t_make]
        exact ⟨(s, zs, b), k1, k2, n, m, hq, hn, hm, hb.1, hb.2.1, hb.2.2.1, hb.2.2.2, hK⟩
      · cases h
    · cases h
  | makeMap t hint =>
    cases hint with
    | none =>
      cases h
      exact ⟨_, _, ⟨.inl rfl, rfl, rfl, rfl⟩, by rw [set_free]; exact hK⟩
    | some y =>
      unfold layF at h
      simp only at h
      split at h
      · rename_i hc
        simp only [Bool.and_eq_true] at hc
        obtain ⟨i, hi⟩ := Option.isSome_iff_exists.1 hc.1
        obtain ⟨k, hk⟩ := ixO_ok hi
        cases h
        exact ⟨_, _, ⟨.inr ⟨y, k, i, rfl, hk, hc.2⟩, rfl, rfl, rfl⟩, by rw [set_free]; exact hK⟩
      · cases h
  | buildSlice t len parts =>
    simp only [layF] at h
    split at h
    · rename_i s zs b hq
      split at h
      · rename_i hb
        obtain ⟨cs, hc, he⟩ := Option.map_eq_some_iff.1 h
        cases he
        exact t_bs ⟨(s, zs, b), hq, hb, cs, hc, hK⟩
      · cases h
    · cases h
  | call cl =>
    obtain ⟨callee, ⟨args⟩, ⟨ts⟩⟩ := cl
    unfold layF at h
    simp only at h
    split at h
    · rename_i s y t t'
      split at h
      · rename_i ht
        split at h
        · rename_i z zs b hq
          split at h
          · rename_i m l hsrc
            have hsrc := srcF_ok hsrc
            refine t_app ht ?_
            split at h
            · rename_i k id off n hs
              split at h
              · rename_i cs hcs
                split at h
                · rename_i hb
                  cases h
                  rw [hs]
                  obtain ⟨rfl, b1, b2, b3⟩ := hb
                  exact ⟨(k, zs, b), hq, rfl, cs, hcs, b1, m, l, hsrc, b2, b3, hK⟩
                · cases h
              · cases h
            · rename_i hs
              split at h
              · rename_i hb
                cases h
                rw [hs]
                exact ⟨(z, zs, b), hq, m, l, hsrc, hb.1, hb.2, hK⟩
              · cases h
            · cases h
          · cases h
        · cases h
      · cases h
    · cases h
  | _ => cases h
theorem coreTF_ok (hKT : ∀ k, KT k = true → Maps.Keyed P k) (hcb : CBok P cb) {o : Oper} {l : List AV} {x : AV} {H' : AHeap} (hd : ∀ t, o.dst = some t → t < l.length) (h : coreTF P KT cb o.op (evalA (fL l)) H = some (x, H')) {K : Fr → AHeap → Prop} (hK : K (fL (putL l o.dst x)) H') : coreT P [] o (fL l) H K := by
  have hput : ∀ y, (fL l).put o.dst y = fL (putL l o.dst y) := fun y => fL_put l o.dst y hd
  unfold coreTF at h
  unfold coreT
  split at h
  · rename_i hk
    simp only [hk]
    split at h
    · right
      unfold callTF at h
      unfold InlK
      split at h
      · rename_i f args ts e
        rw [e]
        simp only
        split at h
        · rename_i n fi ca hc
          refine ⟨n, fi, ca, hc, .inl ?_⟩
          obtain ⟨h1, fn, code, h2, h3, h4, h5⟩ := hcb _ _ _ _ _ h
          exact ⟨h1, fn, code, h2, h3, h4, fun c hc' => awp_mono (h5 c hc') fun e τ H1 hp => by
            unfold PostA at hp ⊢
            split at hp
            · exact ResA_mono _ _ _ (fun xs ⟨e1, e2⟩ => by rw [e1, e2]; show K ((fL l).put o.dst x) H'; rw [hput]; exact hK) hp
            · exact ResA_mono _ _ _ (fun xs ⟨e1, e2⟩ => by rw [e1, e2]; show K ((fL l).put o.dst x) H'; rw [hput]; exact hK) hp
            · exact hp.elim⟩
        · cases h
      · cases h
    · obtain ⟨y, hy, he⟩ := Option.map_eq_some_iff.1 h
      cases he
      exact .inl ⟨x, opF_ok hKT hy, by rw [hput]; exact hK⟩
  · rename_i hk
    simp only [hk]
    split at h
    · rename_i t p y e
      obtain ⟨H1, hH, he⟩ := Option.map_eq_some_iff.1 h
      cases he
      rw [e]
      exact ⟨_, storeF_ok hH, by rw [hput]; exact hK⟩
    · cases h
  · rename_i hk
    simp only [hk]
    exact ⟨x, H', mapF_ok hKT h, by rw [hput]; exact hK⟩
  · rename_i hk0 hk2 hk4
    have hlay : ∃ x H', OpA P false H.length (evalA (fL l)) o.op (H ++ [.free]) [] x H' [] ∧ K ((fL l).put o.dst x) H' := by
      split at h
      · rename_i x' o' i hl
        cases h
        exact layT_ok hl (K := fun x H' => K ((fL l).put o.dst x) H') (by rw [hput]; exact hK)
      · rename_i x' o' hl
        cases h
        exact layT_ok hl (K := fun x H' => K ((fL l).put o.dst x) H') (by rw [hput]; exact hK)
      · cases h
    rcases kOf_lay hk0 hk2 hk4 with hk | hk
    · simp only [hk]; exact hlay
    · simp only [hk]; exact hlay
theorem runTF_ok (hKT : ∀ k, KT k = true → Maps.Keyed P k) (hcb : CBok P cb) {ops : List Oper} : ∀ {os : List Oper} {l l' : List AV} {H H' : AHeap}, dstOk l.length os = true → runTF P KT cb ops os l H = some (l', H') → l'.length = l.length ∧ ∀ K : Fr → AHeap → Prop, K (fL l') H' → runT P [] ops os (fL l) H K
  | [], l, l', H, H', _, h => by
    cases h
    exact ⟨rfl, fun K hK => hK⟩
  | o :: os, l, l', H, H', hd, h => by
    simp only [dstOk, List.all_cons, Bool.and_eq_true] at hd
    have hdo : ∀ d, o.dst = some d → d < l.length := fun d e => by have := hd.1; rw [e] at this; simpa using this
    unfold runTF at h
    split at h
    · rename_i hg
      split at h
      · rename_i x H1 hc
        obtain ⟨h1, h2⟩ := runTF_ok hKT hcb (os := os) (by rw [putL_len]; exact hd.2) h
        rw [putL_len] at h1
        exact ⟨h1, fun K hK => ⟨true, hg, fun _ => coreTF_ok hKT hcb hdo hc (h2 K hK), fun e => by cases e⟩⟩
      · cases h
    · rename_i hg
      obtain ⟨h1, h2⟩ := runTF_ok hKT hcb (os := os) (by rw [putL_len]; exact hd.2) h
      rw [putL_len] at h1
      exact ⟨h1, fun K hK => ⟨false, hg, (fun e => by cases e), fun _ => by rw [fL_put _ _ _ hdo]; exact h2 K hK⟩⟩
    · cases h
end
end Go.Proofs.Ytfpcailbobjfnaa
