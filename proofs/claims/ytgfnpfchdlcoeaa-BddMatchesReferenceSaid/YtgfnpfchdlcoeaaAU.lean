/- Of no program: calls whose result lies in one new object of the caller's own. -/
import Derived.Test.YtgfnpfchdlcoeaaAT
set_option linter.unusedVariables false
set_option linter.unusedSimpArgs false
namespace Go.Proofs.Ytgfnpfchdlcoeaa
open Go Go.RowKit
section
variable {P : Program} {H : zal} {N : Nat} {sm : List Nat} {τ : Fr}
theorem zg0 {fn : Func} {Q : AV → zal → Prop} {τ : Fr} {t u : Tmp} {ty : TypeId} (h : fn.results.toList = [.cell t ty, .tmp u]) (hq : oK (zam P H.length H ty (τ t)) (tg fun x => Q (.tup [x, τ u]) H)) : zli P fn Q .ret τ H := by
 obtain ⟨x, h1, h2⟩ := hq
 show jc1 P τ H fn.results.toList _
 rw [h]; exact ⟨x, zoq h1, h2⟩
theorem zk7 {f : FuncId} {args : List AV} {ds : List D} {x : AV} {KK : AV → zal → Prop} (hp : zbi P f ds x) (hd : zew (zfb H H.length) 9 args = some ds) (hK : KK x (H.map fun _ => .dead)) : kC P sm N H τ (.d (.val (.func (.func f) #[] #[]))) args true (tg KK) := by
 refine ji4 (K0 := fun x' H' => x' = x ∧ H' = H.map fun _ => .dead) ⟨hp.1, fun E w pl vals hl hx hh hE => ?_⟩ fun x' H' ⟨h1, h2⟩ => by rw [h1, h2]; exact hK
 obtain ⟨l1, l2⟩ := (zmq hh H.length 9).2 _ ds (fun j => vals.getD j undef) hd hx
 refine (hp.2 w E vals (by rw [hl, l1]) l2 hE).mono fun e w' ⟨v, he, hr, hb⟩ => ?_
 have dead : ∀ (i : Nat) (o : AObj), (H.map fun _ => AObj.dead)[i]? = some o → o = .dead := fun i o h => by
  rw [List.getElem?_map, Option.map_eq_some_iff] at h
  obtain ⟨_, _, rfl⟩ := h; rfl
 have hs : Stp (fun _ => False) w w' := ⟨hb.os, hb.tape, hb.output, hb.size, fun b h _ => hb.block b h, fun b s hs => (zd0 (hb.block b (zh8 hs))).trans hs⟩
 refine ⟨v, x, _, pl, he, ⟨rfl, rfl⟩, hr.mono (Nat.le_refl _) (fun _ _ _ => rfl) (fun b _ hb' => ?_) (fun _ _ h => h) (fun i p hp => by simp at hp), ⟨by simp [hh.len], fun id o ho => ?_, fun i j oi oj p q h1 h2 l1 => ?_, fun i o p h1 l1 => ?_, fun p hp => (by cases hp), fun i j ci cj p q hm => (by cases hm)⟩, hs.mono (fun _ _ h => h.elim), fun b ⟨i, o, k, h1, h2, h3⟩ => ?_, fun i p h => h⟩
 ·rcases hb' with hb' | ⟨i, o, k, h1, h2, _⟩
  ·exact hb'
  ·rw [dead i o h1] at h2; cases h2
 ·rw [dead id o ho]; trivial
 ·rw [dead i oi h1] at l1; cases l1
 ·rw [dead i o h1] at l1; cases l1
 ·rw [dead i o h1] at h2; cases h2
end
end Go.Proofs.Ytgfnpfchdlcoeaa
