/- Of no program: regions that draw and hold calls that move objects: the rule, and its run for simp. -/
import Derived.Test.YtapjobndmmkanaaAX
set_option linter.unusedVariables false
set_option linter.unusedSimpArgs false
namespace Go.Proofs.Ytapjobndmmkanaa
open Go Go.RowKit
section
variable {P : Program} {KT : TypeId → Bool} {c : Cx} {τ : Fr} {H : zag} {Q : Exit → Fr → zag → Prop}
theorem jcu {sm : List Nat} (hKT : ∀ k, KT k = true → Maps.Keyed P k) (hc0 : Kp c sm) {id : Nat} {l : List Oper} {n : Nat} (hn : c.nt = n) (hm : P.follows .mixedOrders = true) (hd : zde n l = true) (st : List (Nat × List Nat)) (cl : List (List Nat)) (q : Nat) (hC : chC l cl st = true)
  (h : ∀ K : Fr → zag → Prop, (∀ τ H, Q .normal τ H → K τ H) → sS P KT sm H.length τ 0 (stg l st) τ (H ++ List.replicate q .free) K) : AWp P c (.region id l.toArray true) Q τ H := fun a w hR => by
 refine wpIn_region_any hm ?_
 obtain ⟨k, hst, hlen⟩ := Ck.of hC
 have hR' : R c τ (H ++ List.replicate q .free) [] a { w with drawn := w.drawn + 1 } := R.reserve _ _ (by obtain ⟨pl, h⟩ := hR; exact ⟨pl, h.drew⟩)
 have hnl : ∀ j, ¬ lsd (Array.replicate l.length false) j := fun j h => by
  by_cases hj : j < l.length <;> simp [lsd, Array.getD, hj] at h
 have v : Inv P l cl H.length τ [] 0 (fun _ => .any) (fun _ => 0) (H ++ List.replicate q .free) (H ++ List.replicate q .free) (Array.replicate l.length false) :=
  ⟨fun i hi => (by cases hi), fun i hi => (by cases hi), fun i hi => absurd hi (hnl i), fun i hi => (by cases hi), fun i hi => (by cases hi), fun i hi => (by cases hi), fun i hi => (by cases hi), rfl, by simp, fun _ _ => rfl, fun i hi => (by cases hi)⟩
 have hcl : Closed l (Array.replicate l.length false) := fun j o _ hj => absurd hj (hnl j)
 obtain ⟨pre2, rest2, r2, vals2, slot2, H2, a1, a2, a3, a4, a5, a6⟩ := Inv.advance (sm := sm) k hKT st [] 0 _ _ _ v hst (h (Q .normal) fun _ _ h => h)
 have := zs1 (c := c) (P := P) k hKT (hn ▸ hd) hc0 (K := Q .normal) (Q := fun e a' w' => ∃ τ' H', R c τ' H' [] a' w' ∧ Q e τ' H') (fun τ' H' a' w' hk hr => ⟨τ', H', hr, hk⟩) l.length (List.range l.length) pre2 rest2 r2 vals2 slot2 H2 _ (Array.replicate l.length false) a { w with drawn := w.drawn + 1 } (by simp) (fun i hi _ => List.mem_range.2 hi) (by simp) hcl a1 a2 a3
  (fun i hi => a5 i (.inr (hlen i hi))) a6 (by
   have e : pre2.filter (fun j => (Array.replicate l.length false).getD j false) = [] := List.filter_eq_nil_iff.2 fun j _ => hnl j
   rw [e]; exact hR')
 simpa using this
end
section
variable {P : Program} {KT : TypeId → Bool} {sm : List Nat} {l : List (Oper × List Oper)} {chk : List Oper} {τ τ0 : Fr} {H : zag} {N r e : Nat} {d : Option Tmp} {ty : TypeId} {pos : String} {af : Array Edge} {K : Fr → zag → Prop}
def rT {K : Prop} (P : Program) (KT : TypeId → Bool) (N : Nat) (chk : List Oper) (τ : Fr) (H : zag) (_ : Tg K) : Prop := reK P KT N chk τ H K
theorem zx1 {K : Prop} : rT P KT N [] τ H (tg K) = K := rfl
theorem zs2 {K : Prop} {t : TypeId} {y : Operand} : rT P KT N (⟨some e, .load t y, ty, pos, af, none⟩ :: chk) τ H (tg K) = (oK (loadF P N H t (zaq τ y)) <| tg fun x => x = τ e ∧ rT P KT N chk τ H (tg K)) := by
 have h : (fun x => (τ.put (some e) x) e = τ e ∧ reK P KT N chk τ H K) = fun x => x = τ e ∧ reK P KT N chk τ H K := funext fun x => by simp only [Fr.put, if_true]
 exact congrArg (zmt (loadF P N H t (zaq τ y))) h
theorem zlo {K : Prop} {t : TypeId} {y z : Operand} {ok : Bool} : rT P KT N (⟨some e, .lookup t y z ok, ty, pos, af, none⟩ :: chk) τ H (tg K) = (oK (zc1 P N H KT t (zaq τ y) (zaq τ z) ok) <| tg fun x => x = τ e ∧ rT P KT N chk τ H (tg K)) := by
 have h : (fun x => (τ.put (some e) x) e = τ e ∧ reK P KT N chk τ H K) = fun x => x = τ e ∧ reK P KT N chk τ H K := funext fun x => by simp only [Fr.put, if_true]
 exact congrArg (zmt (zc1 P N H KT t (zaq τ y) (zaq τ z) ok)) h
theorem zs3 {ops : List Oper} : stg ops [] = [] := rfl
theorem zot {ops : List Oper} {i : Nat} {c : List Nat} {st : List (Nat × List Nat)} : stg ops ((i, c) :: st) = (ops.getD i op0, c.map fun j => ops.getD j op0) :: stg ops st := rfl
theorem zx2 : sS P KT sm N τ0 r [] τ H K = K τ H := rfl
theorem zs4 {y : Operand} : sS P KT sm N τ0 r ((⟨d, .move y, ty, pos, af, none⟩, chk) :: l) τ H K = (sS P KT sm N τ0 r l (τ.put d (zaq τ y)) H K) := by simp [sS, oS, anc, sE, zbm, GK, cE, kOf, zbx, opF, zb5, lays]
theorem zlp {y : Operand} : sS P KT sm N τ0 r ((⟨d, .assign y, ty, pos, af, none⟩, chk) :: l) τ H K = (sS P KT sm N τ0 r l (τ.put d (zaq τ y)) H K) := by simp [sS, oS, anc, sE, zbm, GK, cE, kOf, zbx, opF, zb5, lays]
theorem zs5 {c a b : Operand} : sS P KT sm N τ0 r ((⟨d, .pick c a b, ty, pos, af, none⟩, chk) :: l) τ H K = (oK (match zaq τ c with | .d (.val (.bool t)) => some (if t then zaq τ a else zaq τ b) | _ => none) <| tg fun x => sS P KT sm N τ0 r l (τ.put d x) H K) := rfl
theorem zs6 {t : TypeId} {y : Operand} : sS P KT sm N τ0 r ((⟨d, .load t y, ty, pos, af, none⟩, chk) :: l) τ H K = (oK (loadF P N H t (zaq τ y)) <| tg fun x => sS P KT sm N τ0 r l (τ.put d x) H K) := rfl
theorem jcv {t : TypeId} {y : Operand} {f : Nat} : sS P KT sm N τ0 r ((⟨d, .fieldAddr t y f, ty, pos, af, none⟩, chk) :: l) τ H K = (oK (fieldAddrF P t f (zaq τ y)) <| tg fun x => sS P KT sm N τ0 r l (τ.put d x) H K) := rfl
theorem zou {t : TypeId} {y : Operand} {f : Nat} : sS P KT sm N τ0 r ((⟨d, .field t y f, ty, pos, af, none⟩, chk) :: l) τ H K = (oK (fieldF P t f (zaq τ y)) <| tg fun x => sS P KT sm N τ0 r l (τ.put d x) H K) := rfl
theorem jcw {t : TypeId} {y z : Operand} : sS P KT sm N τ0 r ((⟨d, .indexAddr t y z, ty, pos, af, none⟩, chk) :: l) τ H K = (oK (indexAddrF P t (zaq τ y) (zaq τ z)) <| tg fun x => sS P KT sm N τ0 r l (τ.put d x) H K) := rfl
theorem zov {t : TypeId} {y z : Operand} : sS P KT sm N τ0 r ((⟨d, .index t y z, ty, pos, af, none⟩, chk) :: l) τ H K = (oK (indexF P t (zaq τ y) (zaq τ z)) <| tg fun x => sS P KT sm N τ0 r l (τ.put d x) H K) := rfl
theorem zow {t : TypeId} {y : Operand} {lo hi : Option Operand} : sS P KT sm N τ0 r ((⟨d, .slice t y lo hi none, ty, pos, af, none⟩, chk) :: l) τ H K = (oK (sliceF P N H t (zaq τ y) (lo.map (zaq τ)) (hi.map (zaq τ))) <| tg fun x => sS P KT sm N τ0 r l (τ.put d x) H K) := rfl
theorem zx3 {op : BinOp} {t t' : TypeId} {y z : Operand} : sS P KT sm N τ0 r ((⟨d, .binOp op t y z t', ty, pos, af, none⟩, chk) :: l) τ H K = (oK (zvd P op t (zaq τ y) (zaq τ z)) <| tg fun x => sS P KT sm N τ0 r l (τ.put d x) H K) := rfl
theorem jcx {op : UnOp} {t : TypeId} {y : Operand} : sS P KT sm N τ0 r ((⟨d, .unOp op t y, ty, pos, af, none⟩, chk) :: l) τ H K = (oK (unF op (zaq τ y)) <| tg fun x => sS P KT sm N τ0 r l (τ.put d x) H K) := rfl
theorem zs7 {s t : TypeId} {y : Operand} : sS P KT sm N τ0 r ((⟨d, .convert s t y, ty, pos, af, none⟩, chk) :: l) τ H K = (oK (convF P s t (zaq τ y)) <| tg fun x => sS P KT sm N τ0 r l (τ.put d x) H K) := rfl
theorem zox {t : TypeId} {ps : Array (Nat × Operand)} : sS P KT sm N τ0 r ((⟨d, .build t ps, ty, pos, af, none⟩, chk) :: l) τ H K = (oK (buildF P t (ps.toList.map fun p => (p.1, zaq τ p.2))) <| tg fun x => sS P KT sm N τ0 r l (τ.put d x) H K) := rfl
theorem zil {y : Operand} {ix : Nat} : sS P KT sm N τ0 r ((⟨d, .extract y ix, ty, pos, af, none⟩, chk) :: l) τ H K = (oK (match zaq τ y with | .tup vs => vs[ix]? | _ => none) <| tg fun x => sS P KT sm N τ0 r l (τ.put d x) H K) := rfl
theorem zs8 {y : Operand} : sS P KT sm N τ0 r ((⟨d, .nilCheck y, ty, pos, af, none⟩, chk) :: l) τ H K = (oK (if nilOk (zaq τ y) then some (zaq τ y) else none) <| tg fun x => sS P KT sm N τ0 r l (τ.put d x) H K) := rfl
theorem zlq {t : TypeId} {y z : Operand} {ok : Bool} : sS P KT sm N τ0 r ((⟨d, .lookup t y z ok, ty, pos, af, none⟩, chk) :: l) τ H K = (oK (zc1 P N H KT t (zaq τ y) (zaq τ z) ok) <| tg fun x => sS P KT sm N τ0 r l (τ.put d x) H K) := rfl
theorem jcy {fn : Fn} {fi ca : Array Operand} : sS P KT sm N τ0 r ((⟨d, .makeFunc fn fi ca, ty, pos, af, none⟩, chk) :: l) τ H K = (sS P KT sm N τ0 r l (τ.put d (.clo fn (fi.toList.map (zaq τ)) (ca.toList.map (zaq τ)))) H K) := by simp [sS, oS, anc, sE, zbm, GK, cE, kOf, zbx, opF, zb5, lays]
theorem zx4 {args : Array Operand} {ts : Array TypeId} : sS P KT sm N τ0 r ((⟨d, .call ⟨.builtin .len, args, ts⟩, ty, pos, af, none⟩, chk) :: l) τ H K = (oK (builtinF P .len ts.toList (args.toList.map (zaq τ))) <| tg fun x => sS P KT sm N τ0 r l (τ.put d x) H K) := rfl
theorem zx5 {args : Array Operand} {ts : Array TypeId} : sS P KT sm N τ0 r ((⟨d, .call ⟨.builtin .max, args, ts⟩, ty, pos, af, none⟩, chk) :: l) τ H K = (oK (builtinF P .max ts.toList (args.toList.map (zaq τ))) <| tg fun x => sS P KT sm N τ0 r l (τ.put d x) H K) := rfl
theorem zx6 {args : Array Operand} {ts : Array TypeId} : sS P KT sm N τ0 r ((⟨d, .call ⟨.builtin .min, args, ts⟩, ty, pos, af, none⟩, chk) :: l) τ H K = (oK (builtinF P .min ts.toList (args.toList.map (zaq τ))) <| tg fun x => sS P KT sm N τ0 r l (τ.put d x) H K) := rfl
theorem zoy {f : FuncId} {args : Array Operand} {ts : Array TypeId} : sS P KT sm N τ0 r ((⟨d, .call ⟨.value (.func f), args, ts⟩, ty, pos, af, none⟩, chk) :: l) τ H K = (kE P sm N τ0 τ H ((zaq τ (.func f))) (args.toList.map (zaq τ)) <| tg fun x H' => rT P KT N chk (τ.put d x) H' (tg (sS P KT sm N τ0 r l (τ.put d x) H' K))) := rfl
theorem zoz {f : Nat} {args : Array Operand} {ts : Array TypeId} : sS P KT sm N τ0 r ((⟨d, .call ⟨.value (.tmp f), args, ts⟩, ty, pos, af, none⟩, chk) :: l) τ H K = (kE P sm N τ0 τ H ((zaq τ (.tmp f))) (args.toList.map (zaq τ)) <| tg fun x H' => rT P KT N chk (τ.put d x) H' (tg (sS P KT sm N τ0 r l (τ.put d x) H' K))) := rfl
theorem zx7 {t : TypeId} {y : Operand} : sS P KT sm N τ0 r ((⟨d, .box t y, ty, pos, af, none⟩, chk) :: l) τ H K = (oK (layEF P N r [] (zaq τ) (.box t y) H []) <| tg fun p => sS P KT sm N τ0 (r + 1) l (τ.put d p.1) p.2.1 K) := rfl
theorem zo0 {t : TypeId} : sS P KT sm N τ0 r ((⟨d, .alloc t, ty, pos, af, none⟩, chk) :: l) τ H K = (oK (layEF P N r [] (zaq τ) (.alloc t) H []) <| tg fun p => sS P KT sm N τ0 (r + 1) l (τ.put d p.1) p.2.1 K) := rfl
theorem zs9 {t : TypeId} {y z : Operand} : sS P KT sm N τ0 r ((⟨d, .makeSlice t y z, ty, pos, af, none⟩, chk) :: l) τ H K = (oK (layEF P N r [] (zaq τ) (.makeSlice t y z) H []) <| tg fun p => sS P KT sm N τ0 (r + 1) l (τ.put d p.1) p.2.1 K) := rfl
theorem jcz {t : TypeId} {n : Nat} {ps : Array (Nat × Operand)} : sS P KT sm N τ0 r ((⟨d, .buildSlice t n ps, ty, pos, af, none⟩, chk) :: l) τ H K = (oK (layEF P N r [] (zaq τ) (.buildSlice t n ps) H []) <| tg fun p => sS P KT sm N τ0 (r + 1) l (τ.put d p.1) p.2.1 K) := rfl
theorem zx8 {args : Array Operand} {ts : Array TypeId} : sS P KT sm N τ0 r ((⟨d, .call ⟨.builtin .append, args, ts⟩, ty, pos, af, none⟩, chk) :: l) τ H K = (oK (layF P H.length (zaq τ) (.call ⟨.builtin .append, args, ts⟩) H) <| tg fun p => rT P KT N chk (τ.put d p.1) (deadH H p.2.2 ++ [p.2.1]) (tg (sS P KT sm N τ0 r l (τ.put d p.1) (deadH H p.2.2 ++ [p.2.1]) K))) := rfl
theorem jc0 {t : TypeId} {y : Option Operand} : sS P KT sm N τ0 r ((⟨d, .makeMap t y, ty, pos, af, none⟩, chk) :: l) τ H K = (oK (layEF P N r [] (zaq τ) (.makeMap t y) H []) <| tg fun p => sS P KT sm N τ0 (r + 1) l (τ.put d p.1) p.2.1 K) := rfl
theorem zo1 {t : TypeId} {y z : Operand} : sS P KT sm N τ0 r ((⟨d, .store t y z, ty, pos, af, none⟩, chk) :: l) τ H K = (oK (storeF P t (zaq τ y) (zaq τ z) H [] 0) <| tg fun H' => rT P KT N chk (τ.put d (.d (.val undef))) H' (tg (sS P KT sm N τ0 r l (τ.put d (.d (.val undef))) H' K))) := rfl
theorem jc1 {t : TypeId} {y z u : Operand} : sS P KT sm N τ0 r ((⟨d, .mapUpdate t y z u, ty, pos, af, none⟩, chk) :: l) τ H K = (oK (zee P KT (zaq τ) (.mapUpdate t y z u) H []) <| tg fun p => rT P KT N chk (τ.put d p.1) p.2 (tg (sS P KT sm N τ0 r l (τ.put d p.1) p.2 K))) := rfl
theorem zx9 {t : TypeId} {y z u : Operand} : sS P KT sm N τ0 r ((⟨d, .insert t y z u, ty, pos, af, none⟩, chk) :: l) τ H K = (oK (zee P KT (zaq τ) (.insert t y z u) H []) <| tg fun p => rT P KT N chk (τ.put d p.1) p.2 (tg (sS P KT sm N τ0 r l (τ.put d p.1) p.2 K))) := rfl
theorem jc2 {t : TypeId} {y z : Operand} : sS P KT sm N τ0 r ((⟨d, .mapEntry t y z, ty, pos, af, none⟩, chk) :: l) τ H K = (oK (zee P KT (zaq τ) (.mapEntry t y z) H []) <| tg fun p => rT P KT N chk (τ.put d p.1) p.2 (tg (sS P KT sm N τ0 r l (τ.put d p.1) p.2 K))) := rfl
theorem jc3 {t : TypeId} {y z u : Operand} : sS P KT sm N τ0 r ((⟨d, .entryStore t y z u, ty, pos, af, none⟩, chk) :: l) τ H K = (oK (zee P KT (zaq τ) (.entryStore t y z u) H []) <| tg fun p => rT P KT N chk (τ.put d p.1) p.2 (tg (sS P KT sm N τ0 r l (τ.put d p.1) p.2 K))) := rfl
theorem zya {args : Array Operand} {ts : Array TypeId} : sS P KT sm N τ0 r ((⟨d, .call ⟨.builtin .delete, args, ts⟩, ty, pos, af, none⟩, chk) :: l) τ H K = (oK (zee P KT (zaq τ) (.call ⟨.builtin .delete, args, ts⟩) H []) <| tg fun p => rT P KT N chk (τ.put d p.1) p.2 (tg (sS P KT sm N τ0 r l (τ.put d p.1) p.2 K))) := rfl
theorem zyb {args : Array Operand} {ts : Array TypeId} : sS P KT sm N τ0 r ((⟨d, .call ⟨.builtin .clear, args, ts⟩, ty, pos, af, none⟩, chk) :: l) τ H K = (oK (zee P KT (zaq τ) (.call ⟨.builtin .clear, args, ts⟩) H []) <| tg fun p => rT P KT N chk (τ.put d p.1) p.2 (tg (sS P KT sm N τ0 r l (τ.put d p.1) p.2 K))) := rfl
end
end Go.Proofs.Ytapjobndmmkanaa
