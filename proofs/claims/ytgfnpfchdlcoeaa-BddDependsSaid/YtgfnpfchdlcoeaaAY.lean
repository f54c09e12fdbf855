/- Of no program: regions that draw and hold calls that move objects: the rule, and its run for simp. -/
import Derived.Test.YtgfnpfchdlcoeaaAX
set_option linter.unusedVariables false
set_option linter.unusedSimpArgs false
namespace Go.Proofs.Ytgfnpfchdlcoeaa
open Go Go.RowKit
section
variable {P : Program} {KT : TypeId → Bool} {c : Cx} {τ : Fr} {H : za0} {Q : Exit → Fr → za0 → Prop}
theorem zni {sm : List Nat} (hKT : ∀ k, KT k = true → Maps.Keyed P k) (hc0 : Kp c sm) {id : Nat} {l : List Oper} {n : Nat} (hn : c.nt = n) (hm : P.follows .mixedOrders = true) (hd : zii n l = true) (st : List (Nat × List Nat)) (cl : List (List Nat)) (q : Nat) (hC : chC l cl st = true)
    (h : ∀ K : Fr → za0 → Prop, (∀ τ H, Q .normal τ H → K τ H) → sS P KT sm H.length τ 0 (stg l st) τ (H ++ List.replicate q .free) K) : AWp P c (.region id l.toArray true) Q τ H := fun a w hR => by
  refine wp_region_any hm ?_
  obtain ⟨k, hst, hlen⟩ := Ck.of hC
  have hR' : R c τ (H ++ List.replicate q .free) [] a { w with drawn := w.drawn + 1 } := R.reserve _ _ (by obtain ⟨pl, h⟩ := hR; exact ⟨pl, h.drew⟩)
  have hnl : ∀ j, ¬ lsd (Array.replicate l.length false) j := fun j h => by
    by_cases hj : j < l.length <;> simp [lsd, Array.getD, hj] at h
  have v : Inv P l cl H.length τ [] 0 (fun _ => .any) (fun _ => 0) (H ++ List.replicate q .free) (H ++ List.replicate q .free) (Array.replicate l.length false) :=
    ⟨fun i hi => (by cases hi), fun i hi => (by cases hi), fun i hi => absurd hi (hnl i), fun i hi => (by cases hi), fun i hi => (by cases hi), fun i hi => (by cases hi), fun i hi => (by cases hi), rfl, by simp, fun _ _ => rfl, fun i hi => (by cases hi)⟩
  have hcl : Closed l (Array.replicate l.length false) := fun j o _ hj => absurd hj (hnl j)
  obtain ⟨pre2, rest2, r2, vals2, slot2, H2, a1, a2, a3, a4, a5, a6⟩ := Inv.advance (sm := sm) k hKT st [] 0 _ _ _ v hst (h (Q .normal) fun _ _ h => h)
  have := any_order (c := c) (P := P) k hKT (hn ▸ hd) hc0 (K := Q .normal) (Q := fun e a' w' => ∃ τ' H', R c τ' H' [] a' w' ∧ Q e τ' H') (fun τ' H' a' w' hk hr => ⟨τ', H', hr, hk⟩) l.length (List.range l.length) pre2 rest2 r2 vals2 slot2 H2 _ (Array.replicate l.length false) a { w with drawn := w.drawn + 1 } (by simp) (fun i hi _ => List.mem_range.2 hi) (by simp) hcl a1 a2 a3
    (fun i hi => a5 i (.inr (hlen i hi))) a6 (by
      have e : pre2.filter (fun j => (Array.replicate l.length false).getD j false) = [] := List.filter_eq_nil_iff.2 fun j _ => hnl j
      rw [e]; exact hR')
  simpa using this
theorem zg1 {sm : List Nat} (hKT : ∀ k, KT k = true → Maps.Keyed P k) (hc0 : Kp c sm) {id : Nat} {l : List Oper} {y : Code} {n : Nat} (hn : c.nt = n) (hm : P.follows .mixedOrders = true) (hd : zii n l = true) (st : List (Nat × List Nat)) (cl : List (List Nat)) (q : Nat) (hC : chC l cl st = true)
    (h : ∀ K : Fr → za0 → Prop, (∀ τ H, AWp P c y Q τ H → K τ H) → sS P KT sm H.length τ 0 (stg l st) τ (H ++ List.replicate q .free) K) : AWp P c (.seq (.region id l.toArray true) y) Q τ H :=
  zmt (zni hKT hc0 hn hm hd st cl q hC fun K hK => h K fun τ H hh => hK τ H hh)
end
section
variable {P : Program} {KT : TypeId → Bool} {sm : List Nat} {l : List (Oper × List Oper)} {chk : List Oper} {τ τ0 : Fr} {H : za0} {N r e : Nat} {d : Option Tmp} {ty : TypeId} {pos : String} {af : Array Edge} {K : Fr → za0 → Prop}
/-- What was looked at, looked at again; then the rest. -/
def rT {K : Prop} (P : Program) (KT : TypeId → Bool) (N : Nat) (chk : List Oper) (τ : Fr) (H : za0) (_ : Tg K) : Prop := reK P KT N chk τ H K
theorem zfv {K : Prop} : rT P KT N [] τ H (tg K) = K := rfl
theorem zf2 {K : Prop} {t : TypeId} {y : Operand} : rT P KT N (⟨some e, .load t y, ty, pos, af, none⟩ :: chk) τ H (tg K) = (oK (za8 P N H t (zbo τ y)) <| tg fun x => x = τ e ∧ rT P KT N chk τ H (tg K)) := by
  have h : (fun x => (τ.put (some e) x) e = τ e ∧ reK P KT N chk τ H K) = fun x => x = τ e ∧ reK P KT N chk τ H K := funext fun x => by simp only [Fr.put, if_true]
  exact congrArg (optK (za8 P N H t (zbo τ y))) h
theorem zgm {ops : List Oper} : stg ops [] = [] := rfl
theorem zfc {ops : List Oper} {i : Nat} {c : List Nat} {st : List (Nat × List Nat)} : stg ops ((i, c) :: st) = (ops.getD i op0, c.map fun j => ops.getD j op0) :: stg ops st := rfl
theorem zid : sS P KT sm N τ0 r [] τ H K = K τ H := rfl
theorem zg2 {y : Operand} : sS P KT sm N τ0 r ((⟨d, .move y, ty, pos, af, none⟩, chk) :: l) τ H K = (sS P KT sm N τ0 r l (τ.put d (zbo τ y)) H K) := by simp [sS, oS, anc, sE, zeq, GK, cE, kOf, zfm, opF, zgg, lays]
theorem ztc {y : Operand} : sS P KT sm N τ0 r ((⟨d, .assign y, ty, pos, af, none⟩, chk) :: l) τ H K = (sS P KT sm N τ0 r l (τ.put d (zbo τ y)) H K) := by simp [sS, oS, anc, sE, zeq, GK, cE, kOf, zfm, opF, zgg, lays]
theorem zgn {t : TypeId} {y : Operand} : sS P KT sm N τ0 r ((⟨d, .load t y, ty, pos, af, none⟩, chk) :: l) τ H K = (oK (za8 P N H t (zbo τ y)) <| tg fun x => sS P KT sm N τ0 r l (τ.put d x) H K) := rfl
theorem zll {t : TypeId} {y : Operand} {f : Nat} : sS P KT sm N τ0 r ((⟨d, .fieldAddr t y f, ty, pos, af, none⟩, chk) :: l) τ H K = (oK (zam P t f (zbo τ y)) <| tg fun x => sS P KT sm N τ0 r l (τ.put d x) H K) := rfl
theorem sS_ia {t : TypeId} {y z : Operand} : sS P KT sm N τ0 r ((⟨d, .indexAddr t y z, ty, pos, af, none⟩, chk) :: l) τ H K = (oK (za2 P t (zbo τ y) (zbo τ z)) <| tg fun x => sS P KT sm N τ0 r l (τ.put d x) H K) := rfl
theorem sS_bin {op : BinOp} {t t' : TypeId} {y z : Operand} : sS P KT sm N τ0 r ((⟨d, .binOp op t y z t', ty, pos, af, none⟩, chk) :: l) τ H K = (oK (binF P op t (zbo τ y) (zbo τ z)) <| tg fun x => sS P KT sm N τ0 r l (τ.put d x) H K) := rfl
theorem sS_build {t : TypeId} {ps : Array (Nat × Operand)} : sS P KT sm N τ0 r ((⟨d, .build t ps, ty, pos, af, none⟩, chk) :: l) τ H K = (oK (zdx P t (ps.toList.map fun p => (p.1, zbo τ p.2))) <| tg fun x => sS P KT sm N τ0 r l (τ.put d x) H K) := rfl
theorem sS_extract {y : Operand} {ix : Nat} : sS P KT sm N τ0 r ((⟨d, .extract y ix, ty, pos, af, none⟩, chk) :: l) τ H K = (oK (match zbo τ y with | .tup vs => vs[ix]? | _ => none) <| tg fun x => sS P KT sm N τ0 r l (τ.put d x) H K) := rfl
theorem zir {y : Operand} : sS P KT sm N τ0 r ((⟨d, .nilCheck y, ty, pos, af, none⟩, chk) :: l) τ H K = (oK (if zev (zbo τ y) then some (zbo τ y) else none) <| tg fun x => sS P KT sm N τ0 r l (τ.put d x) H K) := rfl
theorem zfd {f : FuncId} {args : Array Operand} {ts : Array TypeId} : sS P KT sm N τ0 r ((⟨d, .call ⟨.value (.func f), args, ts⟩, ty, pos, af, none⟩, chk) :: l) τ H K = (kE P sm N τ0 τ H ((zbo τ (.func f))) (args.toList.map (zbo τ)) <| tg fun x H' => rT P KT N chk (τ.put d x) H' (tg (sS P KT sm N τ0 r l (τ.put d x) H' K))) := rfl
theorem zma {f : Nat} {args : Array Operand} {ts : Array TypeId} : sS P KT sm N τ0 r ((⟨d, .call ⟨.value (.tmp f), args, ts⟩, ty, pos, af, none⟩, chk) :: l) τ H K = (kE P sm N τ0 τ H ((zbo τ (.tmp f))) (args.toList.map (zbo τ)) <| tg fun x H' => rT P KT N chk (τ.put d x) H' (tg (sS P KT sm N τ0 r l (τ.put d x) H' K))) := rfl
theorem zrw {t : TypeId} : sS P KT sm N τ0 r ((⟨d, .alloc t, ty, pos, af, none⟩, chk) :: l) τ H K = (oK (zdl P N r [] (zbo τ) (.alloc t) H []) <| tg fun p => sS P KT sm N τ0 (r + 1) l (τ.put d p.1) p.2.1 K) := rfl
theorem sS_bs {t : TypeId} {n : Nat} {ps : Array (Nat × Operand)} : sS P KT sm N τ0 r ((⟨d, .buildSlice t n ps, ty, pos, af, none⟩, chk) :: l) τ H K = (oK (zdl P N r [] (zbo τ) (.buildSlice t n ps) H []) <| tg fun p => sS P KT sm N τ0 (r + 1) l (τ.put d p.1) p.2.1 K) := rfl
theorem sS_app {args : Array Operand} {ts : Array TypeId} : sS P KT sm N τ0 r ((⟨d, .call ⟨.builtin .append, args, ts⟩, ty, pos, af, none⟩, chk) :: l) τ H K = (oK (layF P H.length (zbo τ) (.call ⟨.builtin .append, args, ts⟩) H) <| tg fun p => rT P KT N chk (τ.put d p.1) (zbd H p.2.2 ++ [p.2.1]) (tg (sS P KT sm N τ0 r l (τ.put d p.1) (zbd H p.2.2 ++ [p.2.1]) K))) := rfl
theorem zhl {t : TypeId} {y z : Operand} : sS P KT sm N τ0 r ((⟨d, .store t y z, ty, pos, af, none⟩, chk) :: l) τ H K = (oK (zb4 P t (zbo τ y) (zbo τ z) H [] 0) <| tg fun H' => rT P KT N chk (τ.put d (.d (.val undef))) H' (tg (sS P KT sm N τ0 r l (τ.put d (.d (.val undef))) H' K))) := rfl
theorem sS_mu {t : TypeId} {y z u : Operand} : sS P KT sm N τ0 r ((⟨d, .mapUpdate t y z u, ty, pos, af, none⟩, chk) :: l) τ H K = (oK (mapF P KT (zbo τ) (.mapUpdate t y z u) H []) <| tg fun p => rT P KT N chk (τ.put d p.1) p.2 (tg (sS P KT sm N τ0 r l (τ.put d p.1) p.2 K))) := rfl
theorem sS_me {t : TypeId} {y z : Operand} : sS P KT sm N τ0 r ((⟨d, .mapEntry t y z, ty, pos, af, none⟩, chk) :: l) τ H K = (oK (mapF P KT (zbo τ) (.mapEntry t y z) H []) <| tg fun p => rT P KT N chk (τ.put d p.1) p.2 (tg (sS P KT sm N τ0 r l (τ.put d p.1) p.2 K))) := rfl
theorem sS_es {t : TypeId} {y z u : Operand} : sS P KT sm N τ0 r ((⟨d, .entryStore t y z u, ty, pos, af, none⟩, chk) :: l) τ H K = (oK (mapF P KT (zbo τ) (.entryStore t y z u) H []) <| tg fun p => rT P KT N chk (τ.put d p.1) p.2 (tg (sS P KT sm N τ0 r l (τ.put d p.1) p.2 K))) := rfl
end
end Go.Proofs.Ytgfnpfchdlcoeaa
