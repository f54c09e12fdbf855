/- Of no program: regions that draw and hold calls that move objects: the rule, and its run for simp. -/
import Derived.Test.YtignimmnnccblaaAX
set_option linter.unusedVariables false
set_option linter.unusedSimpArgs false
namespace Go.Proofs.Ytignimmnnccblaa
open Go Go.RowKit
section
variable {P : Program} {KT : TypeId → Bool} {c : Cx} {τ : Fr} {H : zar} {Q : Exit → Fr → zar → Prop}
theorem znf {sm : List Nat} (hKT : ∀ k, KT k = true → Maps.Keyed P k) (hc0 : Kp c sm) {id : Nat} {l : List Oper} {n : Nat} (hn : c.nt = n) (hm : P.follows .mixedOrders = true) (hd : zgt n l = true) (st : List (Nat × List Nat)) (cl : List (List Nat)) (q : Nat) (hC : chC l cl st = true)
  (h : ∀ K : Fr → zar → Prop, (∀ τ H, Q .normal τ H → K τ H) → sS P KT sm H.length τ 0 (stg l st) τ (H ++ List.replicate q .free) K) : AWp P c (.region id l.toArray true) Q τ H := fun a w hR => by
 refine wp_region_any hm ?_
 obtain ⟨k, hst, hlen⟩ := Ck.of hC
 have hR' : R c τ (H ++ List.replicate q .free) [] a { w with drawn := w.drawn + 1 } := R.reserve _ _ (by obtain ⟨pl, h⟩ := hR; exact ⟨pl, h.drew⟩)
 have hnl : ∀ j, ¬ lsd (Array.replicate l.length false) j := fun j h => by
  by_cases hj : j < l.length <;> simp [lsd, Array.getD, hj] at h
 have v : Inv P l cl H.length τ [] 0 (fun _ => .any) (fun _ => 0) (H ++ List.replicate q .free) (H ++ List.replicate q .free) (Array.replicate l.length false) :=
  ⟨fun i hi => (by cases hi), fun i hi => (by cases hi), fun i hi => absurd hi (hnl i), fun i hi => (by cases hi), fun i hi => (by cases hi), fun i hi => (by cases hi), fun i hi => (by cases hi), rfl, by simp, fun _ _ => rfl, fun i hi => (by cases hi)⟩
 have hcl : Closed l (Array.replicate l.length false) := fun j o _ hj => absurd hj (hnl j)
 obtain ⟨pre2, rest2, r2, vals2, slot2, H2, a1, a2, a3, a4, a5, a6⟩ := Inv.advance (sm := sm) k hKT st [] 0 _ _ _ v hst (h (Q .normal) fun _ _ h => h)
 have := jb6 (c := c) (P := P) k hKT (hn ▸ hd) hc0 (K := Q .normal) (Q := fun e a' w' => ∃ τ' H', R c τ' H' [] a' w' ∧ Q e τ' H') (fun τ' H' a' w' hk hr => ⟨τ', H', hr, hk⟩) l.length (List.range l.length) pre2 rest2 r2 vals2 slot2 H2 _ (Array.replicate l.length false) a { w with drawn := w.drawn + 1 } (by simp) (fun i hi _ => List.mem_range.2 hi) (by simp) hcl a1 a2 a3
  (fun i hi => a5 i (.inr (hlen i hi))) a6 (by
   have e : pre2.filter (fun j => (Array.replicate l.length false).getD j false) = [] := List.filter_eq_nil_iff.2 fun j _ => hnl j
   rw [e]; exact hR')
 simpa using this
theorem zd5 {sm : List Nat} (hKT : ∀ k, KT k = true → Maps.Keyed P k) (hc0 : Kp c sm) {id : Nat} {l : List Oper} {y : Code} {n : Nat} (hn : c.nt = n) (hm : P.follows .mixedOrders = true) (hd : zgt n l = true) (st : List (Nat × List Nat)) (cl : List (List Nat)) (q : Nat) (hC : chC l cl st = true)
  (h : ∀ K : Fr → zar → Prop, (∀ τ H, AWp P c y Q τ H → K τ H) → sS P KT sm H.length τ 0 (stg l st) τ (H ++ List.replicate q .free) K) : AWp P c (.seq (.region id l.toArray true) y) Q τ H :=
 zla (znf hKT hc0 hn hm hd st cl q hC fun K hK => h K fun τ H hh => hK τ H hh)
end
section
variable {P : Program} {KT : TypeId → Bool} {sm : List Nat} {l : List (Oper × List Oper)} {chk : List Oper} {τ τ0 : Fr} {H : zar} {N r e : Nat} {d : Option Tmp} {ty : TypeId} {pos : String} {af : Array Edge} {K : Fr → zar → Prop}
def rT {K : Prop} (P : Program) (KT : TypeId → Bool) (N : Nat) (chk : List Oper) (τ : Fr) (H : zar) (_ : Tg K) : Prop := reK P KT N chk τ H K
theorem jih {K : Prop} : rT P KT N [] τ H (tg K) = K := rfl
theorem jb7 {K : Prop} {t : TypeId} {y : Operand} : rT P KT N (⟨some e, .load t y, ty, pos, af, none⟩ :: chk) τ H (tg K) = (oK (loadF P N H t (za2 τ y)) <| tg fun x => x = τ e ∧ rT P KT N chk τ H (tg K)) := by
 have h : (fun x => (τ.put (some e) x) e = τ e ∧ reK P KT N chk τ H K) = fun x => x = τ e ∧ reK P KT N chk τ H K := funext fun x => by simp only [Fr.put, if_true]
 exact congrArg (ztw (loadF P N H t (za2 τ y))) h
theorem zr8 {K : Prop} {t : TypeId} {y z : Operand} {ok : Bool} : rT P KT N (⟨some e, .lookup t y z ok, ty, pos, af, none⟩ :: chk) τ H (tg K) = (oK (zep P N H KT t (za2 τ y) (za2 τ z) ok) <| tg fun x => x = τ e ∧ rT P KT N chk τ H (tg K)) := by
 have h : (fun x => (τ.put (some e) x) e = τ e ∧ reK P KT N chk τ H K) = fun x => x = τ e ∧ reK P KT N chk τ H K := funext fun x => by simp only [Fr.put, if_true]
 exact congrArg (ztw (zep P N H KT t (za2 τ y) (za2 τ z) ok)) h
theorem jb8 {ops : List Oper} : stg ops [] = [] := rfl
theorem zv4 {ops : List Oper} {i : Nat} {c : List Nat} {st : List (Nat × List Nat)} : stg ops ((i, c) :: st) = (ops.getD i op0, c.map fun j => ops.getD j op0) :: stg ops st := rfl
theorem jii : sS P KT sm N τ0 r [] τ H K = K τ H := rfl
theorem jb9 {y : Operand} : sS P KT sm N τ0 r ((⟨d, .move y, ty, pos, af, none⟩, chk) :: l) τ H K = (sS P KT sm N τ0 r l (τ.put d (za2 τ y)) H K) := by simp [sS, oS, anc, sE, zcv, GK, cE, kOf, zdc, opF, zdv, lays]
theorem zr9 {y : Operand} : sS P KT sm N τ0 r ((⟨d, .assign y, ty, pos, af, none⟩, chk) :: l) τ H K = (sS P KT sm N τ0 r l (τ.put d (za2 τ y)) H K) := by simp [sS, oS, anc, sE, zcv, GK, cE, kOf, zdc, opF, zdv, lays]
theorem jca {c a b : Operand} : sS P KT sm N τ0 r ((⟨d, .pick c a b, ty, pos, af, none⟩, chk) :: l) τ H K = (oK (match za2 τ c with | .d (.val (.bool t)) => some (if t then za2 τ a else za2 τ b) | _ => none) <| tg fun x => sS P KT sm N τ0 r l (τ.put d x) H K) := rfl
theorem jcb {t : TypeId} {y : Operand} : sS P KT sm N τ0 r ((⟨d, .load t y, ty, pos, af, none⟩, chk) :: l) τ H K = (oK (loadF P N H t (za2 τ y)) <| tg fun x => sS P KT sm N τ0 r l (τ.put d x) H K) := rfl
theorem joy {t : TypeId} {y : Operand} {f : Nat} : sS P KT sm N τ0 r ((⟨d, .fieldAddr t y f, ty, pos, af, none⟩, chk) :: l) τ H K = (oK (fieldAddrF P t f (za2 τ y)) <| tg fun x => sS P KT sm N τ0 r l (τ.put d x) H K) := rfl
theorem zv5 {t : TypeId} {y : Operand} {f : Nat} : sS P KT sm N τ0 r ((⟨d, .field t y f, ty, pos, af, none⟩, chk) :: l) τ H K = (oK (fieldF P t f (za2 τ y)) <| tg fun x => sS P KT sm N τ0 r l (τ.put d x) H K) := rfl
theorem joz {t : TypeId} {y z : Operand} : sS P KT sm N τ0 r ((⟨d, .indexAddr t y z, ty, pos, af, none⟩, chk) :: l) τ H K = (oK (indexAddrF P t (za2 τ y) (za2 τ z)) <| tg fun x => sS P KT sm N τ0 r l (τ.put d x) H K) := rfl
theorem zv6 {t : TypeId} {y z : Operand} : sS P KT sm N τ0 r ((⟨d, .index t y z, ty, pos, af, none⟩, chk) :: l) τ H K = (oK (indexF P t (za2 τ y) (za2 τ z)) <| tg fun x => sS P KT sm N τ0 r l (τ.put d x) H K) := rfl
theorem zv7 {t : TypeId} {y : Operand} {lo hi : Option Operand} : sS P KT sm N τ0 r ((⟨d, .slice t y lo hi none, ty, pos, af, none⟩, chk) :: l) τ H K = (oK (sliceF P N H t (za2 τ y) (lo.map (za2 τ)) (hi.map (za2 τ))) <| tg fun x => sS P KT sm N τ0 r l (τ.put d x) H K) := rfl
theorem jij {op : BinOp} {t t' : TypeId} {y z : Operand} : sS P KT sm N τ0 r ((⟨d, .binOp op t y z t', ty, pos, af, none⟩, chk) :: l) τ H K = (oK (zrs P op t (za2 τ y) (za2 τ z)) <| tg fun x => sS P KT sm N τ0 r l (τ.put d x) H K) := rfl
theorem jo0 {op : UnOp} {t : TypeId} {y : Operand} : sS P KT sm N τ0 r ((⟨d, .unOp op t y, ty, pos, af, none⟩, chk) :: l) τ H K = (oK (unF op (za2 τ y)) <| tg fun x => sS P KT sm N τ0 r l (τ.put d x) H K) := rfl
theorem jcc {s t : TypeId} {y : Operand} : sS P KT sm N τ0 r ((⟨d, .convert s t y, ty, pos, af, none⟩, chk) :: l) τ H K = (oK (convF P s t (za2 τ y)) <| tg fun x => sS P KT sm N τ0 r l (τ.put d x) H K) := rfl
theorem zv8 {t : TypeId} {ps : Array (Nat × Operand)} : sS P KT sm N τ0 r ((⟨d, .build t ps, ty, pos, af, none⟩, chk) :: l) τ H K = (oK (buildF P t (ps.toList.map fun p => (p.1, za2 τ p.2))) <| tg fun x => sS P KT sm N τ0 r l (τ.put d x) H K) := rfl
theorem zos {y : Operand} {ix : Nat} : sS P KT sm N τ0 r ((⟨d, .extract y ix, ty, pos, af, none⟩, chk) :: l) τ H K = (oK (match za2 τ y with | .tup vs => vs[ix]? | _ => none) <| tg fun x => sS P KT sm N τ0 r l (τ.put d x) H K) := rfl
theorem jcd {y : Operand} : sS P KT sm N τ0 r ((⟨d, .nilCheck y, ty, pos, af, none⟩, chk) :: l) τ H K = (oK (if nilOk (za2 τ y) then some (za2 τ y) else none) <| tg fun x => sS P KT sm N τ0 r l (τ.put d x) H K) := rfl
theorem zsa {t : TypeId} {y z : Operand} {ok : Bool} : sS P KT sm N τ0 r ((⟨d, .lookup t y z ok, ty, pos, af, none⟩, chk) :: l) τ H K = (oK (zep P N H KT t (za2 τ y) (za2 τ z) ok) <| tg fun x => sS P KT sm N τ0 r l (τ.put d x) H K) := rfl
theorem jo1 {fn : Fn} {fi ca : Array Operand} : sS P KT sm N τ0 r ((⟨d, .makeFunc fn fi ca, ty, pos, af, none⟩, chk) :: l) τ H K = (sS P KT sm N τ0 r l (τ.put d (.clo fn (fi.toList.map (za2 τ)) (ca.toList.map (za2 τ)))) H K) := by simp [sS, oS, anc, sE, zcv, GK, cE, kOf, zdc, opF, zdv, lays]
theorem jik {args : Array Operand} {ts : Array TypeId} : sS P KT sm N τ0 r ((⟨d, .call ⟨.builtin .len, args, ts⟩, ty, pos, af, none⟩, chk) :: l) τ H K = (oK (builtinF P .len ts.toList (args.toList.map (za2 τ))) <| tg fun x => sS P KT sm N τ0 r l (τ.put d x) H K) := rfl
theorem jil {args : Array Operand} {ts : Array TypeId} : sS P KT sm N τ0 r ((⟨d, .call ⟨.builtin .max, args, ts⟩, ty, pos, af, none⟩, chk) :: l) τ H K = (oK (builtinF P .max ts.toList (args.toList.map (za2 τ))) <| tg fun x => sS P KT sm N τ0 r l (τ.put d x) H K) := rfl
theorem jim {args : Array Operand} {ts : Array TypeId} : sS P KT sm N τ0 r ((⟨d, .call ⟨.builtin .min, args, ts⟩, ty, pos, af, none⟩, chk) :: l) τ H K = (oK (builtinF P .min ts.toList (args.toList.map (za2 τ))) <| tg fun x => sS P KT sm N τ0 r l (τ.put d x) H K) := rfl
theorem zv9 {f : FuncId} {args : Array Operand} {ts : Array TypeId} : sS P KT sm N τ0 r ((⟨d, .call ⟨.value (.func f), args, ts⟩, ty, pos, af, none⟩, chk) :: l) τ H K = (kE P sm N τ0 τ H ((za2 τ (.func f))) (args.toList.map (za2 τ)) <| tg fun x H' => rT P KT N chk (τ.put d x) H' (tg (sS P KT sm N τ0 r l (τ.put d x) H' K))) := rfl
theorem zwa {f : Nat} {args : Array Operand} {ts : Array TypeId} : sS P KT sm N τ0 r ((⟨d, .call ⟨.value (.tmp f), args, ts⟩, ty, pos, af, none⟩, chk) :: l) τ H K = (kE P sm N τ0 τ H ((za2 τ (.tmp f))) (args.toList.map (za2 τ)) <| tg fun x H' => rT P KT N chk (τ.put d x) H' (tg (sS P KT sm N τ0 r l (τ.put d x) H' K))) := rfl
theorem jin {t : TypeId} {y : Operand} : sS P KT sm N τ0 r ((⟨d, .box t y, ty, pos, af, none⟩, chk) :: l) τ H K = (oK (layEF P N r [] (za2 τ) (.box t y) H []) <| tg fun p => sS P KT sm N τ0 (r + 1) l (τ.put d p.1) p.2.1 K) := rfl
theorem zwb {t : TypeId} : sS P KT sm N τ0 r ((⟨d, .alloc t, ty, pos, af, none⟩, chk) :: l) τ H K = (oK (layEF P N r [] (za2 τ) (.alloc t) H []) <| tg fun p => sS P KT sm N τ0 (r + 1) l (τ.put d p.1) p.2.1 K) := rfl
theorem jce {t : TypeId} {y z : Operand} : sS P KT sm N τ0 r ((⟨d, .makeSlice t y z, ty, pos, af, none⟩, chk) :: l) τ H K = (oK (layEF P N r [] (za2 τ) (.makeSlice t y z) H []) <| tg fun p => sS P KT sm N τ0 (r + 1) l (τ.put d p.1) p.2.1 K) := rfl
theorem jo2 {t : TypeId} {n : Nat} {ps : Array (Nat × Operand)} : sS P KT sm N τ0 r ((⟨d, .buildSlice t n ps, ty, pos, af, none⟩, chk) :: l) τ H K = (oK (layEF P N r [] (za2 τ) (.buildSlice t n ps) H []) <| tg fun p => sS P KT sm N τ0 (r + 1) l (τ.put d p.1) p.2.1 K) := rfl
theorem jio {args : Array Operand} {ts : Array TypeId} : sS P KT sm N τ0 r ((⟨d, .call ⟨.builtin .append, args, ts⟩, ty, pos, af, none⟩, chk) :: l) τ H K = (oK (layF P H.length (za2 τ) (.call ⟨.builtin .append, args, ts⟩) H) <| tg fun p => rT P KT N chk (τ.put d p.1) (deadH H p.2.2 ++ [p.2.1]) (tg (sS P KT sm N τ0 r l (τ.put d p.1) (deadH H p.2.2 ++ [p.2.1]) K))) := rfl
theorem jo3 {t : TypeId} {y : Option Operand} : sS P KT sm N τ0 r ((⟨d, .makeMap t y, ty, pos, af, none⟩, chk) :: l) τ H K = (oK (layEF P N r [] (za2 τ) (.makeMap t y) H []) <| tg fun p => sS P KT sm N τ0 (r + 1) l (τ.put d p.1) p.2.1 K) := rfl
theorem zwc {t : TypeId} {y z : Operand} : sS P KT sm N τ0 r ((⟨d, .store t y z, ty, pos, af, none⟩, chk) :: l) τ H K = (oK (storeF P t (za2 τ y) (za2 τ z) H [] 0) <| tg fun H' => rT P KT N chk (τ.put d (.d (.val undef))) H' (tg (sS P KT sm N τ0 r l (τ.put d (.d (.val undef))) H' K))) := rfl
theorem jo4 {t : TypeId} {y z u : Operand} : sS P KT sm N τ0 r ((⟨d, .mapUpdate t y z u, ty, pos, af, none⟩, chk) :: l) τ H K = (oK (zhx P KT (za2 τ) (.mapUpdate t y z u) H []) <| tg fun p => rT P KT N chk (τ.put d p.1) p.2 (tg (sS P KT sm N τ0 r l (τ.put d p.1) p.2 K))) := rfl
theorem jip {t : TypeId} {y z u : Operand} : sS P KT sm N τ0 r ((⟨d, .insert t y z u, ty, pos, af, none⟩, chk) :: l) τ H K = (oK (zhx P KT (za2 τ) (.insert t y z u) H []) <| tg fun p => rT P KT N chk (τ.put d p.1) p.2 (tg (sS P KT sm N τ0 r l (τ.put d p.1) p.2 K))) := rfl
theorem jo5 {t : TypeId} {y z : Operand} : sS P KT sm N τ0 r ((⟨d, .mapEntry t y z, ty, pos, af, none⟩, chk) :: l) τ H K = (oK (zhx P KT (za2 τ) (.mapEntry t y z) H []) <| tg fun p => rT P KT N chk (τ.put d p.1) p.2 (tg (sS P KT sm N τ0 r l (τ.put d p.1) p.2 K))) := rfl
theorem jo6 {t : TypeId} {y z u : Operand} : sS P KT sm N τ0 r ((⟨d, .entryStore t y z u, ty, pos, af, none⟩, chk) :: l) τ H K = (oK (zhx P KT (za2 τ) (.entryStore t y z u) H []) <| tg fun p => rT P KT N chk (τ.put d p.1) p.2 (tg (sS P KT sm N τ0 r l (τ.put d p.1) p.2 K))) := rfl
theorem jiq {args : Array Operand} {ts : Array TypeId} : sS P KT sm N τ0 r ((⟨d, .call ⟨.builtin .delete, args, ts⟩, ty, pos, af, none⟩, chk) :: l) τ H K = (oK (zhx P KT (za2 τ) (.call ⟨.builtin .delete, args, ts⟩) H []) <| tg fun p => rT P KT N chk (τ.put d p.1) p.2 (tg (sS P KT sm N τ0 r l (τ.put d p.1) p.2 K))) := rfl
theorem jir {args : Array Operand} {ts : Array TypeId} : sS P KT sm N τ0 r ((⟨d, .call ⟨.builtin .clear, args, ts⟩, ty, pos, af, none⟩, chk) :: l) τ H K = (oK (zhx P KT (za2 τ) (.call ⟨.builtin .clear, args, ts⟩) H []) <| tg fun p => rT P KT N chk (τ.put d p.1) p.2 (tg (sS P KT sm N τ0 r l (τ.put d p.1) p.2 K))) := rfl
end
end Go.Proofs.Ytignimmnnccblaa
