/- Of no program: the abstract machine's run, as equations, operation by operation. -/
import Derived.Test.YtapjobndmmkanaaGreatA20
set_option linter.unusedVariables false
set_option linter.unusedSimpArgs false
namespace Go.Proofs.YtapjobndmmkanaaGreat
open Go Go.RowKit
section
section
variable {P:Program} {N:Nat} {H:av} {ρ:Operand→AV} {K:AV→Prop} {t e:TypeId} {s k n i j id off o:Nat} {cs:List D}
def ot(P:Program)(t:TypeId):Option (Nat × List D × Nat):=
 match fB P t with
 |some (none,e,s)=>match fu P e,oA P e with
  |some zs,some b=>if zs.length=s∧0<s∧zs.all D.one=true then some (s,zs,b)else none
  |_,_=>none
 |_=>none
def j8(P:Program)(t:TypeId):Option (List D):=match fu P t with|some zs=>if zs.all D.one=true then some zs else none|none=>none
theorem Aj{zs:List D}{b:Nat}(h:ot P t=some (s,zs,b)):∃e,fB P t=some (none,e,s)∧fu P e=some zs∧oA P e=some b∧zs.length=s∧0<s∧zs.all D.one=true:=by
 unfold ot at h
 split at h
 ·rename_i e s' he
  split at h
  ·rename_i zs' b' hz hb
   split at h
   ·rename_i hc
    cases h
    exact⟨e,he,hz,hb,hc⟩
   ·cases h
  ·cases h
 ·cases h
theorem QZ{zs:List D}(h:j8 P t=some zs):fu P t=some zs∧zs.all D.one=true:=by
 unfold j8 at h
 split at h
 ·rename_i zs' hz
  split at h
  ·cases h;exact⟨hz,‹_›⟩
  ·cases h
 ·cases h
theorem jfu{d:Int}:nJ d none=some d:=rfl
theorem jfv{d m:Int}{kd:IntKind}:nJ d (some (.d (.val (.int kd m))))=some m:=rfl
variable {KV:Value→Prop} {a b:Int} {kk:IntKind}
theorem Ge{m:Int}(h1: -9223372036854775808≤m)(h2:m<9223372036854775808):IntKind.i64.wrap m=m:=by simp[IntKind.wrap,IntKind.bits,IntKind.signed];omega
theorem yec(h1:0≤a)(h2:0<b)(h3:a<9223372036854775808):(∃r,iO P .quo t (.int .i64 a) (.int .i64 b)=some r∧KV r)=KV (.int .i64 (a / b)):=by
 have e:a.tdiv b=a / b:=Int.tdiv_eq_ediv_of_nonneg h1
 have h4:0≤a / b:=Int.ediv_nonneg h1 (by omega)
 have h5:a / b≤a:=Int.ediv_le_self _ h1
 simp[iO,qp,e,Ge (show -9223372036854775808≤a / b by omega) (show a / b<9223372036854775808 by omega),show b≠0 by omega]
theorem yed(h1:0≤a)(h2:0<b):(∃r,iO P .rem t (.int kk a) (.int kk b)=some r∧KV r)=KV (.int kk (a % b)):=by
 have e:a.tmod b=a % b:=Int.tmod_eq_emod_of_nonneg h1
 simp[iO,qp,e,show b≠0 by omega]
end

section
variable {P:Program} {fr:List FuncId} {ops l:List Oper} {τ:Fr} {H:av} {sh:List (Nat × Nat)} {N i:Nat} {d:Option Tmp} {ty:TypeId} {pos:String} {af:Array Edge} {K:Fr→av→Prop} {KD:Fr→av→List (Nat × Nat)→Prop}
end
end
section
section
variable {P:Program} {fr:List FuncId} {ops:List Oper} {N:Nat}
def vr(m:List (Nat × Nat)):List Edge→List Nat
 |[]=>[]
 |e::l=>if Region.binds .any e then(match m.lookup e.on with|some r=>r::vr m l|none=>vr m l)else vr m l
def xz(P:Program)(fr:List FuncId)(N r:Nat)(fresh:Bool)(m:List (Nat × Nat))(o:Oper)(τ:Fr)(H:av)(sh:List (Nat × Nat))(K:AV→av→List (Nat × Nat)→Prop):Prop:=
 match gx fr o.op with
 |0=>∃x,iq P N H (bu τ) o.op x∧K x H sh
 |2=>∃H',vy P (bu τ) o.op H sh (if fresh then N else 0) H'∧K (.d (.val undef)) H' sh
 |4=>∃x H',pD P (bu τ) o.op H sh x H'∧K x H' sh
 |_=>H[N+r]? =some .free∧(∀p∈sh,p.1≠N+r∧p.2≠N+r)∧yq N (vr m o.after.toList) (bu τ) o.op∧∃x H' sh',kI P true (N+r) (bu τ) o.op H sh x H' sh'∧K x H' sh'
def DH(P:Program)(fr:List FuncId)(ops:List Oper)(N:Nat):Nat→Nat→List (Nat × Nat)→List Oper→Fr→av→List (Nat × Nat)→(Fr→av→List (Nat × Nat)→Prop)→Prop
 |_,_,_,[],τ,H,sh,K=>K τ H sh
 |i,r,m,o::l,τ,H,sh,K=>∃b,lO ops τ o=some b∧
   (b=true→xz P fr N r (vO ops o) m o τ H sh fun x H' sh'=>DH P fr ops N (i+1) (if bI fr o then r+1 else r) (if bI fr o then(i,r)::m else m) l (τ.put o.dst x) H' sh' K)∧
   (b=false→DH P fr ops N (i+1) (if bI fr o then r+1 else r) (if bI fr o then(i,r)::m else m) l (τ.put o.dst (.d (.val undef))) H sh K)
theorem Rl{m:List (Nat × Nat)}{al:List Nat}:∀(l:List Edge),(∀e∈l,Region.binds .any e=true→∀r,m.lookup e.on=some r→r∈al)→∀r∈vr m l,r∈al
 |[],_,r,hr=>by cases hr
 |e::l,h,r,hr=>by
  have ih:=Rl (m:=m) (al:=al) l fun e' P2=>h e' (vX _ P2)
  unfold vr at hr
  split at hr
  ·rename_i hb
   split at hr
   ·rename_i r' hl
    rcases List.mem_cons.1 hr with rfl|hr
    ·exact h e List.mem_cons_self hb _ hl
    ·exact ih r hr
   ·exact ih r hr
  ·exact ih r hr
theorem jrg{i:Nat}{o:Oper}(h:ops[i]? =some o):kU fr ops (i+1)=if bI fr o then kU fr ops i+1 else kU fr ops i:=by
 unfold kU
 obtain⟨hi,rfl⟩:=ew.1 h
 rw[List.take_succ_eq_append_getElem hi,List.countP_append,List.countP_singleton]
 split<;>rfl
theorem Ml{K:Fr→av→List (Nat × Nat)→Prop}:∀(l:List Oper) (i r:Nat) (m:List (Nat × Nat)) (τ:Fr) (H:av) (sh:List (Nat × Nat)),(∀j,l[j]? =ops[i+j]?)→r=kU fr ops i→
  (∀k q,m.lookup k=some q→∃o,ops[k]? =some o∧bI fr o=true∧q=kU fr ops k)→DH P fr ops N i r m l τ H sh K→DI P fr ops N i l τ H sh K
 |[],_,_,_,_,_,_,_,_,_,h=>h
 |o::l,i,r,m,τ,H,sh,hl,hr,hm,h=>by
  have h0:ops[i]? =some o:=by simpa using(hl 0).symm
  have gr:∀j,l[j]? =ops[i+1+j]? :=fun j=>by have:=hl (j+1);simpa[Nat.add_assoc,Nat.add_comm 1 j]using this
  have GY:(if bI fr o then r+1 else r)=kU fr ops (i+1):=by rw[jrg h0,hr]
  have sI:∀k q,(if bI fr o then(i,r)::m else m).lookup k=some q→∃o,ops[k]? =some o∧bI fr o=true∧q=kU fr ops k:=by
   intro k q hk
   split at hk
   ·rename_i PR
    rw[List.lookup_cons]at hk
    split at hk
    ·rename_i e
     cases hk
     have e':k=i:=by simpa using e
     subst e'
     exact⟨o,h0,PR,hr⟩
    ·exact hm k q hk
   ·exact hm k q hk
  have ih:=fun τ' H' sh' hh=>Ml (K:=K) l (i+1) _ _ τ' H' sh' gr GY sI hh
  obtain⟨b,hg,ht,hf⟩:=h
  refine⟨b,hg,fun hb=>?_,fun hb=>ih _ _ _ (hf hb)⟩
  have ht:=ht hb
  unfold xz at ht
  unfold qW
  simp only[if_true]
  split at ht
  ·rename_i hk
   obtain⟨x,hq,hh⟩:=ht
   exact⟨x,H,sh,by simp only[hk];exact⟨hq,trivial,trivial⟩,ih _ _ _ hh⟩
  ·rename_i hk
   obtain⟨H',hq,hh⟩:=ht
   exact⟨_,H',sh,by simp only[hk];exact⟨hq,trivial,trivial⟩,ih _ _ _ hh⟩
  ·rename_i hk
   obtain⟨x,H',hq,hh⟩:=ht
   exact⟨x,H',sh,by simp only[hk];exact⟨hq,trivial⟩,ih _ _ _ hh⟩
  ·rename_i eZ qP A6
   obtain⟨h1,h2,h3,x,H',sh',hq,hh⟩:=ht
   have Lg:yq N (Gf fr ops o) (bu τ) o.op:=by
    have uy:∀q∈vr m o.after.toList,q∈Gf fr ops o:=Rl _ fun e he hb q hq=>by
     obtain⟨o',wI,PR,rfl⟩:=hm _ _ hq
     exact mF.2 ⟨e,List.mem_filter.2 ⟨he,by simp[hb,wI,PR]⟩,rfl⟩
    unfold yq at h3 ⊢
    split
    ·split
     ·rename_i cl fT _ hb
      simp only[fT,hb]at h3
      intro y hy
      have:=h3 y hy
      unfold rM at this ⊢
      split
      ·rename_i e
       rw[e]at this
       simp only[Bool.or_eq_true,mZ,List.contains_eq_mem]at this ⊢
       rcases this with h|h
       ·exact .inl h
       ·exact .inr (uy _ h)
      ·rfl
     ·trivial
    ·trivial
   subst hr
   refine⟨x,H',sh',?_,ih _ _ _ hh⟩
   rcases C7 fr o.op with hk|hk|hk|hk|hk
   ·exact absurd hk eZ
   ·simp only[hk];exact⟨h1,h2,Lg,hq⟩
   ·exact absurd hk qP
   ·simp only[hk];exact⟨h1,h2,Lg,hq⟩
   ·exact absurd hk A6
end
section
variable {P:Program} {c:Cx} {τ:Fr} {H:av} {Q:Exit→Fr→av→Prop}
theorem jfw{fr:List FuncId}{id:Nat}{l:List Oper}{y:Code}{n:Nat}(hn:c.nt=n)(hm:P.follows .mixedOrders=true)(hd:pU n l=true){q:Nat}(hq:l.countP (bI fr)=q)(hB:yY fr l l.length 0 (Array.replicate l.length false)=true)
  (h:∀K:Fr→av→Prop,(∀τ H,ei P c y Q τ H→K τ H)→DH P fr l H.length 0 0 [] l τ (H++List.replicate q .free) [] fun τ' H' sh'=>K τ' (dK sh' H')):ei P c (.seq (.region id l.toArray true) y) Q τ H:=by
 subst hq
 exact Iy (Q1 fr hm (hn▸hd) hB (Ml l 0 0 [] _ _ _ (fun j=>by simp) rfl (fun k q h=>by cases h) (h _ fun _ _ h=>h)))
theorem yee{fr:List FuncId}{id:Nat}{l:List Oper}{n:Nat}(hn:c.nt=n)(hm:P.follows .mixedOrders=true)(hd:pU n l=true){q:Nat}(hq:l.countP (bI fr)=q)(hB:yY fr l l.length 0 (Array.replicate l.length false)=true)
  (h:∀K:Fr→av→Prop,(∀τ H,Q .normal τ H→K τ H)→DH P fr l H.length 0 0 [] l τ (H++List.replicate q .free) [] fun τ' H' sh'=>K τ' (dK sh' H')):ei P c (.region id l.toArray true) Q τ H:=by
 subst hq
 exact Q1 fr hm (hn▸hd) hB (Ml l 0 0 [] _ _ _ (fun j=>by simp) rfl (fun k q h=>by cases h) (h _ fun _ _ h=>h))
end
end
end Go.Proofs.YtapjobndmmkanaaGreat
