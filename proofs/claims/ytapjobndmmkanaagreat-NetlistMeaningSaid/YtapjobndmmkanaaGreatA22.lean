/- Of no program: the abstract machine's run, as equations, operation by operation. -/
import Derived.Test.YtapjobndmmkanaaGreatA20
set_option linter.unusedVariables false
set_option linter.unusedSimpArgs false
namespace Go.Proofs.YtapjobndmmkanaaGreat
open Go Go.RowKit
section
section
variable {P:Program} {N:Nat} {H:ak} {ρ:Operand→AV} {K:AV→Prop} {t e:TypeId} {s k n i j id off o:Nat} {cs:List D}
def nG(P:Program)(t:TypeId):Option (Nat × List D × Nat):=
 match fl P t with
 |some (none,e,s)=>match eK P e,oE P e with
  |some zs,some b=>if zs.length=s∧0<s∧zs.all D.one=true then some (s,zs,b)else none
  |_,_=>none
 |_=>none
def jO(P:Program)(t:TypeId):Option (List D):=match eK P t with|some zs=>if zs.all D.one=true then some zs else none|none=>none
theorem AB{zs:List D}{b:Nat}(h:nG P t=some (s,zs,b)):∃e,fl P t=some (none,e,s)∧eK P e=some zs∧oE P e=some b∧zs.length=s∧0<s∧zs.all D.one=true:=by
 unfold nG at h
 split at h
 ·rename_i e s' he
  split at h
  ·rename_i zs' b' hz hb
   split at h
   ·rename_i hc
    cases h
    exact⟨e,he,hz,hb,hc⟩
   ·cases h
  ·cases h
 ·cases h
theorem jbg{zs:List D}(h:jO P t=some zs):eK P t=some zs∧zs.all D.one=true:=by
 unfold jO at h
 split at h
 ·rename_i zs' hz
  split at h
  ·cases h;exact⟨hz,‹_›⟩
  ·cases h
 ·cases h
theorem jh9{d:Int}:nD d none=some d:=rfl
theorem jia{d m:Int}{kd:IntKind}:nD d (some (.d (.val (.int kd m))))=some m:=rfl
variable {KV:Value→Prop} {a b:Int} {kk:IntKind}
theorem GV{m:Int}(h1: -9223372036854775808≤m)(h2:m<9223372036854775808):IntKind.i64.wrap m=m:=by simp[IntKind.wrap,IntKind.bits,IntKind.signed];omega
theorem yjk(h1:0≤a)(h2:0<b)(h3:a<9223372036854775808):(∃r,gT P .quo t (.int .i64 a) (.int .i64 b)=some r∧KV r)=KV (.int .i64 (a / b)):=by
 have e:a.tdiv b=a / b:=Int.tdiv_eq_ediv_of_nonneg h1
 have h4:0≤a / b:=Int.ediv_nonneg h1 (by omega)
 have h5:a / b≤a:=Int.ediv_le_self _ h1
 simp[gT,pb,e,GV (show -9223372036854775808≤a / b by omega) (show a / b<9223372036854775808 by omega),show b≠0 by omega]
theorem yjl(h1:0≤a)(h2:0<b):(∃r,gT P .rem t (.int kk a) (.int kk b)=some r∧KV r)=KV (.int kk (a % b)):=by
 have e:a.tmod b=a % b:=Int.tmod_eq_emod_of_nonneg h1
 simp[gT,pb,e,show b≠0 by omega]
end

section
variable {P:Program} {fr:List FuncId} {ops l:List Oper} {τ:Fr} {H:ak} {sh:List (Nat × Nat)} {N i:Nat} {d:Option Tmp} {ty:TypeId} {pos:String} {af:Array Edge} {K:Fr→ak→Prop} {KD:Fr→ak→List (Nat × Nat)→Prop}
end
end
section
section
variable {P:Program} {fr:List FuncId} {ops:List Oper} {N:Nat}
def sn(m:List (Nat × Nat)):List Edge→List Nat
 |[]=>[]
 |e::l=>if Region.binds .any e then(match m.lookup e.on with|some r=>r::sn m l|none=>sn m l)else sn m l
def tO(P:Program)(fr:List FuncId)(N r:Nat)(fresh:Bool)(m:List (Nat × Nat))(o:Oper)(τ:Fr)(H:ak)(sh:List (Nat × Nat))(K:AV→ak→List (Nat × Nat)→Prop):Prop:=
 match fW fr o.op with
 |0=>∃x,gR P N H (aU τ) o.op x∧K x H sh
 |2=>∃H',wR P (aU τ) o.op H sh (if fresh then N else 0) H'∧K (.d (.val undef)) H' sh
 |4=>∃x H',pL P (aU τ) o.op H sh x H'∧K x H' sh
 |_=>H[N+r]? =some .free∧(∀p∈sh,p.1≠N+r∧p.2≠N+r)∧y4 N (sn m o.after.toList) (aU τ) o.op∧∃x H' sh',ka P true (N+r) (aU τ) o.op H sh x H' sh'∧K x H' sh'
def A9(P:Program)(fr:List FuncId)(ops:List Oper)(N:Nat):Nat→Nat→List (Nat × Nat)→List Oper→Fr→ak→List (Nat × Nat)→(Fr→ak→List (Nat × Nat)→Prop)→Prop
 |_,_,_,[],τ,H,sh,K=>K τ H sh
 |i,r,m,o::l,τ,H,sh,K=>∃b,kl ops τ o=some b∧
   (b=true→tO P fr N r (tY ops o) m o τ H sh fun x H' sh'=>A9 P fr ops N (i+1) (if bp fr o then r+1 else r) (if bp fr o then(i,r)::m else m) l (τ.put o.dst x) H' sh' K)∧
   (b=false→A9 P fr ops N (i+1) (if bp fr o then r+1 else r) (if bp fr o then(i,r)::m else m) l (τ.put o.dst (.d (.val undef))) H sh K)
theorem jbh{m:List (Nat × Nat)}{al:List Nat}:∀(l:List Edge),(∀e∈l,Region.binds .any e=true→∀r,m.lookup e.on=some r→r∈al)→∀r∈sn m l,r∈al
 |[],_,r,hr=>by cases hr
 |e::l,h,r,hr=>by
  have ih:=jbh (m:=m) (al:=al) l fun e' Rh=>h e' (wq _ Rh)
  unfold sn at hr
  split at hr
  ·rename_i hb
   split at hr
   ·rename_i r' hl
    rcases List.mem_cons.1 hr with rfl|hr
    ·exact h e List.mem_cons_self hb _ hl
    ·exact ih r hr
   ·exact ih r hr
  ·exact ih r hr
theorem juu{i:Nat}{o:Oper}(h:ops[i]? =some o):kO fr ops (i+1)=if bp fr o then kO fr ops i+1 else kO fr ops i:=by
 unfold kO
 obtain⟨hi,rfl⟩:=dX.1 h
 rw[List.take_succ_eq_append_getElem hi,List.countP_append,List.countP_singleton]
 split<;>rfl
theorem M5{K:Fr→ak→List (Nat × Nat)→Prop}:∀(l:List Oper) (i r:Nat) (m:List (Nat × Nat)) (τ:Fr) (H:ak) (sh:List (Nat × Nat)),(∀j,l[j]? =ops[i+j]?)→r=kO fr ops i→
  (∀k q,m.lookup k=some q→∃o,ops[k]? =some o∧bp fr o=true∧q=kO fr ops k)→A9 P fr ops N i r m l τ H sh K→Ei P fr ops N i l τ H sh K
 |[],_,_,_,_,_,_,_,_,_,h=>h
 |o::l,i,r,m,τ,H,sh,hl,hr,hm,h=>by
  have h0:ops[i]? =some o:=by simpa using(hl 0).symm
  have gh:∀j,l[j]? =ops[i+1+j]? :=fun j=>by have:=hl (j+1);simpa[Nat.add_assoc,Nat.add_comm 1 j]using this
  have HH:(if bp fr o then r+1 else r)=kO fr ops (i+1):=by rw[juu h0,hr]
  have tx:∀k q,(if bp fr o then(i,r)::m else m).lookup k=some q→∃o,ops[k]? =some o∧bp fr o=true∧q=kO fr ops k:=by
   intro k q hk
   split at hk
   ·rename_i Q3
    rw[List.lookup_cons]at hk
    split at hk
    ·rename_i e
     cases hk
     have e':k=i:=by simpa using e
     subst e'
     exact⟨o,h0,Q3,hr⟩
    ·exact hm k q hk
   ·exact hm k q hk
  have ih:=fun τ' H' sh' hh=>M5 (K:=K) l (i+1) _ _ τ' H' sh' gh HH tx hh
  obtain⟨b,hg,ht,hf⟩:=h
  refine⟨b,hg,fun hb=>?_,fun hb=>ih _ _ _ (hf hb)⟩
  have ht:=ht hb
  unfold tO at ht
  unfold rH
  simp only[if_true]
  split at ht
  ·rename_i hk
   obtain⟨x,hq,hh⟩:=ht
   exact⟨x,H,sh,by simp only[hk];exact⟨hq,trivial,trivial⟩,ih _ _ _ hh⟩
  ·rename_i hk
   obtain⟨H',hq,hh⟩:=ht
   exact⟨_,H',sh,by simp only[hk];exact⟨hq,trivial,trivial⟩,ih _ _ _ hh⟩
  ·rename_i hk
   obtain⟨x,H',hq,hh⟩:=ht
   exact⟨x,H',sh,by simp only[hk];exact⟨hq,trivial⟩,ih _ _ _ hh⟩
  ·rename_i dP mZ wK
   obtain⟨h1,h2,h3,x,H',sh',hq,hh⟩:=ht
   have L9:y4 N (GW fr ops o) (aU τ) o.op:=by
    have vv:∀q∈sn m o.after.toList,q∈GW fr ops o:=jbh _ fun e he hb q hq=>by
     obtain⟨o',xO,Q3,rfl⟩:=hm _ _ hq
     exact kV.2 ⟨e,List.mem_filter.2 ⟨he,by simp[hb,xO,Q3]⟩,rfl⟩
    unfold y4 at h3 ⊢
    split
    ·split
     ·rename_i cl gj _ hb
      simp only[gj,hb]at h3
      intro y hy
      have:=h3 y hy
      unfold tU at this ⊢
      split
      ·rename_i e
       rw[e]at this
       simp only[Bool.or_eq_true,oU,List.contains_eq_mem]at this ⊢
       rcases this with h|h
       ·exact .inl h
       ·exact .inr (vv _ h)
      ·rfl
     ·trivial
    ·trivial
   subst hr
   refine⟨x,H',sh',?_,ih _ _ _ hh⟩
   rcases Dx fr o.op with hk|hk|hk|hk|hk
   ·exact absurd hk dP
   ·simp only[hk];exact⟨h1,h2,L9,hq⟩
   ·exact absurd hk mZ
   ·simp only[hk];exact⟨h1,h2,L9,hq⟩
   ·exact absurd hk wK
end
section
variable {P:Program} {c:Cx} {τ:Fr} {H:ak} {Q:Exit→Fr→ak→Prop}
theorem Sq{fr:List FuncId}{id:Nat}{l:List Oper}{y:Code}{n:Nat}(hn:c.nt=n)(hm:P.follows .mixedOrders=true)(hd:mh n l=true){q:Nat}(hq:l.countP (bp fr)=q)(hB:xD fr l l.length 0 (Array.replicate l.length false)=true)
  (h:∀K:Fr→ak→Prop,(∀τ H,dj P c y Q τ H→K τ H)→A9 P fr l H.length 0 0 [] l τ (H++List.replicate q .free) [] fun τ' H' sh'=>K τ' (c6 sh' H')):dj P c (.seq (.region id l.toArray true) y) Q τ H:=by
 subst hq
 exact DG (jbe fr hm (hn▸hd) hB (M5 l 0 0 [] _ _ _ (fun j=>by simp) rfl (fun k q h=>by cases h) (h _ fun _ _ h=>h)))
theorem jzp{fr:List FuncId}{id:Nat}{l:List Oper}{n:Nat}(hn:c.nt=n)(hm:P.follows .mixedOrders=true)(hd:mh n l=true){q:Nat}(hq:l.countP (bp fr)=q)(hB:xD fr l l.length 0 (Array.replicate l.length false)=true)
  (h:∀K:Fr→ak→Prop,(∀τ H,Q .normal τ H→K τ H)→A9 P fr l H.length 0 0 [] l τ (H++List.replicate q .free) [] fun τ' H' sh'=>K τ' (c6 sh' H')):dj P c (.region id l.toArray true) Q τ H:=by
 subst hq
 exact jbe fr hm (hn▸hd) hB (M5 l 0 0 [] _ _ _ (fun j=>by simp) rfl (fun k q h=>by cases h) (h _ fun _ _ h=>h))
end
end
end Go.Proofs.YtapjobndmmkanaaGreat
