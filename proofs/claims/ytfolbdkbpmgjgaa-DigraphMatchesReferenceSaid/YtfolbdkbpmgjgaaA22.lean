/- Of no program: the abstract machine's run, as equations, operation by operation. -/
import Derived.Test.YtfolbdkbpmgjgaaA20
set_option linter.unusedVariables false
set_option linter.unusedSimpArgs false
namespace Go.Proofs.Ytfolbdkbpmgjgaa
open Go Go.RowKit
section
section
variable {P:Program} {N:Nat} {H:zaa} {ρ:Operand→AV} {K:AV→Prop} {t e:TypeId} {s k n i j id off o:Nat} {cs:List D}
def mkO(P:Program)(t:TypeId):Option (Nat × List D × Nat):=
 match elO P t with
 |some (none,e,s)=>match zcO P e,byO P e with
  |some zs,some b=>if zs.length=s∧0<s∧zs.all D.one=true then some (s,zs,b)else none
  |_,_=>none
 |_=>none
def zaO(P:Program)(t:TypeId):Option (List D):=match zcO P t with|some zs=>if zs.all D.one=true then some zs else none|none=>none
theorem zd7{zs:List D}{b:Nat}(h:mkO P t=some (s,zs,b)):∃e,elO P t=some (none,e,s)∧zcO P e=some zs∧byO P e=some b∧zs.length=s∧0<s∧zs.all D.one=true:=by
 unfold mkO at h
 split at h
 ·rename_i e s' he
  split at h
  ·rename_i zs' b' hz hb
   split at h
   ·rename_i hc
    cases h
    exact⟨e,he,hz,hb,hc⟩
   ·cases h
  ·cases h
 ·cases h
theorem zqm{zs:List D}(h:zaO P t=some zs):zcO P t=some zs∧zs.all D.one=true:=by
 unfold zaO at h
 split at h
 ·rename_i zs' hz
  split at h
  ·cases h;exact⟨hz,‹_›⟩
  ·cases h
 ·cases h
theorem zuw{d:Int}:sbI d none=some d:=rfl
theorem zux{d m:Int}{kd:IntKind}:sbI d (some (.d (.val (.int kd m))))=some m:=rfl
variable {KV:Value→Prop} {a b:Int} {kk:IntKind}
theorem jnz{m:Int}(h1: -9223372036854775808≤m)(h2:m<9223372036854775808):IntKind.i64.wrap m=m:=by simp[IntKind.wrap,IntKind.bits,IntKind.signed];omega
theorem jor(h1:0≤a)(h2:0<b):(∃r,zgr P .rem t (.int kk a) (.int kk b)=some r∧KV r)=KV (.int kk (a % b)):=by
 have e:a.tmod b=a % b:=Int.tmod_eq_emod_of_nonneg h1
 simp[zgr,zsl,e,show b≠0 by omega]
end

section
variable {P:Program} {fr:List FuncId} {ops l:List Oper} {τ:Fr} {H:zaa} {sh:List (Nat × Nat)} {N i:Nat} {d:Option Tmp} {ty:TypeId} {pos:String} {af:Array Edge} {K:Fr→zaa→Prop} {KD:Fr→zaa→List (Nat × Nat)→Prop}
end
/- Of no program: the run of a region that draws, with the numbers of its objects kept; the laying operations as equations. -/
end
section
section
variable {P:Program} {fr:List FuncId} {ops:List Oper} {N:Nat}
def zo5(m:List (Nat × Nat)):List Edge→List Nat
 |[]=>[]
 |e::l=>if Region.binds .any e then(match m.lookup e.on with|some r=>r::zo5 m l|none=>zo5 m l)else zo5 m l
def zgh(P:Program)(fr:List FuncId)(N r:Nat)(fresh:Bool)(m:List (Nat × Nat))(o:Oper)(τ:Fr)(H:zaa)(sh:List (Nat × Nat))(K:AV→zaa→List (Nat × Nat)→Prop):Prop:=
 match kOf fr o.op with
 |0=>∃x,OpQ P N H (zap τ) o.op x∧K x H sh
 |2=>∃H',OpD P (zap τ) o.op H sh (if fresh then N else 0) H'∧K (.d (.val undef)) H' sh
 |4=>∃x H',OpM P (zap τ) o.op H sh x H'∧K x H' sh
 |_=>H[N+r]? =some .free∧(∀p∈sh,p.1≠N+r∧p.2≠N+r)∧zka N (zo5 m o.after.toList) (zap τ) o.op∧∃x H' sh',OpA P true (N+r) (zap τ) o.op H sh x H' sh'∧K x H' sh'
def jci(P:Program)(fr:List FuncId)(ops:List Oper)(N:Nat):Nat→Nat→List (Nat × Nat)→List Oper→Fr→zaa→List (Nat × Nat)→(Fr→zaa→List (Nat × Nat)→Prop)→Prop
 |_,_,_,[],τ,H,sh,K=>K τ H sh
 |i,r,m,o::l,τ,H,sh,K=>∃b,zbr ops τ o=some b∧
   (b=true→zgh P fr N r (zc2 ops o) m o τ H sh fun x H' sh'=>jci P fr ops N (i+1) (if lays fr o then r+1 else r) (if lays fr o then(i,r)::m else m) l (τ.put o.dst x) H' sh' K)∧
   (b=false→jci P fr ops N (i+1) (if lays fr o then r+1 else r) (if lays fr o then(i,r)::m else m) l (τ.put o.dst (.d (.val undef))) H sh K)
theorem zlc{m:List (Nat × Nat)}{al:List Nat}:∀(l:List Edge),(∀e∈l,Region.binds .any e=true→∀r,m.lookup e.on=some r→r∈al)→∀r∈zo5 m l,r∈al
 |[],_,r,hr=>by cases hr
 |e::l,h,r,hr=>by
  have ih:=zlc (m:=m) (al:=al) l fun e' he'=>h e' (List.mem_cons_of_mem _ he')
  unfold zo5 at hr
  split at hr
  ·rename_i hb
   split at hr
   ·rename_i r' hl
    rcases List.mem_cons.1 hr with rfl|hr
    ·exact h e List.mem_cons_self hb _ hl
    ·exact ih r hr
   ·exact ih r hr
  ·exact ih r hr
theorem jew{i:Nat}{o:Oper}(h:ops[i]? =some o):zf5 fr ops (i+1)=if lays fr o then zf5 fr ops i+1 else zf5 fr ops i:=by
 unfold zf5
 obtain⟨hi,rfl⟩:=List.getElem?_eq_some_iff.1 h
 rw[List.take_succ_eq_append_getElem hi,List.countP_append,List.countP_singleton]
 split<;>rfl
theorem zja{K:Fr→zaa→List (Nat × Nat)→Prop}:∀(l:List Oper) (i r:Nat) (m:List (Nat × Nat)) (τ:Fr) (H:zaa) (sh:List (Nat × Nat)),(∀j,l[j]? =ops[i+j]?)→r=zf5 fr ops i→
  (∀k q,m.lookup k=some q→∃o,ops[k]? =some o∧lays fr o=true∧q=zf5 fr ops k)→jci P fr ops N i r m l τ H sh K→jik P fr ops N i l τ H sh K
 |[],_,_,_,_,_,_,_,_,_,h=>h
 |o::l,i,r,m,τ,H,sh,hl,hr,hm,h=>by
  have h0:ops[i]? =some o:=by simpa using(hl 0).symm
  have hl':∀j,l[j]? =ops[i+1+j]? :=fun j=>by have:=hl (j+1);simpa[Nat.add_assoc,Nat.add_comm 1 j]using this
  have hr':(if lays fr o then r+1 else r)=zf5 fr ops (i+1):=by rw[jew h0,hr]
  have hm':∀k q,(if lays fr o then(i,r)::m else m).lookup k=some q→∃o,ops[k]? =some o∧lays fr o=true∧q=zf5 fr ops k:=by
   intro k q hk
   split at hk
   ·rename_i hla
    rw[List.lookup_cons]at hk
    split at hk
    ·rename_i e
     cases hk
     have e':k=i:=by simpa using e
     subst e'
     exact⟨o,h0,hla,hr⟩
    ·exact hm k q hk
   ·exact hm k q hk
  have ih:=fun τ' H' sh' hh=>zja (K:=K) l (i+1) _ _ τ' H' sh' hl' hr' hm' hh
  obtain⟨b,hg,ht,hf⟩:=h
  refine⟨b,hg,fun hb=>?_,fun hb=>ih _ _ _ (hf hb)⟩
  have ht:=ht hb
  unfold zgh at ht
  unfold eff
  simp only[if_true]
  split at ht
  ·rename_i hk
   obtain⟨x,hq,hh⟩:=ht
   exact⟨x,H,sh,by simp only[hk];exact⟨hq,trivial,trivial⟩,ih _ _ _ hh⟩
  ·rename_i hk
   obtain⟨H',hq,hh⟩:=ht
   exact⟨_,H',sh,by simp only[hk];exact⟨hq,trivial,trivial⟩,ih _ _ _ hh⟩
  ·rename_i hk
   obtain⟨x,H',hq,hh⟩:=ht
   exact⟨x,H',sh,by simp only[hk];exact⟨hq,trivial⟩,ih _ _ _ hh⟩
  ·rename_i hk0 hk2 hk4
   obtain⟨h1,h2,h3,x,H',sh',hq,hh⟩:=ht
   have hal:zka N (jij fr ops o) (zap τ) o.op:=by
    have hsub:∀q∈zo5 m o.after.toList,q∈jij fr ops o:=zlc _ fun e he hb q hq=>by
     obtain⟨o',ho',hla,rfl⟩:=hm _ _ hq
     exact List.mem_map.2 ⟨e,List.mem_filter.2 ⟨he,by simp[hb,ho',hla]⟩,rfl⟩
    unfold zka at h3 ⊢
    split
    ·split
     ·rename_i cl hcl _ hb
      simp only[hcl,hb]at h3
      intro y hy
      have:=h3 y hy
      unfold zdq at this ⊢
      split
      ·rename_i e
       rw[e]at this
       simp only[Bool.or_eq_true,decide_eq_true_eq,List.contains_eq_mem]at this ⊢
       rcases this with h|h
       ·exact .inl h
       ·exact .inr (hsub _ h)
      ·rfl
     ·trivial
    ·trivial
   subst hr
   refine⟨x,H',sh',?_,ih _ _ _ hh⟩
   rcases zi8 fr o.op with hk|hk|hk|hk|hk
   ·exact absurd hk hk0
   ·simp only[hk];exact⟨h1,h2,hal,hq⟩
   ·exact absurd hk hk2
   ·simp only[hk];exact⟨h1,h2,hal,hq⟩
   ·exact absurd hk hk4
end
section
variable {P:Program} {c:Cx} {τ:Fr} {H:zaa} {Q:Exit→Fr→zaa→Prop}
theorem zm7{fr:List FuncId}{id:Nat}{l:List Oper}{y:Code}{n:Nat}(hn:c.nt=n)(hm:P.follows .mixedOrders=true)(hd:zdl n l=true){q:Nat}(hq:l.countP (lays fr)=q)(hB:zut fr l l.length 0 (Array.replicate l.length false)=true)
  (h:∀K:Fr→zaa→Prop,(∀τ H,AWp P c y Q τ H→K τ H)→jci P fr l H.length 0 0 [] l τ (H++List.replicate q .free) [] fun τ' H' sh'=>K τ' (killAll sh' H')):AWp P c (.seq (.region id l.toArray true) y) Q τ H:=by
 subst hq
 exact zgg (zqk fr hm (hn▸hd) hB (zja l 0 0 [] _ _ _ (fun j=>by simp) rfl (fun k q h=>by cases h) (h _ fun _ _ h=>h)))
theorem ji4{fr:List FuncId}{id:Nat}{l:List Oper}{n:Nat}(hn:c.nt=n)(hm:P.follows .mixedOrders=true)(hd:zdl n l=true){q:Nat}(hq:l.countP (lays fr)=q)(hB:zut fr l l.length 0 (Array.replicate l.length false)=true)
  (h:∀K:Fr→zaa→Prop,(∀τ H,Q .normal τ H→K τ H)→jci P fr l H.length 0 0 [] l τ (H++List.replicate q .free) [] fun τ' H' sh'=>K τ' (killAll sh' H')):AWp P c (.region id l.toArray true) Q τ H:=by
 subst hq
 exact zqk fr hm (hn▸hd) hB (zja l 0 0 [] _ _ _ (fun j=>by simp) rfl (fun k q h=>by cases h) (h _ fun _ _ h=>h))
end
end
end Go.Proofs.Ytfolbdkbpmgjgaa
