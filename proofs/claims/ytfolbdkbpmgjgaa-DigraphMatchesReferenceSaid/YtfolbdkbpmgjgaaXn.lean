/- Of no program: where new rows stay rows of the call's own (they are written to later). -/
import Derived.Test.YtfolbdkbpmgjgaaAR
import Derived.Test.YtfolbdkbpmgjgaaAZ
set_option linter.unusedVariables false
set_option linter.unusedSimpArgs false
namespace Go.Proofs.Ytfolbdkbpmgjgaa
open Go Go.RowKit
def jfp(P:Program)(N r:Nat)(al:List Nat)(ρ:Operand→AV)(op:Op)(H:zaa)(sh:List (Nat × Nat)):Option (AV × zaa × List (Nat × Nat)):=
 match op with
 | .makeSlice t l cp=>(match H[N+r]?,layF P (N+r) ρ (.makeSlice t l cp) H with
  |some .free,some (x,o,none)=>if shB (N+r) sh then some (x,H.set (N+r) o,sh)else none
  |_,_=>none)
 |op=>layEF P N r al ρ op H sh
theorem jfq{P:Program}{ρ:Operand→AV}{op:Op}{H:zaa}{N r:Nat}{al:List Nat}{sh sh':List (Nat × Nat)}{x:AV}{H':zaa}(h:jfp P N r al ρ op H sh=some (x,H',sh')){KX:AV→zaa→List (Nat × Nat)→Prop}(hK:KX x H' sh'):zzd P N r al ρ op H sh KX:=by
 cases op with
 |makeSlice t l cp=>
  simp only[jfp]at h
  split at h
  ·rename_i x' o hfree hl
   split at h
   ·rename_i hs
    have hs:=zvh hs
    cases h
    simp only[layF]at hl
    split at hl
    ·rename_i s zs b n m hq hn hm
     obtain⟨k1,hn⟩:=ze0 hn
     obtain⟨k2,hm⟩:=ze0 hm
     split at hl
     ·rename_i hb
      cases hl
      exact jcl ⟨hfree,hs,(s,zs,b),k1,k2,n,m,hq,hn,hm,hb.1,hb.2.1,hb.2.2.1,hb.2.2.2,hK⟩
     ·cases hl
    ·cases hl
   ·cases h
  ·cases h
 |_=>exact zo8 h hK
def cN(P:Program)(KT:TypeId→Bool)(N r:Nat)(fresh:Bool)(m:List (Nat × Nat))(o:Oper)(ρ:Operand→AV)(H:zaa)(sh:List (Nat × Nat))(KK:AV→zaa→List (Nat × Nat)→Prop):Prop:=
 match o.op with
 | .makeSlice t l cp=>zo9 (jfp P N r (zo5 m o.after.toList) ρ (.makeSlice t l cp) H sh) fun p=>KK p.1 p.2.1 p.2.2
 |_=>cE P KT N r fresh m o ρ H sh KK
theorem jks{P:Program}{KT:TypeId→Bool}{τ:Fr}{H:zaa}(hKT:∀k,KT k=true→Maps.Keyed P k){N r:Nat}{fresh:Bool}{m:List (Nat × Nat)}{o:Oper}{sh:List (Nat × Nat)}{K:AV→zaa→List (Nat × Nat)→Prop}(h:cN P KT N r fresh m o (zap τ) H sh K):zgh P [] N r fresh m o τ H sh K:=by
 unfold cN at h
 split at h
 ·rename_i t l cp e
  obtain⟨⟨x,H',sh'⟩,hl,hK⟩:=h
  have:=jfq hl hK
  unfold zgh
  rw[e]
  exact this
 ·exact je5 hKT h
def sN(P:Program)(KT:TypeId→Bool)(ops:List Oper)(N:Nat):Nat→Nat→List (Nat × Nat)→List Oper→Fr→zaa→List (Nat × Nat)→(Fr→zaa→List (Nat × Nat)→Prop)→Prop
 |_,_,_,[],τ,H,sh,K=>K τ H sh
 |i,r,m,o::l,τ,H,sh,K=>GK (zbr ops τ o)
   (cN P KT N r (zc2 ops o) m o (zap τ) H sh fun x H' sh'=>sN P KT ops N (i+1) (if lays [] o then r+1 else r) (if lays [] o then(i,r)::m else m) l (τ.put o.dst x) H' sh' K)
   (sN P KT ops N (i+1) (if lays [] o then r+1 else r) (if lays [] o then(i,r)::m else m) l (τ.put o.dst (.d (.val undef))) H sh K)
theorem jfr{P:Program}{KT:TypeId→Bool}{ops:List Oper}(hKT:∀k,KT k=true→Maps.Keyed P k){N:Nat}{K:Fr→zaa→List (Nat × Nat)→Prop}:∀{os:List Oper} {i r:Nat} {m:List (Nat × Nat)} {τ:Fr} {H:zaa} {sh:List (Nat × Nat)},sN P KT ops N i r m os τ H sh K→jci P [] ops N i r m os τ H sh K
 |[],_,_,_,_,_,_,h=>h
 |o::os,i,r,m,τ,H,sh,h=>by
  obtain⟨b,hg,ht,hf⟩:=zfv h
  exact⟨b,hg,fun e=>zkr (fun x H' sh' hh=>jfr hKT hh) (jks hKT (ht e)),fun e=>jfr hKT (hf e)⟩
def opN : Oper := ⟨none, .move (.const undef), 0, "", #[], none⟩
def jkt(ops:List Oper):List Nat→Array Bool→Bool
 |[],listed=>(Region.ready .any ops.toArray listed).isEmpty
 |k::ks,listed=>(Region.ready .any ops.toArray listed).contains k&&zzs [] ops listed k&&jkt ops ks (listed.setIfInBounds k true)
def jo6(P:Program)(ops:List Oper)(N:Nat):List Nat→St→(St→Prop)→Prop
 |[],σ,K=>K σ
 |k::ks,σ,K=>∃σ',zoz P [] ops N k σ σ'∧jo6 P ops N ks σ' K
theorem zrt{P:Program}{ops:List Oper}{N:Nat}{K:St→Prop}:∀(ks:List Nat) (listed:Array Bool) (σ:St),Closed ops listed→jkt ops ks listed=true→jo6 P ops N ks σ K→jev P [] ops N K ks.length listed σ
 |[],_,_,_,hB,h=>⟨by simpa[jkt]using hB,h⟩
 |k::ks,listed,σ,hcl,hB,⟨σ',hs,h⟩=>by
  simp only[jkt,Bool.and_eq_true]at hB
  obtain⟨⟨hr,hf⟩,hB'⟩:=hB
  have hr':k∈Region.ready .any ops.toArray listed:=by simpa using hr
  obtain⟨o,b,x,H',sh',h0,h1,h2,h3⟩:=hs
  have hfree:∀j oj,ops[j]? =some oj→j≠k→listed.getD j true=false→wait2 ops j k=false→o.apart ops.toArray oj=true∧zo4 [] ops k j o oj=true:=by
   intro j oj hj hne hun hno
   unfold zzs at hf
   rw[h0]at hf
   simp only[List.all_eq_true,List.mem_range]at hf
   have h1:=hf j (List.getElem?_eq_some_iff.1 hj).1
   simp only[hj,Bool.or_eq_true,beq_iff_eq,hne,false_or,hun,Bool.false_eq_true,hno,Bool.and_eq_true]at h1
   exact h1
  exact zhi h0 _ _ _ _ hcl hfree hr' ⟨o,b,x,H',sh',h0,h1,h2,h3⟩ (zrt ks _ _ (hcl.set hr') hB' h)
theorem jfs{P:Program}{KT:TypeId→Bool}{l:List Oper}{N k:Nat}{o:Oper}{τ:Fr}{H:zaa}{KX:Fr→zaa→List (Nat × Nat)→Prop}(h0:l[k]? =some o)(hg:o.guard=none)(h3:kOf [] o.op≠3)(hKT:∀k,KT k=true→Maps.Keyed P k)(h:sN P KT l N 0 (zf5 [] l k) [] [o] τ H [] KX):
  ∃x H',eff P [] l N k o true (zap τ) H [] x H' []∧KX (τ.put o.dst x) H' []:=by
 obtain⟨b,hb,ht,_⟩:=zfv h
 have hbt:b=true:=by unfold zbr at hb;rw[hg]at hb;cases hb;rfl
 have ht:=jks hKT (ht hbt)
 unfold zgh at ht
 unfold eff
 simp only[if_true]
 rcases zi8 [] o.op with hk|hk|hk|hk|hk<;>simp only[hk]at ht ⊢
 ·obtain⟨x,hq,hh⟩:=ht
  exact⟨x,H,⟨hq,rfl,trivial⟩,hh⟩
 ·obtain⟨h1,h2,h3,x,H',sh',hq,hh⟩:=ht
  obtain⟨o',rfl,rfl,_⟩:=zes hk hq
  refine⟨x,_,⟨h1,h2,?_,hq⟩,hh⟩
  have hsub:∀q∈zo5 [] o.after.toList,q∈jij [] l o:=zlc _ fun e he hb q hq=>by cases hq
  unfold zka at h3 ⊢
  split
  ·split
   ·rename_i cl hcl _ hb
    simp only[hcl,hb]at h3
    intro y hy
    have:=h3 y hy
    unfold zdq at this ⊢
    split
    ·rename_i e
     rw[e]at this
     simp only[Bool.or_eq_true,decide_eq_true_eq,List.contains_eq_mem]at this ⊢
     rcases this with h|h
     ·exact .inl h
     ·exact .inr (hsub _ h)
    ·rfl
   ·trivial
  ·trivial
 ·obtain⟨H',hq,hh⟩:=ht
  exact⟨_,H',⟨hq,rfl,trivial⟩,hh⟩
 ·exact absurd hk h3
 ·obtain⟨x,H',hq,hh⟩:=ht
  exact⟨x,H',⟨hq,trivial⟩,hh⟩
def oR(P:Program)(KT:TypeId→Bool)(l:List Oper)(N:Nat):List (Nat × Nat)→Fr→zaa→(Fr→zaa→Prop)→Prop
 |[],τ,H,K=>K τ H
 |(k,r)::ks,τ,H,K=>sN P KT l N 0 r [] [l.getD k opN] τ H [] fun τ' H' _=>oR P KT l N ks τ' H' K
theorem jku{P:Program}{KT:TypeId→Bool}{l:List Oper}{N:Nat}{K:Fr→zaa→Prop}(hKT:∀k,KT k=true→Maps.Keyed P k):∀(ks:List (Nat × Nat)) (τ:Fr) (H:zaa),(∀p∈ks,p.1<l.length∧(l.getD p.1 opN).guard=none∧kOf [] (l.getD p.1 opN).op≠3∧p.2=zf5 [] l p.1)→oR P KT l N ks τ H K→jo6 P l N (ks.map (·.1)) ⟨τ,H,[]⟩ fun σ=>σ.sh=[]∧K σ.τ σ.H
 |[],_,_,_,h=>⟨rfl,h⟩
 |(k,r)::ks,τ,H,hk,h=>by
  obtain⟨h1,h2,h3,h4⟩:=hk (k,r) List.mem_cons_self
  have h0:l[k]? =some (l.getD k opN):=by
   rw[List.getElem?_eq_getElem h1,List.getD_eq_getElem?_getD,List.getElem?_eq_getElem h1];rfl
  simp only at h4
  subst h4
  obtain⟨x,H',he,hh⟩:=jfs h0 h2 h3 hKT h
  exact⟨⟨τ.put (l.getD k opN).dst x,H',[]⟩,⟨_,true,x,H',[],h0,by unfold zbr;rw[h2],he,rfl⟩,jku hKT ks _ _ (fun p hp=>hk p (List.mem_cons_of_mem _ hp)) hh⟩
def jre(l:List Oper)(ks:List (Nat × Nat)):Bool:=jkt l (ks.map (·.1)) (Array.replicate l.length false)&&ks.length==l.length&&ks.all fun p=>decide (p.1<l.length)&&(l.getD p.1 opN).guard.isNone&&kOf [] (l.getD p.1 opN).op !=3&&p.2==zf5 [] l p.1
theorem zwu{P:Program}{KT:TypeId→Bool}{c:Cx}{τ:Fr}{H:zaa}{Q:Exit→Fr→zaa→Prop}(hKT:∀k,KT k=true→Maps.Keyed P k){id:Nat}{l:List Oper}{y:Code}{n:Nat}(hn:c.nt=n)(hm:P.follows .mixedOrders=true)(hd:zdl n l=true){q:Nat}(hq:l.countP (lays [])=q)(ks:List (Nat × Nat))(hB:jre l ks=true)
  (h:∀K:Fr→zaa→Prop,(∀τ H,AWp P c y Q τ H→K τ H)→oR P KT l H.length ks τ (H++List.replicate q .free) K):AWp P c (.seq (.region id l.toArray true) y) Q τ H:=by
 subst hq
 simp only[jre,Bool.and_eq_true,beq_iff_eq,List.all_eq_true,decide_eq_true_eq,bne_iff_ne,ne_eq,Option.isNone_iff_eq_none]at hB
 obtain⟨⟨hB1,hB2⟩,hB3⟩:=hB
 refine zgg fun a w hR=>?_
 refine wpIn_region_any hm ?_
 have hR':R c τ (H++List.replicate (l.countP (lays [])) .free) [] a {w with drawn:=w.drawn+1}:=R.reserve _ _ (by obtain⟨pl,h⟩:=hR;exact⟨pl,h.drew⟩)
 have hA:=zrt (P:=P) (N:=H.length) (ks.map (·.1)) (Array.replicate l.length false) ⟨τ,_,[]⟩ (fun k o ho hk=>by
  have hlt:=(List.getElem?_eq_some_iff.1 ho).1
  simp[Array.getD,hlt]at hk) hB1 (jku hKT ks _ _ (fun p hp=>by
   obtain⟨⟨⟨a1,a2⟩,a3⟩,a4⟩:=hB3 p hp
   exact⟨a1,a2,a3,a4⟩) (h (fun τ' H'=>AWp P c y Q τ' H') fun _ _ h=>h))
 rw[List.length_map,hB2]at hA
 have:=zhh (c:=c) (hn▸hd) (K:=fun σ=>σ.sh=[]∧AWp P c y Q σ.τ σ.H) (Q:=fun e a' w'=>∃τ' H',R c τ' H' [] a' w'∧zcq (AWp P c y Q) Q e τ' H') (fun σ a' w' ⟨hs,hk⟩ hr=>⟨_,_,hs▸hr,hk⟩) l.length _ _ _ _ hA hR'
 simpa using this
/- Of no program: regions that draw, where new rows stay rows of the call's own (they are written to later). -/
section
theorem zta{P:Program}{KT:TypeId→Bool}{c:Cx}{τ:Fr}{H:zaa}{Q:Exit→Fr→zaa→Prop}(hKT:∀k,KT k=true→Maps.Keyed P k){id:Nat}{l:List Oper}{y:Code}{n:Nat}(hn:c.nt=n)(hm:P.follows .mixedOrders=true)(hd:zdl n l=true){q:Nat}(hq:l.countP (lays [])=q)(hB:zut [] l l.length 0 (Array.replicate l.length false)=true)
  (h:∀K:Fr→zaa→Prop,(∀τ H,AWp P c y Q τ H→K τ H)→sN P KT l H.length 0 0 [] l τ (H++List.replicate q .free) [] fun τ' H' sh'=>K τ' (killAll sh' H')):AWp P c (.seq (.region id l.toArray true) y) Q τ H:=
 zm7 (fr:=[]) hn hm hd hq hB fun K hK=>jfr hKT (h K hK)
section
variable {P:Program} {KT:TypeId→Bool} {ops l:List Oper} {τ:Fr} {H:zaa} {sh:List (Nat × Nat)} {N i r:Nat} {m:List (Nat × Nat)} {d:Option Tmp} {ty:TypeId} {pos:String} {af:Array Edge} {KD:Fr→zaa→List (Nat × Nat)→Prop}
theorem zd0:sN P KT ops N i r m [] τ H sh KD=KD τ H sh:=rfl
theorem zev{t:TypeId}{y:Operand}:sN P KT ops N i r m (⟨d,.load t y,ty,pos,af,none⟩::l) τ H sh KD=(oK (loadF P N H t (zap τ y))<|tg fun x=>sN P KT ops N (i+1) r m l (τ.put d x) H sh KD):=rfl
theorem zlz{t:TypeId}{y:Operand}{f:Nat}:sN P KT ops N i r m (⟨d,.fieldAddr t y f,ty,pos,af,none⟩::l) τ H sh KD=(oK (fieldAddrF P t f (zap τ y))<|tg fun x=>sN P KT ops N (i+1) r m l (τ.put d x) H sh KD):=rfl
theorem zdt{t:TypeId}{ps:Array (Nat × Operand)}:sN P KT ops N i r m (⟨d,.build t ps,ty,pos,af,none⟩::l) τ H sh KD=(oK (buildF P t (ps.toList.map fun p=>(p.1,zap τ p.2)))<|tg fun x=>sN P KT ops N (i+1) r m l (τ.put d x) H sh KD):=rfl
theorem zc5{y:Operand}:sN P KT ops N i r m (⟨d,.assign y,ty,pos,af,none⟩::l) τ H sh KD=(sN P KT ops N (i+1) r m l (τ.put d (zap τ y)) H sh KD):=by simp[sN,zbr,GK,cN,cE,kOf,zci,opF,zc4,lays]
theorem zcu{y:Operand}:sN P KT ops N i r m (⟨d,.move y,ty,pos,af,none⟩::l) τ H sh KD=(sN P KT ops N (i+1) r m l (τ.put d (zap τ y)) H sh KD):=by simp[sN,zbr,GK,cN,cE,kOf,zci,opF,zc4,lays]
theorem zg4{args:Array Operand}{ts:Array TypeId}:sN P KT ops N i r m (⟨d,.call ⟨.builtin .len,args,ts⟩,ty,pos,af,none⟩::l) τ H sh KD=(oK (builtinF P .len ts.toList (args.toList.map (zap τ)))<|tg fun x=>sN P KT ops N (i+1) r m l (τ.put d x) H sh KD):=rfl
theorem zb3{t:TypeId}:sN P KT ops N i r m (⟨d,.alloc t,ty,pos,af,none⟩::l) τ H sh KD=(oK (layEF P N r (zo5 m af.toList) (zap τ) (.alloc t) H sh)<|tg fun p=>sN P KT ops N (i+1) (r+1) ((i,r)::m) l (τ.put d p.1) p.2.1 p.2.2 KD):=rfl
theorem zcv{t:TypeId}{y z:Operand}:sN P KT ops N i r m (⟨d,.makeSlice t y z,ty,pos,af,none⟩::l) τ H sh KD=(oK (match H[N+r]?,layF P (N+r) (zap τ) (.makeSlice t y z) H with
  |some .free,some (x,o,none)=>if shB (N+r) sh then some (x,H.set (N+r) o,sh)else none
  |_,_=>none)<|tg fun p=>sN P KT ops N (i+1) (r+1) ((i,r)::m) l (τ.put d p.1) p.2.1 p.2.2 KD):=rfl
theorem zb4{t:TypeId}{y z:Operand}:sN P KT ops N i r m (⟨d,.store t y z,ty,pos,af,none⟩::l) τ H sh KD=(oK (storeF P t (zap τ y) (zap τ z) H sh (if zc2 ops ⟨d,.store t y z,ty,pos,af,none⟩then N else 0))<|tg fun H'=>sN P KT ops N (i+1) r m l (τ.put d (.d (.val undef))) H' sh KD):=rfl
theorem zkx{P:Program}{KT:TypeId→Bool}{l:List Oper}{N:Nat}{τ:Fr}{H:zaa}{K:Fr→zaa→Prop}:oR P KT l N [] τ H K=K τ H:=rfl
theorem zhs{P:Program}{KT:TypeId→Bool}{l:List Oper}{N k r:Nat}{ks:List (Nat × Nat)}{τ:Fr}{H:zaa}{K:Fr→zaa→Prop}:oR P KT l N ((k,r)::ks) τ H K=sN P KT l N 0 r [] [l.getD k opN] τ H [] fun τ' H' _=>oR P KT l N ks τ' H' K:=rfl
theorem zky{a:Oper}{l:List Oper}{d:Oper}:(a::l).getD 0 d=a:=rfl
theorem zkz{a:Oper}{l:List Oper}{d:Oper}{k:Nat}:(a::l).getD (k+1) d=l.getD k d:=rfl
end
end
end Go.Proofs.Ytfolbdkbpmgjgaa
