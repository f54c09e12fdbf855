/- The law DigraphReaches: walked. -/
import Derived.Test.YtfolbdkbpmgjgaaQr
import Derived.Test.YtfolbdkbpmgjgaaJl
set_option linter.unusedVariables false
set_option linter.unusedSimpArgs false
set_option maxRecDepth 100000
set_option maxHeartbeats 4000000
namespace Go.Proofs.Ytfolbdkbpmgjgaa
open Go Go.RowKit
theorem jf4:(((((type_of% @zyo)∧(type_of% @zyp))∧((type_of% @jh3)∧((type_of% @zhz)∧(type_of% @zjq))))∧(((type_of% @zjr)∧(type_of% @zg8))∧((type_of% @zgp)∧((type_of% @zgq)∧(type_of% @jgc)))))∧((((type_of% @jks)∧(type_of% @jkt))∧((type_of% @jku)∧((type_of% @zd3)∧(type_of% @zjn))))∧(((type_of% @zjo)∧(type_of% @zjp))∧((type_of% @zc8)∧((type_of% @zd5)∧(type_of% @zd4)))))):=⟨⟨⟨⟨@zyo,@zyp⟩,⟨@jh3,⟨@zhz,@zjq⟩⟩⟩,⟨⟨@zjr,@zg8⟩,⟨@zgp,⟨@zgq,@jgc⟩⟩⟩⟩,⟨⟨⟨@jks,@jkt⟩,⟨@jku,⟨@zd3,@zjn⟩⟩⟩,⟨⟨@zjo,@zjp⟩,⟨@zc8,⟨@zd5,@zd4⟩⟩⟩⟩⟩
theorem jkg(F:List Nat)(v:Nat)(hl:F.length≤1000000){b:Bool}(hb:b=true↔v∈F):zar Try.prog 31 [.fs (nsD F) F.length,iD (v:Int)] (.d (oD b)):=by
 have:=jow (zl F) (v:Int) (by rw[za8];exact hl)
 rw[zkm]at this
 have e:decide ((v:Int)∈zl F)=b:=by rw[Bool.eq_iff_iff,decide_eq_true_eq,jb6,hb]
 rwa[e]at this
theorem zoy{n st:Nat}{es:List Ed}(h:Gr n es)(hs:st<n):zar Try.prog 24 [iD (n:Int),zal es,iD (st:Int)] (.d (.fs (nsD (zes n (za0 n es) st)) (zes n (za0 n es) st).length)):=by
 have:=zoo n es h (st:Int)
 rwa[zxf h hs,zkm]at this
theorem jf5{nx:List (List Nat)}{v x:Nat}(h:RT nx v x):x=v∨∃u,u≠x∧RT nx v u∧x∈nth nx u:=by
 induction h with
 |here=>exact .inl rfl
 |@go b c hb hc ih=>
  by_cases e:b=c
  ·subst e;exact ih
  ·exact .inr ⟨b,e,hb,hc⟩
theorem zhl(n:Nat)(nx:List (List Nat))(st:Nat):(zes n nx st).length≤n:=Nat.le_trans (List.length_filter_le _ _) (by simp)
theorem zxo{n:Nat}{nx:List (List Nat)}{st:Nat}:∀x∈zes n nx st,x<n:=fun x hx=>List.mem_range.1 (List.mem_filter.1 hx).1
theorem zxp(n:Nat)(nx:List (List Nat))(st:Nat):(zes n nx st).Pairwise (·<·):=List.Pairwise.filter _ List.pairwise_lt_range
structure RcI (n:Nat) (es:List Ed) (v:Nat) (F:List Nat):Prop where
 l:F.length≤n
 lt:∀x∈F,x<n
 up:F.Pairwise (·<·)
 st:v∈F
 cl:∀e∈es,e.1∈F→e.2∈F
 pr:∀x∈F,x≠v→∃e∈es,e.2=x∧e.1≠x∧e.1∈F
theorem zxq{n:Nat}{es es':List Ed}(h:Gr n es)(h':Gr n es')(hs:∀e∈es,e∈es'){v x:Nat}(hv:v<n)(hr:RT (za0 n es) v x):x<n∧RT (za0 n es') v x:=by
 induction hr with
 |here=>exact⟨hv,.here⟩
 |@go b c hb hc ih=>
  have hm:=(zdk ih.1).1 hc
  exact⟨(h.e _ hm).2,ih.2.go ((zdk ih.1).2 (hs _ hm))⟩
theorem jnf{n:Nat}{es:List Ed}(h:Gr n es){v x:Nat}(hv:v<n)(hr:RT (za0 n es) v x):x<n:=(zxq h h (fun _ h=>h) hv hr).1
theorem jo1{n v:Nat}{es:List Ed}(h:Gr n es)(hv:v<n):RcI n es v (zes n (za0 n es) v):=by
 have hm:=zfk h hv
 refine⟨zhl _ _ _,zxo,zxp _ _ _,(hm v).2 .here,fun e he h1=>?_,fun x hx hne=>?_⟩
 ·exact(hm _).2 (((hm _).1 h1).go ((zdk (h.e e he).1).2 he))
 ·rcases jf5 ((hm x).1 hx)with e|⟨u,h1,h2,h3⟩
  ·exact absurd e hne
  ·have hu:=jnf h hv h2
   exact⟨(u,x),(zdk hu).1 h3,rfl,h1,(hm u).2 h2⟩
theorem zlw{b:Int}{n:Nat}(h0:0≤b)(hn:0<n):∃v:Nat,b % (n:Int)=(v:Int)∧v<n:=by
 have h1:=Int.emod_nonneg b (show(n:Int)≠0 by omega)
 have h2:=Int.emod_lt_of_pos b (show(0:Int)<n by omega)
 exact⟨(b % (n:Int)).toNat,by omega,by omega⟩
theorem zde{p q:Prop}(hq:q)(h:p=q:=by
 conv=>lhs;simp -dsimp -implicitDefEqProofs (disch:=first|assumption|omega|(simp only[r_z,zah,zag]<;>omega)|decide) only[r_r,↓reduceIte,Nat.reduceEqDiff,Nat.reduceAdd,D.fix,Int.reduceToNat,Nat.reduceMul,Nat.reduceBNe,Nat.reduceBEq,zhk,bytesD,grD,zal,jf4]):p:=h.mpr hq
theorem znf{p q:Prop}(hq:q)(h:p=q:=by
 conv=>lhs;simp -dsimp -implicitDefEqProofs (disch:=first|assumption|omega|(simp only[r_z,zah,zag]<;>omega)|decide) only[r_r,↓reduceIte,Nat.reduceEqDiff,Nat.reduceAdd,D.fix,Int.reduceToNat,Nat.reduceMul,Nat.reduceBNe,Nat.reduceBEq,zhk,bytesD,grD,zal]):p:=h.mpr hq
theorem zoz{m:List Nat}{τ τ':Fr}{H H':zaa}(h2:H=H')(h:zf6 τ τ':=by
 repeat (first|exact zaj _|refine zac ?_ (by first|rfl|(simp[r_f,zah,zag];done)|simp[r_f,zah,zag, *]))):Rt m τ H τ' H':=Rt.end h h2
theorem zfc{p q r:Prop}(e:r)(hq:q)(h:r→p=q:=by
 intro hY
 conv=>lhs;simp -dsimp -implicitDefEqProofs (disch:=first|assumption|omega|(simp only[r_z,zah,zag]<;>omega)|decide) only[r_r,↓reduceIte,Nat.reduceEqDiff,Nat.reduceAdd,D.fix,Int.reduceToNat,Nat.reduceMul,Nat.reduceBNe,Nat.reduceBEq,zhk,bytesD,grD,zal,jf4,hY]):p:=(h e).mpr hq
theorem jkh{p q r:Prop}(e:r)(hq:q)(h:r→p=q:=by
 intro hY
 conv=>lhs;simp -dsimp -implicitDefEqProofs (disch:=first|assumption|omega|(simp only[r_z,zah,zag]<;>omega)|decide) only[r_r,↓reduceIte,Nat.reduceEqDiff,Nat.reduceAdd,D.fix,Int.reduceToNat,Nat.reduceMul,Nat.reduceBNe,Nat.reduceBEq,zhk,bytesD,grD,zal,decide_false,Bool.not_true,jf4,hY]):p:=(h e).mpr hq
theorem zo0{p:Prop}(h:p:=by
 first|rfl|(simp only[r_g,Nat.reduceAdd,↓reduceIte,Nat.reduceEqDiff,zhk,bytesD,grD,zal];first|done|rfl)):p:=h
theorem jol{p:Prop}(h:p:=by
 simp (disch:=first|assumption|omega|(simp only[r_z,zah,zag]<;>omega)|decide) only[r_c,Nat.reduceAdd,D.fix,↓reduceIte,Nat.reduceEqDiff,zhk,bytesD,grD,zal]):p:=h
theorem zo1(x:RwG)(hx:RwOk x)(z0 z1 z2:Int)(h0:Bt z0)(h1:Bt z1)(h2:Bt z2):zar Try.prog 6 [.agg (zhk x),.agg [bD z0,bD z1,bD z2]] (.d (oD true)):=by
 obtain⟨a0,a1⟩:=h0
 obtain⟨b0,b1⟩:=h1
 obtain⟨c0,c1⟩:=h2
 refine zav (fn:=Try.f6) (by kernel_rfl) Try.func6 rfl (Nat.le_of_ble_eq_true rfl) fun c hc hp=>?_
 refine zat (τ':=frL [(0,.d (.agg (zhk x))),(1,.d (.agg [bD z0,bD z1,bD z2]))]) (by repeat (first|exact zaj _|refine zac ?_ (by first|rfl|(simp[r_f,zah,zag];done)|simp[r_f,zah,zag, *]))) ?_
 refine szq hp (fun _ hZ=>zde hZ) ?_
 refine zae hp zao hc rfl fun K2 hK2=>?_
 refine znf ?_
 refine zbi (zkn) rfl ?_
 refine znf ?_
 refine hK2 _ _ ?_
 refine zab fun K3 hK3=>?_
 refine szq hp (fun _ hZ=>zde hZ) ?_
 refine szf ?_
 refine zaf (hK3 _ _ ?_)
 refine zae hp zao hc rfl fun K5 hK5=>?_
 refine zde ?_
 refine jba (jco x hx) rfl fun r hr=>?_
 obtain⟨n,es,hn12,hel,hG,rfl⟩:=hr
 refine zde ?_
 refine hK5 _ _ ?_
 refine zab fun K6 hK6=>?_
 refine zbb hp (τ':=frL [(3,.d (.fp [bD z0,bD z1,bD z2] 0)),(4,.d (oD false)),(5,.d (oD true)),(6,.d (.fp [iD (n:Int),zal es] 0))]) (H':=[]) ?_ ?_
 ·refine Rt.trans (Rt.fz (id:=1) (l:=[bD z0,bD z1,bD z2]) rfl) ?_
  refine Rt.trans (Rt.fz (id:=2) (l:=[iD (n:Int),zal es]) rfl) ?_
  refine Rt.trans (Rt.gc (keep:=[]) (by decide) (by decide) (by simp[fzH,gcH])) ?_
  refine zoz ?_
  exact zo0
 refine szq hp (fun _ hZ=>zde hZ) ?_
 refine zak rfl (fun ht=>?_) (fun ht=>?_)
 ·skip
  refine szq hp (fun _ hZ=>znf hZ) ?_
  refine zas ?_
  show closeA _ _=_
  exact jol
 ·have hn0:0<n:=by simp at ht;omega
  obtain⟨v,hv,hvn⟩:=zlw a0 hn0
  have hN:=hG.next hvn
  have hI:=jo1 hG hvn
  have hRc:=zoy hG hvn
  have hRT:=zfk hG hvn
  obtain⟨F,hF⟩:∃F,F=zes n (za0 n es) v:=⟨_,rfl⟩
  rw[←hF]at hI hRc hRT
  have hFl:=hI.l
  have hIn:=jkg F v (by omega) (b:=true) ⟨fun _=>hI.st,fun _=>rfl⟩
  refine zaf (hK6 _ _ ?_)
  refine szq hp (fun _ hZ=>zfc hv hZ) ?_
  refine zae hp zao hc rfl fun K10 hK10=>?_
  refine zde ?_
  refine zbi (hRc) rfl ?_
  refine zde ?_
  refine hK10 _ _ ?_
  refine zab fun K11 hK11=>?_
  refine zae hp zao hc rfl fun K12 hK12=>?_
  refine zde ?_
  refine zbi (hIn) rfl ?_
  refine zde ?_
  refine hK12 _ _ ?_
  refine szf ?_
  refine zaf (hK11 _ _ ?_)
  refine zab fun K13 hK13=>?_
  refine szq hp (fun _ hZ=>znf hZ) ?_
  refine zad ?_
  refine zap hp (fun τ' H' mm=>∃(i:Nat),(i≤F.length)∧mm=F.length - i∧H'=[]∧τ'=frL [(3,.d (.fp [bD z0,bD z1,bD z2] 0)),(4,.d (oD false)),(5,.d (oD true)),(6,.d (.fp [iD (n:Int),zal es] 0)),(7,.d (iD (v:Int))),(8,.d (.fs (nsD F) F.length)),(9,.d (iD (i:Int)))]) (F.length) ?_ ⟨0,Nat.zero_le _,rfl,rfl,rfl⟩ ?_
  ·refine zoz ?_
   exact zo0
  rintro τ' H' mm ⟨i,hi,rfl,rfl,rfl⟩
  refine zab fun K15 hK15=>?_
  refine szq hp (fun _ hZ=>zde hZ) ?_
  refine zak rfl (fun ht=>?_) (fun ht=>?_)
  ·have hiF:i<F.length:=by simp at ht;omega
   obtain⟨y,hy⟩:∃y,y=nth F i:=⟨_,rfl⟩
   have hyF:y∈F:=by rw[hy];exact za7 hiF
   have hyn:=hI.lt y hyF
   have hg1:(nsD F)[i]? =some (iD (y:Int)):=by rw[za9 hiF,hy]
   refine zaf (hK15 _ _ ?_)
   refine zab fun K17 hK17=>?_
   refine zad ?_
   refine szq hp (fun _ hZ=>zfc hg1 hZ) ?_
   refine zab fun K19 hK19=>?_
   refine szq hp (fun _ hZ=>znf hZ) ?_
   refine zad ?_
   refine zap hp (fun τ' H' mm=>∃(k:Nat) (bf:Bool),(k≤es.length∧(bf=false→y≠v∧∀j,j<k→¬((nth es j).2=y∧(nth es j).1≠y∧(nth es j).1∈F)))∧mm=es.length - k∧H'=[]∧τ'=frL [(3,.d (.fp [bD z0,bD z1,bD z2] 0)),(4,.d (oD false)),(5,.d (oD true)),(6,.d (.fp [iD (n:Int),zal es] 0)),(7,.d (iD (v:Int))),(8,.d (.fs (nsD F) F.length)),(9,.d (iD (i:Int))),(10,.d (oD bf)),(11,.d (iD (k:Int)))]) (es.length) ?_ ⟨0,((y:Int)==(v:Int)),⟨Nat.zero_le _,fun h=>⟨fun e=>by rw[e]at h;simp at h,fun j hj=>absurd hj (by omega)⟩⟩,rfl,rfl,rfl⟩ ?_
   ·refine zoz ?_
    exact zo0
   rintro τ' H' mm ⟨k,bf,⟨hk,hbf⟩,rfl,rfl,rfl⟩
   refine zab fun K21 hK21=>?_
   refine szq hp (fun _ hZ=>zde hZ) ?_
   refine zak rfl (fun ht=>?_) (fun ht=>?_)
   ·have hke:k<es.length:=by simp at ht;omega
    obtain⟨a,ha⟩:∃a,a=(nth es k).1:=⟨_,rfl⟩
    obtain⟨b,hb⟩:∃b,b=(nth es k).2:=⟨_,rfl⟩
    have hab:nth es k=(a,b):=by rw[ha,hb]
    have hes:(a,b)∈es:=by rw[←hab];exact za7 hke
    have hge:=hG.e _ hes
    have hg2:(es.flatMap edC)[k*2]? =some (iD (a:Int)):=by rw[ha];exact zxb hke
    have hg3:(es.flatMap edC)[k*2+1]? =some (iD (b:Int)):=by rw[hb];exact zxc hke
    clear ha hb
    have hcl:=hI.cl _ hes
    simp only at hcl hge
    refine zaf (hK21 _ _ ?_)
    refine zab fun K23 hK23=>?_
    refine zad ?_
    refine zab fun K24 hK24=>?_
    have hJ24:∀τ' H',(∃τ1 H1,∃(u:Bool),(u=true)∧H1=[]∧τ1=frL [(3,.d (.fp [bD z0,bD z1,bD z2] 0)),(4,.d (oD false)),(5,.d (oD true)),(6,.d (.fp [iD (n:Int),zal es] 0)),(7,.d (iD (v:Int))),(8,.d (.fs (nsD F) F.length)),(9,.d (iD (i:Int))),(10,.d (oD bf)),(11,.d (iD (k:Int)))]∧Rt [] τ' H' τ1 H1)→K24 τ' H':=by
     rintro τ' H' ⟨_,_,u,hu0,rfl,rfl,hrt⟩
     refine hK24 _ _ (zbb hp hrt ?_)
     clear hrt
     have h4:bf=true∨(bf=false∧((b:Int)==(y:Int))=false)∨(bf=false∧((b:Int)==(y:Int))=true∧((a:Int) !=(y:Int))=false)∨(bf=false∧((b:Int)==(y:Int))=true∧((a:Int) !=(y:Int))=true):=by
      cases bf<;>cases((b:Int)==(y:Int))<;>cases((a:Int) !=(y:Int))<;>simp
     have hIa:=jkg F a (by omega) (b:=decide (a∈F)) (by rw[decide_eq_true_eq])
     refine zix zao hc mixed rfl (q:=0) (by kernel_rfl) (by kernel_rfl) fun K25 hK25=>?_
     rcases h4 with q1|⟨q1,q2⟩|⟨q1,q2,q3⟩|⟨q1,q2,q3⟩
     ·have q2:=q1
      have q3:=q1
      refine zfc (sza hg1 (sza hg2 (sza hg3 (sza q1 (sza q2 q3))))) ?_
      refine hK25 _ _ (hK23 _ _ ?_)
      refine za6 hp zao hc rfl fun K26 hK26=>?_
      refine zde ?_
      refine hK26 _ _ ⟨_,_,_,?_,⟨k+1,true,⟨by omega,fun h=>by cases h⟩,rfl,rfl,rfl⟩,?_⟩
      ·first|omega|(simp only[List.length_cons];omega)|(dsimp only;omega)
      ·refine zoz ?_
       exact zo0
     ·have q3:=q1
      refine zfc (sza hg1 (sza hg2 (sza hg3 (sza q1 (sza q2 q3))))) ?_
      refine hK25 _ _ (hK23 _ _ ?_)
      refine za6 hp zao hc rfl fun K27 hK27=>?_
      refine zde ?_
      refine hK27 _ _ ⟨_,_,_,?_,⟨k+1,false,⟨by omega,fun h=>⟨(hbf q1).1,fun j hj=>by(rcases Nat.lt_or_ge j k with h5|h5;exact(hbf q1).2 j h5;rw[show j=k by omega,hab];exact fun h=>by(have h7:b=y:=h.1;rw[h7]at q2;simp at q2))⟩⟩,rfl,rfl,rfl⟩,?_⟩
      ·first|omega|(simp only[List.length_cons];omega)|(dsimp only;omega)
      ·refine zoz ?_
       exact zo0
     ·refine zfc (sza hg1 (sza hg2 (sza hg3 (sza q1 (sza q2 q3))))) ?_
      refine hK25 _ _ (hK23 _ _ ?_)
      refine za6 hp zao hc rfl fun K28 hK28=>?_
      refine zde ?_
      refine hK28 _ _ ⟨_,_,_,?_,⟨k+1,false,⟨by omega,fun h=>⟨(hbf q1).1,fun j hj=>by(rcases Nat.lt_or_ge j k with h5|h5;exact(hbf q1).2 j h5;rw[show j=k by omega,hab];exact fun h=>by simp at q3;omega)⟩⟩,rfl,rfl,rfl⟩,?_⟩
      ·first|omega|(simp only[List.length_cons];omega)|(dsimp only;omega)
      ·refine zoz ?_
       exact zo0
     ·refine zfc (sza hg1 (sza hg2 (sza hg3 (sza q1 (sza q2 q3))))) ?_
      refine zbi (hIa) rfl ?_
      refine zfc (sza hg1 (sza hg2 (sza hg3 (sza q1 (sza q2 q3))))) ?_
      refine hK25 _ _ (hK23 _ _ ?_)
      refine za6 hp zao hc rfl fun K29 hK29=>?_
      refine zde ?_
      refine hK29 _ _ ⟨_,_,_,?_,⟨k+1,decide (a∈F),⟨by omega,fun h=>⟨(hbf q1).1,fun j hj=>by(rcases Nat.lt_or_ge j k with h5|h5;exact(hbf q1).2 j h5;rw[show j=k by omega,hab];exact fun h2=>by rw[decide_eq_true h2.2.2]at h;cases h)⟩⟩,rfl,rfl,rfl⟩,?_⟩
      ·first|omega|(simp only[List.length_cons];omega)|(dsimp only;omega)
      ·refine zoz ?_
       exact zo0
    refine zbf zao hc mixed rfl (q:=0) (by kernel_rfl) (by kernel_rfl) fun K30 hK30=>?_
    rcases tf ((a:Int)==(y:Int))with q1|q1
    ·have q2:a=y:=by rw[beq_iff_eq]at q1;omega
     have hIb:=jkg F b (by omega) (b:=true) ⟨fun _=>hcl (q2▸hyF),fun _=>rfl⟩
     refine zfc (sza hg1 (sza hg2 (sza hg3 q1))) ?_
     refine zbi (hIb) rfl ?_
     refine zfc (sza hg1 (sza hg2 (sza hg3 q1))) ?_
     refine hK30 _ _ ?_
     refine szf ?_
     refine zaf (hJ24 _ _ ⟨_,_,true,rfl,rfl,rfl,?_⟩)
     refine zoz ?_
     exact zo0
    ·refine zfc (sza hg1 (sza hg2 (sza hg3 q1))) ?_
     refine hK30 _ _ ?_
     refine szf ?_
     refine zaf (hJ24 _ _ ⟨_,_,true,rfl,rfl,rfl,?_⟩)
     refine zoz ?_
     exact zo0
   ·have hke:k=es.length:=by simp at ht;omega
    subst hke
    have hbt:bf=true:=by
     cases hh:bf with
     |true=>rfl
     |false=>
      exfalso
      obtain⟨h5,h6⟩:=hbf hh
      obtain⟨e,he,e1,e2,e3⟩:=hI.pr y hyF h5
      obtain⟨j,hj,rfl⟩:=List.getElem_of_mem he
      rw[←za1 hj]at e1 e2 e3
      exact h6 j hj ⟨e1,e2,e3⟩
    subst hbt
    have hyi:¬((y:Int)<0):=by omega
    have hyl:¬((n:Int)≤(y:Int)):=by omega
    refine zau (hK19 _ _ ?_)
    refine zbf zao hc mixed rfl (q:=0) (by kernel_rfl) (by kernel_rfl) fun K31 hK31=>?_
    by_cases q1:0<i
    ·have e1:decide ((0:Int)<(i:Int))=true:=decide_eq_true (by omega)
     have e2:(((i:Nat):Int) - 1)=((i - 1:Nat):Int):=by omega
     have e3:(nsD F)[i - 1]? =some (iD ((nth F (i - 1):Nat):Int)):=za9 (by omega)
     have e4:decide ((y:Int)≤((nth F (i - 1):Nat):Int))=false:=by
      have:=List.pairwise_iff_getElem.1 hI.up (i - 1) i (by omega) hiF (by omega)
      rw[←za1,←za1,←hy]at this
      exact decide_eq_false (by omega)
     refine jkh (sza hg1 (sza e1 (sza e2 (sza e3 (sza e4 (sza hyi hyl)))))) ?_
     refine hK31 _ _ ?_
     refine szf ?_
     refine zaf (hK17 _ _ ?_)
     refine za6 hp zao hc rfl fun K32 hK32=>?_
     refine zde ?_
     refine hK32 _ _ ⟨_,_,_,?_,⟨i+1,hiF,rfl,rfl,rfl⟩,?_⟩
     ·first|omega|(simp only[List.length_cons];omega)|(dsimp only;omega)
     ·refine zoz ?_
      exact zo0
    ·have e1:decide ((0:Int)<(i:Int))=false:=decide_eq_false (by omega)
     have e2:=q1
     have e3:=q1
     have e4:=q1
     refine jkh (sza hg1 (sza e1 (sza e2 (sza e3 (sza e4 (sza hyi hyl)))))) ?_
     refine hK31 _ _ ?_
     refine szf ?_
     refine zaf (hK17 _ _ ?_)
     refine za6 hp zao hc rfl fun K33 hK33=>?_
     refine zde ?_
     refine hK33 _ _ ⟨_,_,_,?_,⟨i+1,hiF,rfl,rfl,rfl⟩,?_⟩
     ·first|omega|(simp only[List.length_cons];omega)|(dsimp only;omega)
     ·refine zoz ?_
      exact zo0
  ·have hFp:0<F.length:=List.length_pos_of_mem hI.st
   obtain⟨p,hpm,hpl⟩:=zlw b0 hFp
   obtain⟨w,hw⟩:∃w,w=nth F p:=⟨_,rfl⟩
   have hwF:w∈F:=by rw[hw];exact za7 hpl
   have hwn:=hI.lt w hwF
   have hg5:(nsD F)[p]? =some (iD (w:Int)):=by rw[za9 hpl,hw]
   obtain⟨p1,hp1,hp1n⟩:=zlw b0 hn0
   obtain⟨p2,hp2,hp2n⟩:=zlw c0 hn0
   have hRw:=zoy hG hwn
   have hRTw:=zfk hG hwn
   have hGl:=zhl n (za0 n es) w
   obtain⟨G,hGe⟩:∃G,G=zes n (za0 n es) w:=⟨_,rfl⟩
   rw[←hGe]at hRw hRTw hGl
   have hG2:=zxl hG (by omega) hp1n hp2n
   have hRh:=zoy hG2 hvn
   have hRTh:=zfk hG2 hvn
   have hMl:=zhl n (za0 n (es++[(p1,p2)])) v
   obtain⟨M,hMe⟩:∃M,M=zes n (za0 n (es++[(p1,p2)])) v:=⟨_,rfl⟩
   rw[←hMe]at hRh hRTh hMl
   refine zau (hK13 _ _ ?_)
   refine szq hp (fun _ hZ=>zfc (sza hpm hg5) hZ) ?_
   refine zae hp zao hc rfl fun K35 hK35=>?_
   refine zde ?_
   refine zbi (hRw) rfl ?_
   refine zde ?_
   refine hK35 _ _ ?_
   refine zbf zao hc mixed rfl (q:=1) (by kernel_rfl) (by kernel_rfl) fun K36 hK36=>?_
   refine zfc (sza hp1 hp2) ?_
   refine zbi (zxa n es p1 p2 (by omega)) rfl ?_
   refine zfc (sza hp1 hp2) ?_
   refine hK36 _ _ ?_
   refine zae hp zao hc rfl fun K37 hK37=>?_
   refine zde ?_
   refine zbi (hRh) rfl ?_
   refine zde ?_
   refine hK37 _ _ ?_
   refine zab fun K38 hK38=>?_
   refine szq hp (fun _ hZ=>znf hZ) ?_
   refine zad ?_
   refine zap hp (fun τ' H' mm=>∃(j:Nat),(j≤G.length)∧mm=G.length - j∧H'=[]∧τ'=frL [(3,.d (.fp [bD z0,bD z1,bD z2] 0)),(4,.d (oD false)),(5,.d (oD true)),(8,.d (.fs (nsD F) F.length)),(13,.d (.fs (nsD G) G.length)),(15,.d (.fs (nsD M) M.length)),(16,.d (iD (j:Int)))]) (G.length) ?_ ⟨0,Nat.zero_le _,rfl,rfl,rfl⟩ ?_
   ·refine Rt.trans (Rt.gc (keep:=[]) (by decide) (by decide) (by simp[fzH,gcH])) ?_
    refine zoz ?_
    exact zo0
   rintro τ' H' mm ⟨j,hj,rfl,rfl,rfl⟩
   refine zab fun K40 hK40=>?_
   refine szq hp (fun _ hZ=>zde hZ) ?_
   refine zak rfl (fun ht=>?_) (fun ht=>?_)
   ·have hjG:j<G.length:=by simp at ht;omega
    obtain⟨q,hq⟩:∃q,q=nth G j:=⟨_,rfl⟩
    have hqG:q∈G:=by rw[hq];exact za7 hjG
    have hg6:(nsD G)[j]? =some (iD (q:Int)):=by rw[za9 hjG,hq]
    have hqF:q∈F:=(hRT q).2 (((hRT w).1 hwF).trans ((hRTw q).1 hqG))
    have hI7:=jkg F q (by omega) (b:=true) ⟨fun _=>hqF,fun _=>rfl⟩
    refine zaf (hK40 _ _ ?_)
    refine zab fun K42 hK42=>?_
    refine zad ?_
    refine zae hp zao hc rfl fun K43 hK43=>?_
    refine zfc hg6 ?_
    refine zbi (hI7) rfl ?_
    refine zfc hg6 ?_
    refine hK43 _ _ ?_
    refine szf ?_
    refine zaf (hK42 _ _ ?_)
    refine za6 hp zao hc rfl fun K44 hK44=>?_
    refine zde ?_
    refine hK44 _ _ ⟨_,_,_,?_,⟨j+1,hjG,rfl,rfl,rfl⟩,?_⟩
    ·first|omega|(simp only[List.length_cons];omega)|(dsimp only;omega)
    ·refine zoz ?_
     exact zo0
   ·skip
    refine zau (hK38 _ _ ?_)
    refine zab fun K45 hK45=>?_
    refine szq hp (fun _ hZ=>znf hZ) ?_
    refine zad ?_
    refine zap hp (fun τ' H' mm=>∃(j:Nat),(j≤F.length)∧mm=F.length - j∧H'=[]∧τ'=frL [(4,.d (oD false)),(5,.d (oD true)),(8,.d (.fs (nsD F) F.length)),(15,.d (.fs (nsD M) M.length)),(17,.d (iD (j:Int)))]) (F.length) ?_ ⟨0,Nat.zero_le _,rfl,rfl,rfl⟩ ?_
    ·refine zoz ?_
     exact zo0
    rintro τ' H' mm ⟨j,hj,rfl,rfl,rfl⟩
    refine zab fun K47 hK47=>?_
    refine szq hp (fun _ hZ=>zde hZ) ?_
    refine zak rfl (fun ht=>?_) (fun ht=>?_)
    ·have hjF:j<F.length:=by simp at ht;omega
     obtain⟨q,hq⟩:∃q,q=nth F j:=⟨_,rfl⟩
     have hqF:q∈F:=by rw[hq];exact za7 hjF
     have hg6:(nsD F)[j]? =some (iD (q:Int)):=by rw[za9 hjF,hq]
     have hqM:q∈M:=(hRTh q).2 (zxq hG hG2 (fun e he=>List.mem_append_left _ he) hvn ((hRT q).1 hqF)).2
     have hI8:=jkg M q (by omega) (b:=true) ⟨fun _=>hqM,fun _=>rfl⟩
     refine zaf (hK47 _ _ ?_)
     refine zab fun K49 hK49=>?_
     refine zad ?_
     refine zae hp zao hc rfl fun K50 hK50=>?_
     refine zfc hg6 ?_
     refine zbi (hI8) rfl ?_
     refine zfc hg6 ?_
     refine hK50 _ _ ?_
     refine szf ?_
     refine zaf (hK49 _ _ ?_)
     refine za6 hp zao hc rfl fun K51 hK51=>?_
     refine zde ?_
     refine hK51 _ _ ⟨_,_,_,?_,⟨j+1,hjF,rfl,rfl,rfl⟩,?_⟩
     ·first|omega|(simp only[List.length_cons];omega)|(dsimp only;omega)
     ·refine zoz ?_
      exact zo0
    ·skip
     refine zau (hK45 _ _ ?_)
     refine szq hp (fun _ hZ=>znf hZ) ?_
     refine zas ?_
     show closeA _ _=_
     exact jol
end Go.Proofs.Ytfolbdkbpmgjgaa
