/- The law DigraphCloses: walked. -/
import Derived.Test.YtfolbdkbpmgjgaaQr
import Derived.Test.YtfolbdkbpmgjgaaJs
set_option linter.unusedVariables false
set_option linter.unusedSimpArgs false
set_option maxRecDepth 100000
set_option maxHeartbeats 4000000
namespace Go.Proofs.Ytfolbdkbpmgjgaa
open Go Go.RowKit
theorem zxu:(((((type_of% @zyp)∧((type_of% @jh7)∧(type_of% @jid)))∧(((type_of% @jn2)∧(type_of% @zf5))∧((type_of% @zi1)∧(type_of% @zjv))))∧(((type_of% @zg8)∧((type_of% @zgp)∧(type_of% @zgq)))∧(((type_of% @zd2)∧(type_of% @zjt))∧((type_of% @zju)∧(type_of% @zla)))))∧((((type_of% @zvf)∧((type_of% @zve)∧(type_of% @zc7)))∧(((type_of% @zc8)∧(type_of% @zdj))∧((type_of% @zdv)∧(type_of% @jgh))))∧((((type_of% @zyt)∧(type_of% @zlc))∧((type_of% @zld)∧(type_of% @zyq)))∧(((type_of% @zyr)∧(type_of% @jk1))∧((type_of% @jk2)∧(type_of% @jk3)))))):=⟨⟨⟨⟨@zyp,⟨@jh7,@jid⟩⟩,⟨⟨@jn2,@zf5⟩,⟨@zi1,@zjv⟩⟩⟩,⟨⟨@zg8,⟨@zgp,@zgq⟩⟩,⟨⟨@zd2,@zjt⟩,⟨@zju,@zla⟩⟩⟩⟩,⟨⟨⟨@zvf,⟨@zve,@zc7⟩⟩,⟨⟨@zc8,@zdj⟩,⟨@zdv,@jgh⟩⟩⟩,⟨⟨⟨@zyt,@zlc⟩,⟨@zld,@zyq⟩⟩,⟨⟨@zyr,@jk1⟩,⟨@jk2,@jk3⟩⟩⟩⟩⟩
theorem jnp(F:List Nat)(v:Nat)(hl:F.length≤1000000){b:Bool}(hb:b=true↔v∈F):zaq Try.prog 31 [.fs (nsD F) F.length,iD (v:Int)] (.d (oD b)):=by
 have:=jo8 (zl F) (v:Int) (by rw[za5];exact hl)
 rw[zjl]at this
 have e:decide ((v:Int)∈zl F)=b:=by rw[Bool.eq_iff_iff,decide_eq_true_eq,jb8,hb]
 rwa[e]at this
theorem jf9{n st:Nat}{es:List Ed}(h:Gr n es)(hs:st<n):zaq Try.prog 24 [iD (n:Int),zal es,iD (st:Int)] (.d (.fs (nsD (zjm n (zat n es) st)) (zjm n (zat n es) st).length)):=by
 have:=zox n es h (st:Int)
 rwa[zxh h hs,zjl]at this
theorem jga{n:Nat}{nx:List (List Nat)}{Q:List (List Nat)}(h:CmpI n nx Q):Q.length≤n∧∀r∈Q,r.length≤n:=by
 have hl:=zch h.nd fun x hx=>(h.al x).1 hx
 exact⟨Nat.le_trans (zos h.ne) hl,fun r hr=>zch (zni h.nd hr) fun x hx=>(h.al x).1 (List.mem_flatten.2 ⟨r,hr,hx⟩)⟩
theorem jkt{n:Nat}{nx:List (List Nat)}{Q:List (List Nat)}(h:CmpI n nx Q)(hn:n≤1000):zaq Try.prog 26 [zai Q,zai Q] (.d (oD true)):=by
 obtain⟨h1,h2⟩:=jga h
 have:=zw9 Q Q (by omega) (by omega) (fun r hr=>by have:=h2 r hr;omega) (fun r hr=>by have:=h2 r hr;omega)
 rwa[decide_eq_true rfl]at this
theorem jai{n:Nat}{es:List Ed}(h:Gr n es):(zem n es).1.length≤1000000:=by
 rcases znk h with⟨_,k⟩|⟨k,_⟩
 ·have:=h.b
  have:=k.ln
  omega
 ·rw[k];simp
theorem zsz(n:Nat)(nx:List (List Nat))(st:Nat):(zjm n nx st).length≤n:=Nat.le_trans (List.length_filter_le _ _) (by simp)
theorem jph:((0:Int) !=0)=false:=rfl
theorem jow:(true==true)=true:=rfl
theorem jox:(false==false)=true:=rfl
theorem jnq:(true !=true)=false:=rfl
theorem jnr:(false !=false)=false:=rfl
theorem zdw{p q:Prop}(hq:q)(h:p=q:=by
 conv=>lhs;simp -dsimp -implicitDefEqProofs (disch:=first|assumption|omega|(simp only[r_z,zan,zae,zbp]<;>omega)|decide) only[r_r,↓reduceIte,Nat.reduceEqDiff,Nat.reduceAdd,D.fix,Int.reduceToNat,Nat.reduceMul,Nat.reduceBNe,Nat.reduceBEq,zjo,bytesD,grD,zal,lsD,zxu]):p:=h.mpr hq
theorem jku{p q:Prop}(hq:q)(h:p=q:=by
 conv=>lhs;simp -dsimp -implicitDefEqProofs (disch:=first|assumption|omega|(simp only[r_z,zan,zae,zbp]<;>omega)|decide) only[r_r,↓reduceIte,Nat.reduceEqDiff,Nat.reduceAdd,D.fix,Int.reduceToNat,Nat.reduceMul,Nat.reduceBNe,Nat.reduceBEq,zjo,bytesD,grD,zal,lsD]):p:=h.mpr hq
theorem jgk(k:List Nat){m:List Nat}{τ τ1:Fr}{H H1:zaa}(h:Rt m (fun t=>gcV k (τ t)) (gcH k H) τ1 H1)(a:∀i∈m,k[i]? =some i:=by decide)(b:k.Nodup:=by decide)(c:∀i∈k,i<H.length:=by
 simp[fzH,gcH]):Rt m τ H τ1 H1:=Rt.trans (Rt.gc a b c) h
theorem jgb{m:List Nat}{τ τ':Fr}{H H':zaa}(h2:H=H')(h:zgm τ τ':=by
 repeat (first|exact zah _|refine zac ?_ (by first|rfl|(simp[r_f,zan,zae,zbp];done)|simp[r_f,zan,zae,zbp, *]))):Rt m τ H τ' H':=Rt.end h h2
theorem zhk{p q r:Prop}(e:r)(hq:q)(h:r→p=q:=by
 intro hY
 conv=>lhs;simp -dsimp -implicitDefEqProofs (disch:=first|assumption|omega|(simp only[r_z,zan,zae,zbp]<;>omega)|decide) only[r_r,↓reduceIte,Nat.reduceEqDiff,Nat.reduceAdd,D.fix,Int.reduceToNat,Nat.reduceMul,Nat.reduceBNe,Nat.reduceBEq,zjo,bytesD,grD,zal,lsD,zxu,hY]):p:=(h e).mpr hq
theorem jaj{p q r:Prop}(e:r)(hq:q)(h:r→p=q:=by
 intro hY
 conv=>lhs;simp -dsimp -implicitDefEqProofs (disch:=first|assumption|omega|(simp only[r_z,zan,zae,zbp]<;>omega)|decide) only[r_r,↓reduceIte,Nat.reduceEqDiff,Nat.reduceAdd,D.fix,Int.reduceToNat,Nat.reduceMul,Nat.reduceBNe,Nat.reduceBEq,zjo,bytesD,grD,zal,lsD,jow,jox,zxu,hY]):p:=(h e).mpr hq
theorem jkv{p q:Prop}(hq:q)(h:p=q:=by
 conv=>lhs;simp -dsimp -implicitDefEqProofs (disch:=first|assumption|omega|(simp only[r_z,zan,zae,zbp]<;>omega)|decide) only[r_r,↓reduceIte,Nat.reduceEqDiff,Nat.reduceAdd,D.fix,Int.reduceToNat,Nat.reduceMul,Nat.reduceBNe,Nat.reduceBEq,zjo,bytesD,grD,zal,lsD,jph,zxu]):p:=h.mpr hq
theorem jak{p q r:Prop}(e:r)(hq:q)(h:r→p=q:=by
 intro hY
 conv=>lhs;simp -dsimp -implicitDefEqProofs (disch:=first|assumption|omega|(simp only[r_z,zan,zae,zbp]<;>omega)|decide) only[r_r,↓reduceIte,Nat.reduceEqDiff,Nat.reduceAdd,D.fix,Int.reduceToNat,Nat.reduceMul,Nat.reduceBNe,Nat.reduceBEq,zjo,bytesD,grD,zal,lsD,jow,jox,jnq,jnr,jpf,jpg,zxu,hY]):p:=(h e).mpr hq
theorem jgl{p:Prop}(h:p:=by
 first|rfl|(simp only[r_g,Nat.reduceAdd,↓reduceIte,Nat.reduceEqDiff,zjo,bytesD,grD,zal,lsD];first|done|rfl)):p:=h
theorem jlm{p:Prop}(h:p:=by
 simp (disch:=first|assumption|omega|(simp only[r_z,zan,zae,zbp]<;>omega)|decide) only[r_c,Nat.reduceAdd,D.fix,↓reduceIte,Nat.reduceEqDiff,zjo,bytesD,grD,zal,lsD]):p:=h
theorem zs0(x:RwG)(hx:RwOk x)(z0 z1:Int)(h0:Bt z0)(h1:Bt z1):zaq Try.prog 9 [.agg (zjo x),.agg [bD z0,bD z1]] (.d (oD true)):=by
 obtain⟨a0,a1⟩:=h0
 obtain⟨b0,b1⟩:=h1
 refine zay (fn:=Try.f9) (by kernel_rfl) Try.func9 rfl (Nat.le_of_ble_eq_true rfl) fun c hc hp=>?_
 refine zau (τ':=frL [(0,.d (.agg (zjo x))),(1,.d (.agg [bD z0,bD z1]))]) (by repeat (first|exact zah _|refine zac ?_ (by first|rfl|(simp[r_f,zan,zae,zbp];done)|simp[r_f,zan,zae,zbp, *]))) ?_
 refine szq hp (fun _ hZ=>zdw hZ) ?_
 refine zad hp zao hc rfl fun K2 hK2=>?_
 refine jku ?_
 refine zbb (zsy) rfl ?_
 refine jku ?_
 refine hK2 _ _ ?_
 refine zab fun K3 hK3=>?_
 refine szq hp (fun _ hZ=>zdw hZ) ?_
 refine szf ?_
 refine zak (hK3 _ _ ?_)
 refine zad hp zao hc rfl fun K5 hK5=>?_
 refine zdw ?_
 refine jhg (jko x hx) rfl fun r hr=>?_
 obtain⟨n,es,hn12,hel,hG,rfl⟩:=hr
 refine zdw ?_
 refine hK5 _ _ ?_
 refine zad hp zao hc rfl fun K6 hK6=>?_
 refine zdw ?_
 refine zbb (jno n es (by omega)) rfl ?_
 refine zdw ?_
 refine hK6 _ _ ?_
 refine zab fun K7 hK7=>?_
 refine zbc hp (τ':=frL [(3,.d (.fp [bD z0,bD z1] 0)),(4,.d (oD false)),(5,.d (oD true)),(6,.d (.fp [iD (n:Int),zal es] 0)),(7,.d (.fp [iD (n:Int),zal (zen es)] 0))]) (H':=[]) ?_ ?_
 ·refine Rt.trans (Rt.fz (id:=1) (l:=[bD z0,bD z1]) rfl) ?_
  refine Rt.trans (Rt.fz (id:=2) (l:=[iD (n:Int),zal es]) rfl) ?_
  refine Rt.trans (Rt.fz (id:=3) (l:=[iD (n:Int),zal (zen es)]) rfl) ?_
  refine jgk [] ?_
  refine jgb ?_
  exact jgl
 have hGr:=hG.rev
 have hC1:=zo1 n es hG hn12
 have hC2:=zo1 n (zen es) hGr hn12
 rw[←jf6 hG]at hC2
 have hQi:=zrp hG
 have hY1:=zh8 n es hG
 have hY2:=zh8 n (zen es) hGr
 have hyl:=jf7 hG
 have hSm:=jkt hQi (by omega)
 generalize jfa n es=Q at hC1 hC2 hQi hSm
 generalize zem n es=c1 at hY1 hyl
 generalize zem n (zen es)=c2 at hY2 hyl
 obtain⟨C1,ce1⟩:=c1
 obtain⟨C2,ce2⟩:=c2
 simp only at hyl
 have hne:(((C1.length:Nat):Int) !=((C2.length:Nat):Int))=false:=by rw[hyl];simp
 refine zbk zao hc mixed rfl (q:=0) (by kernel_rfl) (by kernel_rfl) fun K8 hK8=>?_
 refine zhk hne ?_
 refine zbb (hC1) rfl ?_
 refine zhk hne ?_
 refine zbb (hC2) rfl ?_
 refine zhk hne ?_
 refine zbb (hSm) rfl ?_
 refine zhk hne ?_
 refine zbb (hY1) rfl ?_
 refine zhk hne ?_
 refine zbb (hY2) rfl ?_
 refine zhk hne ?_
 refine hK8 _ _ ?_
 refine szf ?_
 refine zak (hK7 _ _ ?_)
 have hoo:=jf4 hG
 have hok:=zrt hG
 have hok2:=jcr hG
 have hO1:=zh7 n es hG
 have hO2:=zh7 n (zen es) hGr
 have hoc:=znl hG
 have hoc2:=znl hGr
 generalize hrd:zd4 n es=r at hoo hok hok2 hO1 hoc
 generalize zd4 n (zen es)=r2 at hok2 hO2 hoc2
 obtain⟨L,e⟩:=r
 obtain⟨L2,e2⟩:=r2
 simp only at hoo hok hok2 hoc hoc2
 refine zad hp zao hc rfl fun K9 hK9=>?_
 refine zdw ?_
 refine zbb (hO1) rfl ?_
 refine zdw ?_
 refine hK9 _ _ ?_
 refine zab fun K10 hK10=>?_
 refine zbc hp (τ':=frL [(3,.d (.fp [bD z0,bD z1] 0)),(4,.d (oD false)),(5,.d (oD true)),(6,.d (.fp [iD (n:Int),zal es] 0)),(7,.d (.fp [iD (n:Int),zal (zen es)] 0)),(8,.d (.fp [.fs (nsD L) L.length,iD e] 0))]) (H':=[]) ?_ ?_
 ·refine Rt.trans (Rt.fz (id:=0) (l:=[.fs (nsD L) L.length,iD e]) rfl) ?_
  refine jgk [] ?_
  refine jgb ?_
  exact jgl
 have h9:e=50∨(e=0∧n=0)∨(e=0∧0<n):=by omega
 refine zad hp zao hc rfl fun K11 hK11=>?_
 rcases h9 with q1|⟨q1,q2⟩|⟨q1,q2⟩
 ·have b2:(e !=0)=true:=by rw[q1];rfl
  have b3:=b2
  refine zhk (sza b2 b3) ?_
  refine hK11 _ _ ?_
  refine szt ?_
  have b4:(e==0)=false:=by rw[q1];rfl
  have b5:(e2==0)=false:=by rw[beq_eq_false_iff_ne];omega
  refine zbk zao hc mixed rfl (q:=0) (by kernel_rfl) (by kernel_rfl) fun K12 hK12=>?_
  refine jaj (sza b4 b5) ?_
  refine zbb (hO2) rfl ?_
  refine jaj (sza b4 b5) ?_
  refine hK12 _ _ ?_
  refine zar ?_
  show closeA _ _=_
  exact jlm
 ·have b2:(e !=0)=false:=by rw[q1];rfl
  have b3:((n:Int)==0)=true:=by rw[q2];rfl
  refine zhk (sza b2 b3) ?_
  refine hK11 _ _ ?_
  refine szt ?_
  have b4:(e==0)=true:=by rw[q1];rfl
  have b5:(e2==0)=true:=by rw[beq_iff_eq];omega
  refine zbk zao hc mixed rfl (q:=0) (by kernel_rfl) (by kernel_rfl) fun K13 hK13=>?_
  refine jaj (sza b4 b5) ?_
  refine zbb (hO2) rfl ?_
  refine jaj (sza b4 b5) ?_
  refine hK13 _ _ ?_
  refine zar ?_
  show closeA _ _=_
  exact jlm
 ·have b2:(e !=0)=false:=by rw[q1];rfl
  have b3:((n:Int)==0)=false:=by rw[beq_eq_false_iff_ne];omega
  refine zhk (sza b2 b3) ?_
  refine hK11 _ _ ?_
  refine szf ?_
  have hT:TpO n es L:=by
   rcases hoo with⟨_,h2,_⟩|⟨h1,_⟩
   ·exact h2
   ·rw[Prod.mk.injEq]at h1;rw[h1.2]at q1;cases q1
  have hA:=hok.1 q1
  have hLn:=hT.sz
  refine zak (hK10 _ _ ?_)
  refine szq hp (fun _ hZ=>zdw hZ) ?_
  refine zab fun K15 hK15=>?_
  refine szq hp (fun _ hZ=>zdw hZ) ?_
  refine zaf ?_
  refine zas hp (fun τ' H' mm=>∃(j:Nat),(j≤n)∧mm=n - j∧H'=[.cells (avs (nsD (L.reverse.take j)))]∧τ'=frL [(3,.d (.fp [bD z0,bD z1] 0)),(4,.d (oD false)),(5,.d (oD true)),(6,.d (.fp [iD (n:Int),zal es] 0)),(7,.d (.fp [iD (n:Int),zal (zen es)] 0)),(8,.d (.fp [.fs (nsD L) L.length,iD e] 0)),(9,.os 1 0 0 j),(10,.d (iD ((L.length:Int) - 1 - (j:Int))))]) (n) ?_ ⟨0,Nat.zero_le _,rfl,rfl,rfl⟩ ?_
  ·refine jgb ?_
   exact jgl
  rintro τ' H' mm ⟨j,hj,rfl,rfl,rfl⟩
  refine zab fun K17 hK17=>?_
  refine szq hp (fun _ hZ=>zdw hZ) ?_
  refine zam rfl (fun ht=>?_) (fun ht=>?_)
  ·have hjn:j<n:=by simp at ht;omega
   have hix:((L.length:Int) - 1 - (j:Int)).toNat=n - 1 - j:=by omega
   have hg1:(nsD L)[n - 1 - j]? =some (iD ((nth L (n - 1 - j):Nat):Int)):=zbi (by omega)
   have hrl:(L.reverse.take j).length=j:=by rw[List.length_take,List.length_reverse];omega
   have hs:L.reverse.take (j+1)=L.reverse.take j++[nth L (n - 1 - j)]:=by
    rw[zea (by rw[List.length_reverse];omega),zo9 (by omega),hLn]
   have hsb:(L.length:Int) - 1 - (j:Int) - 1=(L.length:Int) - 1 - ((j+1:Nat):Int):=by omega
   have hnl:(nsD (L.reverse.take j)).length=j:=by rw[zae];exact hrl
   refine zak (hK17 _ _ ?_)
   refine zab fun K19 hK19=>?_
   refine zaf ?_
   refine szs hp (fun _ hZ=>zhk (sza hix (sza hg1 hnl)) hZ) (hK19 _ _ ?_)
   refine zbj hp zao hc rfl fun K21 hK21=>?_
   refine zhk hsb ?_
   refine hK21 _ _ ⟨_,_,_,?_,⟨j+1,hjn,rfl,rfl,rfl⟩,?_⟩
   ·first|omega|(simp only[List.length_cons];omega)|(dsimp only;omega)
   ·refine jgk [2] ?_
    refine jgb ?_
    simp only[r_g,Nat.reduceAdd,↓reduceIte,Nat.reduceEqDiff,zjo,bytesD,grD,zal,lsD];rw[hs,←zjd];rfl
  ·have hje:j=n:=by simp at ht;omega
   have hrv:L.reverse.take j=L.reverse:=List.take_of_length_le (by rw[List.length_reverse];omega)
   rw[hrv]
   have hrl:L.reverse.length=j:=by rw[List.length_reverse];omega
   have hfz:fzV 0 (nsD L.reverse) (.os 1 0 0 j)= .d (.fs (nsD L.reverse) L.reverse.length):=by rw[hrl];exact zke (by rw[Nat.mul_one];exact zbq (by rw[zae];exact hrl))
   have hck:=jf5 hGr L.reverse (by omega) (jf8 hG hT)
   obtain⟨v,hpv,hvn⟩:=jcn a0 (n:=n) (by omega)
   obtain⟨w,hpw,hwn⟩:=jcn b0 (n:=n) (by omega)
   obtain⟨F,hFe⟩:∃F,F=zjm n (zat n es) w:=⟨_,rfl⟩
   have hRc:=jf9 hG hwn
   have hRm:=zsx hG hwn v
   have hFl:=zsz n (zat n es) w
   rw[←hFe]at hRc hRm hFl
   obtain⟨cl,hcl⟩:∃cl,cl=decide (v∈F):=⟨_,rfl⟩
   have hclm:cl=true↔v∈F:=by rw[hcl,decide_eq_true_eq]
   clear hcl
   have hIn:=jnp F v (by omega) hclm
   have hG2:=zxn hG (by omega) hvn hwn
   have hoc3:=znl hG2
   have hma:=jaf hG hA hvn hwn hG2
   have hmc:=jag hG hA hG2
   have hO3:=zh7 n (es++[(v,w)]) hG2
   have hY3:=zh8 n (es++[(v,w)]) hG2
   have hok3:=zrt hG2
   have hCl:=jai hG2
   generalize zd4 n (es++[(v,w)])=r3 at hoc3 hO3 hok3
   generalize zem n (es++[(v,w)])=c3 at hoc3 hmc hY3 hCl
   obtain⟨L3,e3⟩:=r3
   obtain⟨C3,ce3⟩:=c3
   simp only at hoc3 hmc hok3 hCl
   refine za0 (hK15 _ _ ?_)
   refine zab fun K22 hK22=>?_
   refine zbc hp (τ':=frL [(3,.d (.fp [bD z0,bD z1] 0)),(4,.d (oD false)),(5,.d (oD true)),(6,.d (.fp [iD (n:Int),zal es] 0)),(7,.d (.fp [iD (n:Int),zal (zen es)] 0)),(8,.d (.fp [.fs (nsD L) L.length,iD e] 0)),(9,.d (.fs (nsD L.reverse) L.reverse.length))]) (H':=[]) ?_ ?_
   ·refine Rt.trans (Rt.fz (id:=0) (l:=(nsD L.reverse)) rfl) ?_
    refine Rt.trans (Rt.slot 9 hfz) ?_
    refine jgk [] ?_
    refine jgb ?_
    exact jgl
   refine zad hp zao hc rfl fun K23 hK23=>?_
   refine jkv ?_
   refine zbb (hck) rfl ?_
   refine jkv ?_
   refine hK23 _ _ ?_
   refine szf ?_
   refine zak (hK22 _ _ ?_)
   refine szq hp (fun _ hZ=>zhk hpv hZ) ?_
   refine szq hp (fun _ hZ=>zhk hpw hZ) ?_
   refine zad hp zao hc rfl fun K26 hK26=>?_
   refine zdw ?_
   refine zbb (zxe n es v w (by omega)) rfl ?_
   refine zdw ?_
   refine hK26 _ _ ?_
   refine zbc hp (τ':=frL [(3,.d (.fp [bD z0,bD z1] 0)),(4,.d (oD false)),(5,.d (oD true)),(6,.d (.fp [iD (n:Int),zal es] 0)),(7,.d (.fp [iD (n:Int),zal (zen es)] 0)),(8,.d (.fp [.fs (nsD L) L.length,iD e] 0)),(11,.d (iD (v:Int))),(12,.d (iD (w:Int))),(13,.d (.fp [iD (n:Int),zal (es++[(v,w)])] 0))]) (H':=[]) ?_ ?_
   ·refine Rt.trans (Rt.fz (id:=0) (l:=[iD (n:Int),zal (es++[(v,w)])]) rfl) ?_
    refine jgk [] ?_
    refine jgb ?_
    exact jgl
   refine zad hp zao hc rfl fun K27 hK27=>?_
   refine zdw ?_
   refine zbb (hRc) rfl ?_
   refine zdw ?_
   refine zbb (hIn) rfl ?_
   refine zdw ?_
   refine hK27 _ _ ?_
   refine zad hp zao hc rfl fun K28 hK28=>?_
   refine zdw ?_
   refine zbb (hY3) rfl ?_
   refine zdw ?_
   refine hK28 _ _ ?_
   refine zab fun K29 hK29=>?_
   refine zbc hp (τ':=frL [(3,.d (.fp [bD z0,bD z1] 0)),(4,.d (oD false)),(5,.d (oD true)),(6,.d (.fp [iD (n:Int),zal es] 0)),(7,.d (.fp [iD (n:Int),zal (zen es)] 0)),(8,.d (.fp [.fs (nsD L) L.length,iD e] 0)),(11,.d (iD (v:Int))),(12,.d (iD (w:Int))),(13,.d (.fp [iD (n:Int),zal (es++[(v,w)])] 0)),(14,.d (oD cl)),(15,.d (.fp [.fs (nsD C3) C3.length,iD ce3] 0))]) (H':=[]) ?_ ?_
   ·refine Rt.trans (Rt.fz (id:=0) (l:=[.fs (nsD C3) C3.length,iD ce3]) rfl) ?_
    refine jgk [] ?_
    refine jgb ?_
    exact jgl
   have h5:(cl=false∧(e3==0)=true∧(ce3==0)=false)∨(cl=true∧(e3==0)=false∧(ce3==0)=true∧v∈C3∧w∈C3):=by
    cases hc:cl with
    |false=>
     have h6:¬RT (zat n es) w v:=fun h=>by have:=hclm.2 (hRm.2 h);rw[hc]at this;cases this
     have h7:=hok3.2 (hma.2 h6)
     refine .inl ⟨rfl,?_,?_⟩
     ·rw[beq_iff_eq];exact h7
     ·rw[beq_eq_false_iff_ne];omega
    |true=>
     have h6:e3≠0:=fun h=>hma.1 (hok3.1 h) (hRm.1 (hclm.1 hc))
     have h7:ce3=0:=by omega
     refine .inr ⟨rfl,?_,?_,hmc h7⟩
     ·rw[beq_eq_false_iff_ne];exact h6
     ·rw[beq_iff_eq];exact h7
   refine zad hp zao hc rfl fun K30 hK30=>?_
   rcases h5 with⟨q3,q4,q5⟩|⟨q3,q4,q5,q6,q7⟩
   ·subst q3
    refine jak (sza q4 q5) ?_
    refine zbb (hO3) rfl ?_
    refine jak (sza q4 q5) ?_
    refine hK30 _ _ ?_
    refine szf ?_
    refine zak (hK29 _ _ ?_)
    refine szq hp (fun _ hZ=>zdw hZ) ?_
    refine zar ?_
    show closeA _ _=_
    exact jlm
   ·subst q3
    have hI1:=jnp C3 v (by omega) (b:=true) ⟨fun _=>q6,fun _=>rfl⟩
    have hI2:=jnp C3 w (by omega) (b:=true) ⟨fun _=>q7,fun _=>rfl⟩
    refine jak (sza q4 q5) ?_
    refine zbb (hO3) rfl ?_
    refine jak (sza q4 q5) ?_
    refine hK30 _ _ ?_
    refine szf ?_
    refine zak (hK29 _ _ ?_)
    refine zad hp zao hc rfl fun K32 hK32=>?_
    refine zdw ?_
    refine zbb (hI1) rfl ?_
    refine zdw ?_
    refine zbb (hI2) rfl ?_
    refine zdw ?_
    refine hK32 _ _ ?_
    refine zar ?_
    show closeA _ _=_
    exact jlm
end Go.Proofs.Ytfolbdkbpmgjgaa
