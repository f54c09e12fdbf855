/- The law DigraphOrders: walked. -/
import Derived.Test.YtfolbdkbpmgjgaaQr
import Derived.Test.YtfolbdkbpmgjgaaJo
set_option linter.unusedVariables false
set_option linter.unusedSimpArgs false
set_option maxRecDepth 100000
set_option maxHeartbeats 4000000
namespace Go.Proofs.Ytfolbdkbpmgjgaa
open Go Go.RowKit
theorem zxj:(((((type_of% @zym)∧((type_of% @zyn)∧(type_of% @jky)))∧((type_of% @zgq)∧((type_of% @zju)∧(type_of% @zjv))))∧(((type_of% @zoe)∧((type_of% @zr0)∧(type_of% @zhc)))∧((type_of% @zry)∧((type_of% @zrz)∧(type_of% @zhb)))))∧((((type_of% @zcw)∧((type_of% @zcx)∧(type_of% @zc9)))∧((type_of% @zdk)∧((type_of% @zg9)∧(type_of% @zgo))))∧(((type_of% @zgp)∧((type_of% @jgb)∧(type_of% @zd0)))∧((type_of% @zjs)∧((type_of% @zjt)∧(type_of% @jkz)))))):=⟨⟨⟨⟨@zym,⟨@zyn,@jky⟩⟩,⟨@zgq,⟨@zju,@zjv⟩⟩⟩,⟨⟨@zoe,⟨@zr0,@zhc⟩⟩,⟨@zry,⟨@zrz,@zhb⟩⟩⟩⟩,⟨⟨⟨@zcw,⟨@zcx,@zc9⟩⟩,⟨@zdk,⟨@zg9,@zgo⟩⟩⟩,⟨⟨@zgp,⟨@jgb,@zd0⟩⟩,⟨@zjs,⟨@zjt,@jkz⟩⟩⟩⟩⟩
theorem jkm{b:Int}{n:Nat}(h0:0≤b)(hn:0<n):∃v:Nat,b % (n:Int)=(v:Int)∧v<n:=by
 have h1:=Int.emod_nonneg b (show(n:Int)≠0 by omega)
 have h2:=Int.emod_lt_of_pos b (show(0:Int)<n by omega)
 exact⟨(b % (n:Int)).toNat,by omega,by omega⟩
theorem jnm(b:Bool):((!b)==(!b))=true:=by cases b<;>rfl
theorem jpb:(true==false)=false:=rfl
theorem jpc:(false==true)=false:=rfl
theorem zlx{n:Nat}{es:List Ed}(h:Gr n es)(M:List Nat)(hl:M.length≤100000){r:Int}(hr:ckR n es (zl M)=r):zas Try.prog 21 [iD (n:Int),zan es,.fs (nsD M) M.length] (.d (iD r)):=by
 have:=zox n es (zl M) h (by rw[za5];exact hl)
 rwa[znj,hr]at this
theorem zel{p q:Prop}(hq:q)(h:p=q:=by
 conv=>lhs;simp -dsimp -implicitDefEqProofs (disch:=first|assumption|omega|(simp only[r_z,zak,zad,zca]<;>omega)|decide) only[r_r,↓reduceIte,Nat.reduceEqDiff,Nat.reduceAdd,D.fix,Int.reduceToNat,Nat.reduceMul,Nat.reduceBNe,Nat.reduceBEq,zgx,bytesD,grD,zan,lsD,zxj]):p:=h.mpr hq
theorem zo2{p q:Prop}(hq:q)(h:p=q:=by
 conv=>lhs;simp -dsimp -implicitDefEqProofs (disch:=first|assumption|omega|(simp only[r_z,zak,zad,zca]<;>omega)|decide) only[r_r,↓reduceIte,Nat.reduceEqDiff,Nat.reduceAdd,D.fix,Int.reduceToNat,Nat.reduceMul,Nat.reduceBNe,Nat.reduceBEq,zgx,bytesD,grD,zan,lsD]):p:=h.mpr hq
theorem zxk{m:List Nat}{τ τ':Fr}{H H':zaa}(h2:H=H')(h:zgb τ τ':=by
 repeat (first|exact zaj _|refine zac ?_ (by first|rfl|(simp[r_f,zak,zad,zca];done)|simp[r_f,zak,zad,zca, *]))):Rt m τ H τ' H':=Rt.end h h2
theorem jkn{p q r:Prop}(e:r)(hq:q)(h:r→p=q:=by
 intro hY
 conv=>lhs;simp -dsimp -implicitDefEqProofs (disch:=first|assumption|omega|(simp only[r_z,zak,zad,zca]<;>omega)|decide) only[r_r,↓reduceIte,Nat.reduceEqDiff,Nat.reduceAdd,D.fix,Int.reduceToNat,Nat.reduceMul,Nat.reduceBNe,Nat.reduceBEq,zgx,bytesD,grD,zan,lsD,jpb,jpc,zxj,hY]):p:=(h e).mpr hq
theorem zly{p q r:Prop}(e:r)(hq:q)(h:r→p=q:=by
 intro hY
 conv=>lhs;simp -dsimp -implicitDefEqProofs (disch:=first|assumption|omega|(simp only[r_z,zak,zad,zca]<;>omega)|decide) only[r_r,↓reduceIte,Nat.reduceEqDiff,Nat.reduceAdd,D.fix,Int.reduceToNat,Nat.reduceMul,Nat.reduceBNe,Nat.reduceBEq,zgx,bytesD,grD,zan,lsD,zxj,hY]):p:=(h e).mpr hq
theorem jko{p q r:Prop}(e:r)(hq:q)(h:r→p=q:=by
 intro hY
 conv=>lhs;simp -dsimp -implicitDefEqProofs (disch:=first|assumption|omega|(simp only[r_z,zak,zad,zca]<;>omega)|decide) only[r_r,↓reduceIte,Nat.reduceEqDiff,Nat.reduceAdd,D.fix,Int.reduceToNat,Nat.reduceMul,Nat.reduceBNe,Nat.reduceBEq,zgx,bytesD,grD,zan,lsD,i00,zxj,hY]):p:=(h e).mpr hq
theorem jac{p q r:Prop}(e:r)(hq:q)(h:r→p=q:=by
 intro hY
 conv=>lhs;simp -dsimp -implicitDefEqProofs (disch:=first|assumption|omega|(simp only[r_z,zak,zad,zca]<;>omega)|decide) only[r_r,↓reduceIte,Nat.reduceEqDiff,Nat.reduceAdd,D.fix,Int.reduceToNat,Nat.reduceMul,Nat.reduceBNe,Nat.reduceBEq,zgx,bytesD,grD,zan,lsD,jnm,zxj,hY]):p:=(h e).mpr hq
theorem zxl{p:Prop}(h:p:=by
 first|rfl|(simp only[r_g,Nat.reduceAdd,↓reduceIte,Nat.reduceEqDiff,zgx,bytesD,grD,zan,lsD];first|done|rfl)):p:=h
theorem jnn{p:Prop}(h:p:=by
 simp (disch:=first|assumption|omega|(simp only[r_z,zak,zad,zca]<;>omega)|decide) only[r_c,Nat.reduceAdd,D.fix,↓reduceIte,Nat.reduceEqDiff,zgx,bytesD,grD,zan,lsD]):p:=h
theorem zsr(x:RwG)(hx:RwOk x)(k:Int)(hk:Bt k):zas Try.prog 4 [.agg (zgx x),bD k] (.d (oD true)):=by
 obtain⟨k0,k1⟩:=hk
 refine zay (fn:=Try.f4) (by kernel_rfl) Try.func4 rfl (Nat.le_of_ble_eq_true rfl) fun c hc hp=>?_
 refine zat (τ':=frL [(0,.d (.agg (zgx x))),(1,.d (bD k))]) (by repeat (first|exact zaj _|refine zac ?_ (by first|rfl|(simp[r_f,zak,zad,zca];done)|simp[r_f,zak,zad,zca, *]))) ?_
 refine szq hp (fun _ hZ=>zel hZ) ?_
 refine zaf hp zao hc rfl fun K2 hK2=>?_
 refine zo2 ?_
 refine zbj (zkn) rfl ?_
 refine zo2 ?_
 refine hK2 _ _ ?_
 refine zab fun K3 hK3=>?_
 refine szq hp (fun _ hZ=>zel hZ) ?_
 refine szf ?_
 refine zag (hK3 _ _ ?_)
 refine zaf hp zao hc rfl fun K5 hK5=>?_
 refine zel ?_
 refine ja6 (jcn x hx) rfl fun r hr=>?_
 obtain⟨n,es,hn12,hel,hG,rfl⟩:=hr
 have hoo:=jf5 hG
 have hoc:=jkk hG
 have hco:=zlt n es hG
 have hcc:=zre n es hG
 generalize zd9 n es=r at hoo hoc hco
 generalize zjn n es=rc at hoc hcc
 obtain⟨L,e⟩:=r
 obtain⟨C,ce⟩:=rc
 simp only at hoo hoc
 refine zel ?_
 refine hK5 _ _ ?_
 refine zaf hp zao hc rfl fun K6 hK6=>?_
 refine zel ?_
 refine zbj (hco) rfl ?_
 refine zel ?_
 refine hK6 _ _ ?_
 refine zaf hp zao hc rfl fun K7 hK7=>?_
 refine zel ?_
 refine zbj (hcc) rfl ?_
 refine zel ?_
 refine hK7 _ _ ?_
 refine zab fun K8 hK8=>?_
 refine zbe hp (τ':=frL [(1,.d (bD k)),(4,.d (oD false)),(5,.d (oD true)),(6,.d (.fp [iD (n:Int),zan es] 0)),(7,.d (.fp [.fs (nsD L) L.length,iD e] 0)),(8,.d (.fp [.fs (nsD C) C.length,iD ce] 0))]) (H':=[]) ?_ ?_
 ·refine Rt.trans (Rt.fz (id:=1) (l:=[iD (n:Int),zan es]) rfl) ?_
  refine Rt.trans (Rt.fz (id:=2) (l:=[.fs (nsD L) L.length,iD e]) rfl) ?_
  refine Rt.trans (Rt.fz (id:=3) (l:=[.fs (nsD C) C.length,iD ce]) rfl) ?_
  refine Rt.trans (Rt.gc (keep:=[]) (by decide) (by decide) (by simp[fzH,gcH])) ?_
  refine zxk ?_
  exact zxl
 refine zaf hp zao hc rfl fun K9 hK9=>?_
 rcases hoc with⟨q1,q2⟩|⟨q1,q2⟩
 ·have b1:(e==0)=true:=by rw[q1];rfl
  have b2:(ce==0)=false:=by rw[q2];rfl
  have b3:(e !=0)=false:=by rw[q1];rfl
  have b4:(ce !=0)=true:=by rw[q2];rfl
  have b5:(ce !=4)=false:=by rw[q2];rfl
  refine jkn (sza b1 (sza b2 (sza b3 (sza b4 b5)))) ?_
  refine hK9 _ _ ?_
  refine szf ?_
  refine zag (hK8 _ _ ?_)
  refine zab fun K10 hK10=>?_
  refine szq hp (fun _ hZ=>zly b3 hZ) ?_
  refine szf ?_
  have hT:TpO n es L:=by
   rcases hoo with⟨_,h2,_⟩|⟨h1,_⟩
   ·exact h2
   ·rw[Prod.mk.injEq]at h1;rw[h1.2]at q1;cases q1
  have hLn:=hT.sz
  have hck:=zlx hG L (by omega) ((jf4 hG hT.d hT.lt hLn).1.2 hT.ed)
  have hne:(((L.length:Nat):Int) !=(n:Int))=false:=by rw[hLn];simp
  have i00:((0:Int) !=0)=false:=rfl
  refine zag (hK10 _ _ ?_)
  refine zab fun K12 hK12=>?_
  refine zaf hp zao hc rfl fun K13 hK13=>?_
  refine jko hne ?_
  refine zbj (hck) rfl ?_
  refine jko hne ?_
  refine hK13 _ _ ?_
  refine szf ?_
  refine zag (hK12 _ _ ?_)
  refine zab fun K14 hK14=>?_
  refine szq hp (fun _ hZ=>zo2 hZ) ?_
  refine zae ?_
  refine zaq hp (fun τ' H' mm=>∃(i:Nat),(i≤n)∧mm=n - i∧H'=[]∧τ'=frL [(1,.d (bD k)),(4,.d (oD false)),(5,.d (oD true)),(6,.d (.fp [iD (n:Int),zan es] 0)),(7,.d (.fp [.fs (nsD L) L.length,iD e] 0)),(9,.d (iD (i:Int)))]) (n) ?_ ⟨0,Nat.zero_le _,rfl,rfl,rfl⟩ ?_
  ·refine zxk ?_
   exact zxl
  rintro τ' H' mm ⟨i,hi,rfl,rfl,rfl⟩
  refine zab fun K16 hK16=>?_
  refine szq hp (fun _ hZ=>zel hZ) ?_
  refine zai rfl (fun ht=>?_) (fun ht=>?_)
  ·have hin:i<n:=by simp at ht;omega
   refine zag (hK16 _ _ ?_)
   refine zab fun K18 hK18=>?_
   refine zae ?_
   refine szq hp (fun _ hZ=>zel hZ) ?_
   refine zae ?_
   refine zaq hp (fun τ' H' mm=>∃(j:Nat),(i+1≤j∧j≤n)∧mm=n - j∧H'=[]∧τ'=frL [(1,.d (bD k)),(4,.d (oD false)),(5,.d (oD true)),(6,.d (.fp [iD (n:Int),zan es] 0)),(7,.d (.fp [.fs (nsD L) L.length,iD e] 0)),(9,.d (iD (i:Int))),(10,.d (iD (j:Int)))]) (n - (i+1)) ?_ ⟨i+1,⟨Nat.le_refl _,hin⟩,rfl,rfl,rfl⟩ ?_
   ·refine zxk ?_
    exact zxl
   rintro τ' H' mm ⟨j,⟨hij,hj⟩,rfl,rfl,rfl⟩
   refine zab fun K20 hK20=>?_
   refine szq hp (fun _ hZ=>zel hZ) ?_
   refine zai rfl (fun ht=>?_) (fun ht=>?_)
   ·have hjn:j<n:=by simp at ht;omega
    have hg1:(nsD L)[j]? =some (iD ((nth L j:Nat):Int)):=zbb (by omega)
    have hg2:(nsD L)[i]? =some (iD ((nth L i:Nat):Int)):=zbb (by omega)
    refine zag (hK20 _ _ ?_)
    refine zab fun K22 hK22=>?_
    refine zae ?_
    refine zab fun K23 hK23=>?_
    refine zbh zao hc mixed rfl (q:=0) (by kernel_rfl) (by kernel_rfl) fun K24 hK24=>?_
    refine zly (sza hg1 hg2) ?_
    refine hK24 _ _ ?_
    refine zai rfl (fun ht=>?_) (fun ht=>?_)
    ·skip
     refine zaw (hK22 _ _ ?_)
     refine zbd hp zao hc rfl fun K25 hK25=>?_
     refine zel ?_
     refine hK25 _ _ ⟨_,_,_,?_,⟨j+1,⟨by omega,hjn⟩,rfl,rfl,rfl⟩,?_⟩
     ·first|omega|(simp only[List.length_cons];omega)|(dsimp only;omega)
     ·refine zxk ?_
      exact zxl
    ·have hle:nth L j≤nth L i:=by simp at ht;omega
     refine zag (hK23 _ _ ?_)
     refine szq hp (fun _ hZ=>zo2 hZ) ?_
     refine zab fun K27 hK27=>?_
     refine szq hp (fun _ hZ=>zo2 hZ) ?_
     refine zae ?_
     refine zaq hp (fun τ' H' mm=>∃(m:Nat) (bl:Bool),(i≤m∧m≤n∧(bl=false→∀p,i≤p→p<m→(nth L p,nth L j)∉es))∧mm=n - m∧H'=[]∧τ'=frL [(1,.d (bD k)),(4,.d (oD false)),(5,.d (oD true)),(6,.d (.fp [iD (n:Int),zan es] 0)),(7,.d (.fp [.fs (nsD L) L.length,iD e] 0)),(9,.d (iD (i:Int))),(10,.d (iD (j:Int))),(11,.d (oD bl)),(12,.d (iD (m:Int)))]) (n - i) ?_ ⟨i,false,⟨Nat.le_refl _,by omega,fun _ p h1 h2=>by omega⟩,rfl,rfl,rfl⟩ ?_
     ·refine zxk ?_
      exact zxl
     rintro τ' H' mm ⟨m,bl,⟨him,hmn,hbl⟩,rfl,rfl,rfl⟩
     refine zab fun K29 hK29=>?_
     refine szq hp (fun _ hZ=>zel hZ) ?_
     refine zai rfl (fun ht=>?_) (fun ht=>?_)
     ·have hmn2:m<n:=by simp at ht;omega
      have hg3:(nsD L)[m]? =some (iD ((nth L m:Nat):Int)):=zbb (by omega)
      have hed:=jcj es (nth L m) (nth L j) (by omega)
      refine zag (hK29 _ _ ?_)
      refine zab fun K31 hK31=>?_
      refine zae ?_
      refine zhu zao hc mixed rfl (q:=0) (by kernel_rfl) (by kernel_rfl) fun K32 hK32=>?_
      rcases tf bl with q3|q3
      ·refine zly (sza q3 (sza hg1 hg3)) ?_
       refine hK32 _ _ (hK31 _ _ ?_)
       refine zbd hp zao hc rfl fun K33 hK33=>?_
       refine zel ?_
       refine hK33 _ _ ⟨_,_,_,?_,⟨m+1,true,⟨by omega,hmn2,fun h=>by cases h⟩,rfl,rfl,rfl⟩,?_⟩
       ·first|omega|(simp only[List.length_cons];omega)|(dsimp only;omega)
       ·refine zxk ?_
        exact zxl
      ·refine zly (sza q3 (sza hg1 hg3)) ?_
       refine zbj (hed) rfl ?_
       refine zly (sza q3 (sza hg1 hg3)) ?_
       refine hK32 _ _ (hK31 _ _ ?_)
       refine zbd hp zao hc rfl fun K34 hK34=>?_
       refine zel ?_
       refine hK34 _ _ ⟨_,_,_,?_,⟨m+1,jci es (nth L m) (nth L j),⟨by omega,hmn2,fun h p h1 h2=>by(rcases Nat.lt_or_ge p m with h5|h5;exact hbl q3 p h1 h5;rw[show p=m by omega];exact fun hm=>by rw[hasE_iff.2 hm]at h;cases h)⟩,rfl,rfl,rfl⟩,?_⟩
       ·first|omega|(simp only[List.length_cons];omega)|(dsimp only;omega)
       ·refine zxk ?_
        exact zxl
     ·have hme:m=n:=by simp at ht;omega
      have hblt:bl=true:=by
       cases hh:bl with
       |true=>rfl
       |false=>
        exfalso
        obtain⟨p,h1,h2,h3⟩:=hT.ls i j (by omega) hjn hle
        exact hbl hh p h1 (by omega) h3
      refine zaw (hK27 _ _ ?_)
      refine szq hp (fun _ hZ=>zly hblt hZ) ?_
      refine szf ?_
      refine zag (hK22 _ _ ?_)
      refine zbd hp zao hc rfl fun K36 hK36=>?_
      refine zel ?_
      refine hK36 _ _ ⟨_,_,_,?_,⟨j+1,⟨by omega,hjn⟩,rfl,rfl,rfl⟩,?_⟩
      ·first|omega|(simp only[List.length_cons];omega)|(dsimp only;omega)
      ·refine zxk ?_
       exact zxl
   ·skip
    refine zaw (hK18 _ _ ?_)
    refine zbd hp zao hc rfl fun K37 hK37=>?_
    refine zel ?_
    refine hK37 _ _ ⟨_,_,_,?_,⟨i+1,hin,rfl,rfl,rfl⟩,?_⟩
    ·first|omega|(simp only[List.length_cons];omega)|(dsimp only;omega)
    ·refine zxk ?_
     exact zxl
  ·skip
   refine zaw (hK14 _ _ ?_)
   refine zab fun K38 hK38=>?_
   refine szq hp (fun _ hZ=>zel hZ) ?_
   refine zai rfl (fun ht=>?_) (fun ht=>?_)
   ·skip
    refine szq hp (fun _ hZ=>zo2 hZ) ?_
    refine zar ?_
    show closeA _ _=_
    exact jnn
   ·have hn2:2≤n:=by simp at ht;omega
    have hn1:((n:Int) - 1)=((n - 1:Nat):Int):=by omega
    obtain⟨a,ham,han⟩:=jkm k0 (n:=n - 1) (by omega)
    have han2:a+1<n:=by omega
    refine zag (hK38 _ _ ?_)
    refine szq hp (fun _ hZ=>zly (sza hn1 ham) hZ) ?_
    refine szq hp (fun _ hZ=>zel hZ) ?_
    refine zbe hp (τ':=frL [(1,.d (bD k)),(4,.d (oD false)),(5,.d (oD true)),(6,.d (.fp [iD (n:Int),zan es] 0)),(7,.d (.fp [.fs (nsD L) L.length,iD e] 0)),(13,.d (iD (a:Int))),(14,.os 1 0 0 n)]) (H':=[.cells (avs (nsD L))]) ?_ ?_
    ·refine Rt.trans (Rt.gc (keep:=[1]) (by decide) (by decide) (by simp[fzH,gcH])) ?_
     refine zxk ?_
     exact zxl
    have ha1:((a:Int)+1).toNat=a+1:=by omega
    have hg4:(nsD L)[a]? =some (iD ((nth L a:Nat):Int)):=zbb (by omega)
    have hg5:(nsD L)[a+1]? =some (iD ((nth L (a+1):Nat):Int)):=zbb (by omega)
    have hex:((nsD L).set a (iD ((nth L (a+1):Nat):Int))).set (a+1) (iD ((nth L a:Nat):Int))=nsD (exL L a):=by rw[znc,znc];rfl
    have hex2:((nsD L).set a (.val (.int .i64 ((nth L (a+1):Nat):Int)))).set (a+1) (.val (.int .i64 ((nth L a:Nat):Int)))=nsD (exL L a):=hex
    have hxl:(exL L a).length=n:=by rw[zca,hLn]
    have hckx:=zlx hG (exL L a) (by omega) rfl
    have hckd:=zlx hG (L.drop 1) (by rw[List.length_drop];omega) (jkj (n:=n) (es:=es) (by rw[za5,List.length_drop];omega))
    rw[hxl]at hckx
    rw[←zv4,List.length_drop,hLn]at hckd
    have hiff:=jkl hG hT han2
    obtain⟨c9,hc9⟩:∃c9,c9=ckR n es (zl (exL L a)):=⟨_,rfl⟩
    rw[←hc9]at hckx hiff
    have hce:(c9==0)= !jci es (nth L a) (nth L (a+1)):=by
     rw[Bool.eq_iff_iff,beq_iff_eq,hiff]
     cases hx9:jci es (nth L a) (nth L (a+1))with
     |true=>simp[hasE_iff.1 hx9]
     |false=>simp;exact fun hm=>by rw[hasE_iff.2 hm]at hx9;cases hx9
    have hed:=jcj es (nth L a) (nth L (a+1)) (by omega)
    have h66:((6:Int)==6)=true:=rfl
    have hfz:fzV 0 (nsD (exL L a)) (.os 1 0 0 n)= .d (.fs (nsD (exL L a)) n):=zi2 (zbk (by rw[zad,hxl];omega))
    have hlt0:(((L.length:Nat):Int) - 1).toNat=n - 1:=by omega
    have hlt1:(List.take (n - 1) (List.drop 1 (nsD L)))=List.drop 1 (nsD L):=List.take_of_length_le (by rw[List.length_drop,zad];omega)
    refine zbh zao hc mixed rfl (q:=0) (by kernel_rfl) (by kernel_rfl) fun K43 hK43=>?_
    refine zly (sza ha1 (sza hg4 (sza hg5 (sza hex hex2)))) ?_
    refine hK43 _ _ ?_
    refine zbe hp (τ':=frL [(1,.d (bD k)),(4,.d (oD false)),(5,.d (oD true)),(6,.d (.fp [iD (n:Int),zan es] 0)),(7,.d (.fp [.fs (nsD L) L.length,iD e] 0)),(13,.d (iD (a:Int))),(14,.d (.fs (nsD (exL L a)) n))]) (H':=[]) ?_ ?_
    ·refine Rt.trans (Rt.fz (id:=0) (l:=(nsD (exL L a))) rfl) ?_
     refine Rt.trans (Rt.gc (keep:=[]) (by decide) (by decide) (by simp[fzH,gcH])) ?_
     refine zxk ?_
     exact zxl
    refine zbh zao hc mixed rfl (q:=0) (by kernel_rfl) (by kernel_rfl) fun K44 hK44=>?_
    refine jac (sza ha1 (sza hg4 (sza hg5 (sza hce (sza h66 (sza hlt0 hlt1)))))) ?_
    refine zbj (hckx) rfl ?_
    refine jac (sza ha1 (sza hg4 (sza hg5 (sza hce (sza h66 (sza hlt0 hlt1)))))) ?_
    refine zbj (hed) rfl ?_
    refine jac (sza ha1 (sza hg4 (sza hg5 (sza hce (sza h66 (sza hlt0 hlt1)))))) ?_
    refine zbj (hckd) rfl ?_
    refine jac (sza ha1 (sza hg4 (sza hg5 (sza hce (sza h66 (sza hlt0 hlt1)))))) ?_
    refine hK44 _ _ ?_
    refine zar ?_
    show closeA _ _=_
    exact jnn
 ·have b1:(e==0)=false:=by rw[q1];rfl
  have b2:(ce==0)=true:=by rw[q2];rfl
  have b3:(e !=0)=true:=by rw[q1];rfl
  have b4:(ce !=0)=false:=by rw[q2];rfl
  have b5:(e !=50)=false:=by rw[q1];rfl
  refine jkn (sza b1 (sza b2 (sza b3 (sza b4 b5)))) ?_
  refine hK9 _ _ ?_
  refine szf ?_
  refine zag (hK8 _ _ ?_)
  refine zab fun K45 hK45=>?_
  refine szq hp (fun _ hZ=>zly b3 hZ) ?_
  refine szt ?_
  refine szq hp (fun _ hZ=>zo2 hZ) ?_
  refine zar ?_
  show closeA _ _=_
  exact jnn
end Go.Proofs.Ytfolbdkbpmgjgaa
