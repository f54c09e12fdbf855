/- The law DigraphComponents: walked. -/
import Derived.Test.YtfolbdkbpmgjgaaQr
import Derived.Test.YtfolbdkbpmgjgaaJu
set_option linter.unusedVariables false
set_option linter.unusedSimpArgs false
set_option maxRecDepth 100000
set_option maxHeartbeats 4000000
namespace Go.Proofs.Ytfolbdkbpmgjgaa
open Go Go.RowKit
theorem zzr:(((((type_of% @zx1)∧((type_of% @jhg)∧(type_of% @jng)))∧(((type_of% @zhp)∧(type_of% @zmq))∧((type_of% @zms)∧(type_of% @zmr))))∧(((type_of% @zkw)∧((type_of% @zg1)∧(type_of% @zg2)))∧(((type_of% @ze1)∧(type_of% @zmm))∧((type_of% @zmn)∧(type_of% @zrk)))))∧((((type_of% @zmo)∧((type_of% @zc5)∧(type_of% @zc6)))∧(((type_of% @zdg)∧(type_of% @zdv))∧((type_of% @zd4)∧(type_of% @zmt))))∧((((type_of% @ze0)∧(type_of% @zg3))∧((type_of% @zg4)∧(type_of% @zmv)))∧(((type_of% @ze2)∧(type_of% @ze3))∧((type_of% @zmu)∧(type_of% @zkz)))))):=⟨⟨⟨⟨@zx1,⟨@jhg,@jng⟩⟩,⟨⟨@zhp,@zmq⟩,⟨@zms,@zmr⟩⟩⟩,⟨⟨@zkw,⟨@zg1,@zg2⟩⟩,⟨⟨@ze1,@zmm⟩,⟨@zmn,@zrk⟩⟩⟩⟩,⟨⟨⟨@zmo,⟨@zc5,@zc6⟩⟩,⟨⟨@zdg,@zdv⟩,⟨@zd4,@zmt⟩⟩⟩,⟨⟨⟨@ze0,@zg3⟩,⟨@zg4,@zmv⟩⟩,⟨⟨@ze2,@ze3⟩,⟨@zmu,@zkz⟩⟩⟩⟩⟩
theorem jod(F:List Nat)(v:Nat)(hl:F.length≤1000000){b:Bool}(hb:b=true↔v∈F):zar Try.prog 31 [.fs (nsD F) F.length,iD (v:Int)] (.d (oD b)):=by
 have:=joq (zl F) (v:Int) (by rw[za6];exact hl)
 rw[zka]at this
 have e:decide ((v:Int)∈zl F)=b:=by rw[Bool.eq_iff_iff,decide_eq_true_eq,jbg,hb]
 rwa[e]at this
theorem zw4{n st:Nat}{es:List Ed}(h:Gr n es)(hs:st<n):∃F,zar Try.prog 24 [iD (n:Int),zan es,iD (st:Int)] (.d (.fs (nsD F) F.length))∧F.length≤n∧∀x,x∈F↔RT (za5 n es) st x:=by
 have:=zon n es h (st:Int)
 rw[zwr h hs,zka]at this
 exact⟨_,this,Nat.le_trans (List.length_filter_le _ _) (by simp),zr8 h hs⟩
theorem jm5(m:Nat)(S:List Ed):fzH 1 (S.flatMap edC) [.cells [.d (iD (m:Int)),.os 2 1 0 S.length],.cells (avs (S.flatMap edC))]=[.cells (avs [iD (m:Int),zan S]),.dead]:=by
 have h:fzV 1 (S.flatMap edC) (.os 2 1 0 S.length)= .d (zan S):=zir (zbn (by rw[zap]))
 show[AObj.cells [fzV 1 (S.flatMap edC) (.d (iD (m:Int))),fzV 1 (S.flatMap edC) (.os 2 1 0 S.length)],.dead]=_
 rw[h];rfl
theorem zcj{p q:Prop}(hq:q)(h:p=q:=by
 conv=>lhs;simp -dsimp -implicitDefEqProofs (disch:=first|assumption|omega|(simp only[r_z,zap,zaf,zad]<;>omega)|decide) only[r_r,↓reduceIte,Nat.reduceEqDiff,Nat.reduceAdd,D.fix,Int.reduceToNat,Nat.reduceMul,Nat.reduceBNe,Nat.reduceBEq,zjk,bytesD,grD,zan,lsD,zai,zzr]):p:=h.mpr hq
theorem zln{p q:Prop}(hq:q)(h:p=q:=by
 conv=>lhs;simp -dsimp -implicitDefEqProofs (disch:=first|assumption|omega|(simp only[r_z,zap,zaf,zad]<;>omega)|decide) only[r_r,↓reduceIte,Nat.reduceEqDiff,Nat.reduceAdd,D.fix,Int.reduceToNat,Nat.reduceMul,Nat.reduceBNe,Nat.reduceBEq,zjk,bytesD,grD,zan,lsD,zai]):p:=h.mpr hq
theorem jj5(k:List Nat){m:List Nat}{τ τ1:Fr}{H H1:zaa}(h:Rt m (fun t=>gcV k (τ t)) (gcH k H) τ1 H1)(a:∀i∈m,k[i]? =some i:=by decide)(b:k.Nodup:=by decide)(c:∀i∈k,i<H.length:=by
 simp[fzH,gcH]):Rt m τ H τ1 H1:=Rt.trans (Rt.gc a b c) h
theorem zlp{m:List Nat}{τ τ':Fr}{H H':zaa}(h2:H=H')(h:zgq τ τ':=by
 repeat (first|exact zaj _|refine zac ?_ (by first|rfl|(simp[r_f,zap,zaf,zad];done)|simp[r_f,zap,zaf,zad, *]))):Rt m τ H τ' H':=Rt.end h h2
theorem zdw{p q r:Prop}(e:r)(hq:q)(h:r→p=q:=by
 intro hY
 conv=>lhs;simp -dsimp -implicitDefEqProofs (disch:=first|assumption|omega|(simp only[r_z,zap,zaf,zad]<;>omega)|decide) only[r_r,↓reduceIte,Nat.reduceEqDiff,Nat.reduceAdd,D.fix,Int.reduceToNat,Nat.reduceMul,Nat.reduceBNe,Nat.reduceBEq,zjk,bytesD,grD,zan,lsD,zai,zzr,hY]):p:=(h e).mpr hq
theorem jj6{p q r:Prop}(e:r)(hq:q)(h:r→p=q:=by
 intro hY
 conv=>lhs;simp -dsimp -implicitDefEqProofs (disch:=first|assumption|omega|(simp only[r_z,zap,zaf,zad]<;>omega)|decide) only[r_r,↓reduceIte,Nat.reduceEqDiff,Nat.reduceAdd,D.fix,Int.reduceToNat,Nat.reduceMul,Nat.reduceBNe,Nat.reduceBEq,zjk,bytesD,grD,zan,lsD,zai,decide_false,Bool.not_true,zzr,hY]):p:=(h e).mpr hq
theorem jj7{p q r:Prop}(e:r)(hq:q)(h:r→p=q:=by
 intro hY
 conv=>lhs;simp -dsimp -implicitDefEqProofs (disch:=first|assumption|omega|(simp only[r_z,zap,zaf,zad]<;>omega)|decide) only[r_r,↓reduceIte,Nat.reduceEqDiff,Nat.reduceAdd,D.fix,Int.reduceToNat,Nat.reduceMul,Nat.reduceBNe,Nat.reduceBEq,zjk,bytesD,grD,zan,lsD,zai,ze9,zzr,hY]):p:=(h e).mpr hq
theorem zov{p:Prop}(h:p:=by
 first|rfl|(simp only[r_g,Nat.reduceAdd,↓reduceIte,Nat.reduceEqDiff,zjk,bytesD,grD,zan,lsD,zai];first|done|rfl)):p:=h
theorem joe{p q:Prop}(hq:q)(h:p=q:=by
 conv=>lhs;simp only[r_g,Nat.reduceAdd,↓reduceIte,Nat.reduceEqDiff,zjk,bytesD,grD,zan,lsD,zai]):p:=h.mpr hq
theorem jof{p:Prop}(h:p:=by
 simp (disch:=first|assumption|omega|(simp only[r_z,zap,zaf,zad]<;>omega)|decide) only[r_c,Nat.reduceAdd,D.fix,↓reduceIte,Nat.reduceEqDiff,zjk,bytesD,grD,zan,lsD,zai]):p:=h
theorem zw5(x:RwG)(hx:RwOk x):zar Try.prog 8 [.agg (zjk x)] (.d (oD true)):=by
 refine zay (fn:=Try.f8) (by kernel_rfl) Try.func8 rfl (Nat.le_of_ble_eq_true rfl) fun c hc hp=>?_
 refine zav (τ':=frL [(0,.d (.agg (zjk x)))]) (by repeat (first|exact zaj _|refine zac ?_ (by first|rfl|(simp[r_f,zap,zaf,zad];done)|simp[r_f,zap,zaf,zad, *]))) ?_
 refine szq hp (fun _ hZ=>zcj hZ) ?_
 refine zag hp zam hc rfl fun K2 hK2=>?_
 refine zln ?_
 refine zbj (zr9) rfl ?_
 refine zln ?_
 refine hK2 _ _ ?_
 refine zab fun K3 hK3=>?_
 refine szq hp (fun _ hZ=>zcj hZ) ?_
 refine szf ?_
 refine zah (hK3 _ _ ?_)
 refine zag hp zam hc rfl fun K5 hK5=>?_
 refine zcj ?_
 refine jgp (jj1 x hx) rfl fun r hr=>?_
 obtain⟨n,es,hn12,hel,hG,rfl⟩:=hr
 refine zcj ?_
 refine hK5 _ _ ?_
 refine zbg hp (τ':=frL [(2,.d (oD false)),(3,.d (oD true)),(4,.d (.fp [iD (n:Int),zan es] 0))]) (H':=[]) ?_ ?_
 ·refine Rt.trans (Rt.fz (id:=1) (l:=[iD (n:Int),zan es]) rfl) ?_
  refine jj5 [] ?_
  refine zlp ?_
  exact zov
 have hC:=zwe n es hG hn12
 have hQ:=jbx hG
 have hO:=zli n es hG
 have hok:=jb0 hG
 generalize jje n es=Q at hC hQ
 generalize zer n es=r at hO hok
 obtain⟨L,e⟩:=r
 simp only at hok
 have hqa:=zzp hQ
 have hql:=jj2 hQ
 refine zag hp zam hc rfl fun K6 hK6=>?_
 refine zcj ?_
 refine zbj (hC) rfl ?_
 refine zcj ?_
 refine hK6 _ _ ?_
 refine szq hp (fun _ hZ=>zcj hZ) ?_
 refine szq hp (fun _ hZ=>zln hZ) ?_
 refine zab fun K9 hK9=>?_
 refine szq hp (fun _ hZ=>zln hZ) ?_
 refine zae ?_
 refine zaq hp (fun τ' H' mm=>∃(i:Nat) (A:List Nat),(i≤Q.length∧OfI n Q A i 0∧(Q.take i).flatten.length≤n)∧mm=Q.length - i∧H'=[.cells (avs (nsD A))]∧τ'=frL [(2,.d (oD false)),(3,.d (oD true)),(4,.d (.fp [iD (n:Int),zan es] 0)),(5,.d (zai Q)),(6,.os 1 0 0 n),(7,.d (iD (((Q.take i).flatten.length:Nat):Int))),(8,.d (iD (i:Int)))]) (Q.length) ?_ ⟨0,List.replicate n 0,⟨Nat.zero_le _,joz n Q,by simp⟩,rfl,rfl,rfl⟩ ?_
 ·refine zlp ?_
  rw[zi6];rfl
 rintro τ' H' mm ⟨i,A,⟨hi,hA,hfl⟩,rfl,rfl,rfl⟩
 refine zab fun K11 hK11=>?_
 refine szq hp (fun _ hZ=>zcj hZ) ?_
 refine zal rfl (fun ht=>?_) (fun ht=>?_)
 ·have hiQ:i<Q.length:=by simp at ht;omega
  have hg0:=zca (nx:=Q) (v:=i) hiQ
  have hfs:=zw0 hiQ
  have hfl2:(Q.take i).flatten.length+(nth Q i).length≤n:=by
   rw[←hfs,←hqa,←List.take_append_drop (i+1) Q]
   rw[List.take_append_drop]
   conv=>rhs;rw[←List.take_append_drop (i+1) Q,List.flatten_append,List.length_append]
   omega
  have hpos:=jfk hQ hiQ
  refine zah (hK11 _ _ ?_)
  refine zab fun K13 hK13=>?_
  refine zae ?_
  refine zab fun K14 hK14=>?_
  refine szq hp (fun _ hZ=>zln hZ) ?_
  refine zae ?_
  refine zaq hp (fun τ' H' mm=>∃(k:Nat) (B:List Nat),(k≤(nth Q i).length∧OfI n Q B i k)∧mm=(nth Q i).length - k∧H'=[.cells (avs (nsD B))]∧τ'=frL [(2,.d (oD false)),(3,.d (oD true)),(4,.d (.fp [iD (n:Int),zan es] 0)),(5,.d (zai Q)),(6,.os 1 0 0 n),(7,.d (iD (((Q.take i).flatten.length+k:Nat):Int))),(8,.d (iD (i:Int))),(9,.d (iD (k:Int)))]) ((nth Q i).length) ?_ ⟨0,A,⟨Nat.zero_le _,hA⟩,rfl,rfl,rfl⟩ ?_
  ·refine zlp ?_
   exact zov
  rintro τ' H' mm ⟨k,B,⟨hk,hB⟩,rfl,rfl,rfl⟩
  refine zab fun K16 hK16=>?_
  refine szq hp (fun _ hZ=>zdw hg0 hZ) ?_
  refine zal rfl (fun ht=>?_) (fun ht=>?_)
  ·have hkr:k<(nth Q i).length:=by simp at ht;omega
   obtain⟨y,hy⟩:∃y,y=nth (nth Q i) k:=⟨_,rfl⟩
   have hyn:y<n:=by rw[hy];exact jmx hQ hiQ (za9 hkr)
   have hg1:(nsD (nth Q i))[k]? =some (iD (y:Int)):=by rw[za7 hkr,hy]
   have hBl:=hB.l
   have hB0:=jo0 hQ hB hiQ hkr
   have hBs:=jmz hQ hB hiQ hkr
   rw[←hy]at hB0 hBs
   have hg2:(nsD B)[y]? =some (iD 0):=by rw[za7 (by omega),hB0];rfl
   have hy1:¬((y:Int)<0):=by omega
   have hy2:¬((n:Int)≤(y:Int)):=by omega
   have hi1:((i:Int)+1)=((i+1:Nat):Int):=by omega
   refine zah (hK16 _ _ ?_)
   refine zab fun K18 hK18=>?_
   refine zae ?_
   refine zab fun K19 hK19=>?_
   refine zba zam hc mixed rfl (q:=0) (by kernel_rfl) (by kernel_rfl) fun K20 hK20=>?_
   by_cases q1:0<k
   ·have e1:decide ((0:Int)<(k:Int))=true:=decide_eq_true (by omega)
    have e2:(((k:Nat):Int) - 1)=((k - 1:Nat):Int):=by omega
    have e3:(nsD (nth Q i))[k - 1]? =some (iD ((nth (nth Q i) (k - 1):Nat):Int)):=za7 (by omega)
    have e4:decide ((y:Int)≤((nth (nth Q i) (k - 1):Nat):Int))=false:=by
     have:=jmy hQ hiQ (j:=k - 1) (by omega) hkr
     rw[←hy]at this
     exact decide_eq_false (by omega)
    refine jj6 (sza hg0 (sza hg1 (sza hg2 (sza e1 (sza e2 (sza e3 (sza e4 (sza hy1 hy2)))))))) ?_
    refine hK20 _ _ ?_
    refine szf ?_
    refine zah (hK19 _ _ ?_)
    refine szq hp (fun _ hZ=>jj7 (sza hg0 (sza hg1 hi1)) hZ) ?_
    refine szs hp (fun _ hZ=>zcj hZ) (hK18 _ _ ?_)
    refine zbc hp zam hc rfl fun K23 hK23=>?_
    refine zcj ?_
    refine hK23 _ _ ⟨_,_,_,?_,⟨k+1,B.set y (i+1),⟨by omega,hBs⟩,rfl,rfl,rfl⟩,?_⟩
    ·first|omega|(simp only[List.length_cons];omega)|(dsimp only;omega)
    ·refine zlp ?_
     exact zov
   ·have e1:decide ((0:Int)<(k:Int))=false:=decide_eq_false (by omega)
    have e2:=q1
    have e3:=q1
    have e4:=q1
    refine jj6 (sza hg0 (sza hg1 (sza hg2 (sza e1 (sza e2 (sza e3 (sza e4 (sza hy1 hy2)))))))) ?_
    refine hK20 _ _ ?_
    refine szf ?_
    refine zah (hK19 _ _ ?_)
    refine szq hp (fun _ hZ=>jj7 (sza hg0 (sza hg1 hi1)) hZ) ?_
    refine szs hp (fun _ hZ=>zcj hZ) (hK18 _ _ ?_)
    refine zbc hp zam hc rfl fun K26 hK26=>?_
    refine zcj ?_
    refine hK26 _ _ ⟨_,_,_,?_,⟨k+1,B.set y (i+1),⟨by omega,hBs⟩,rfl,rfl,rfl⟩,?_⟩
    ·first|omega|(simp only[List.length_cons];omega)|(dsimp only;omega)
    ·refine zlp ?_
     exact zov
  ·have hke:k=(nth Q i).length:=by simp at ht;omega
   have hnx:=jm0 hB hke
   subst hke
   have hg3:(nsD (nth Q i))[0]? =some (iD ((nth (nth Q i) 0:Nat):Int)):=za7 hpos
   have hl0:(((nth Q i).length:Int)==0)=false:=by rw[beq_eq_false_iff_ne];omega
   refine zaz (hK14 _ _ ?_)
   refine zba zam hc mixed rfl (q:=0) (by kernel_rfl) (by kernel_rfl) fun K27 hK27=>?_
   by_cases q1:0<i
   ·have e1:decide ((0:Int)<(i:Int))=true:=decide_eq_true (by omega)
    have e2:(((i:Nat):Int) - 1)=((i - 1:Nat):Int):=by omega
    have e3:=zca (nx:=Q) (v:=i - 1) (by omega)
    have e4:(nsD (nth Q (i - 1)))[0]? =some (iD ((nth (nth Q (i - 1)) 0:Nat):Int)):=za7 (jfk hQ (by omega))
    have e5:decide (((nth (nth Q i) 0:Nat):Int)≤((nth (nth Q (i - 1)) 0:Nat):Int))=false:=by
     have:=joy hQ (i:=i - 1) (j:=i) (by omega) hiQ
     exact decide_eq_false (by omega)
    have e6:=jfk hQ (i:=i - 1) (by omega)
    refine zdw (sza hg0 (sza hg3 (sza hl0 (sza e1 (sza e2 (sza e3 (sza e4 e5))))))) ?_
    refine hK27 _ _ ?_
    refine szf ?_
    refine zah (hK13 _ _ ?_)
    refine zbc hp zam hc rfl fun K28 hK28=>?_
    refine zcj ?_
    refine hK28 _ _ ⟨_,_,_,?_,⟨i+1,B,⟨hiQ,hnx,by omega⟩,rfl,rfl,rfl⟩,?_⟩
    ·first|omega|(simp only[List.length_cons];omega)|(dsimp only;omega)
    ·refine zlp ?_
     exact zov
   ·have e1:decide ((0:Int)<(i:Int))=false:=decide_eq_false (by omega)
    have e2:=q1
    have e3:=q1
    have e4:=q1
    have e5:=q1
    refine zdw (sza hg0 (sza hg3 (sza hl0 (sza e1 (sza e2 (sza e3 (sza e4 e5))))))) ?_
    refine hK27 _ _ ?_
    refine szf ?_
    refine zah (hK13 _ _ ?_)
    refine zbc hp zam hc rfl fun K29 hK29=>?_
    refine zcj ?_
    refine hK29 _ _ ⟨_,_,_,?_,⟨i+1,B,⟨hiQ,hnx,by omega⟩,rfl,rfl,rfl⟩,?_⟩
    ·first|omega|(simp only[List.length_cons];omega)|(dsimp only;omega)
    ·refine zlp ?_
     exact zov
 ·have hie:i=Q.length:=by simp at ht;omega
  have hE:=hA.e hie
  have hAl:=hA.l
  subst hie
  rw[List.take_length,hqa]
  have hnn:((n:Int) !=(n:Int))=false:=by simp
  refine zaz (hK9 _ _ ?_)
  refine zab fun K30 hK30=>?_
  refine szq hp (fun _ hZ=>zdw hnn hZ) ?_
  refine szf ?_
  refine zah (hK30 _ _ ?_)
  refine zab fun K32 hK32=>?_
  refine szq hp (fun _ hZ=>zln hZ) ?_
  refine zae ?_
  refine zaq hp (fun τ' H' mm=>∃(v:Nat),(v≤n)∧mm=n - v∧H'=[]∧τ'=frL [(2,.d (oD false)),(3,.d (oD true)),(4,.d (.fp [iD (n:Int),zan es] 0)),(5,.d (zai Q)),(6,.d (.fs (nsD A) n)),(10,.d (iD (v:Int)))]) (n) ?_ ⟨0,Nat.zero_le _,rfl,rfl,rfl⟩ ?_
  ·refine Rt.trans (Rt.fz (id:=0) (l:=(nsD A)) rfl) ?_
   refine Rt.trans (Rt.slot 6 (zir (zbn (by rw[zaf,hAl,Nat.mul_one])))) ?_
   refine jj5 [] ?_
   refine zlp ?_
   exact zov
  rintro τ' H' mm ⟨v,hv,rfl,rfl,rfl⟩
  refine zab fun K34 hK34=>?_
  refine szq hp (fun _ hZ=>zcj hZ) ?_
  refine zal rfl (fun ht=>?_) (fun ht=>?_)
  ·have hvn:v<n:=by simp at ht;omega
   obtain⟨F,hF1,hF2,hF3⟩:=zw4 hG hvn
   refine zah (hK34 _ _ ?_)
   refine zab fun K36 hK36=>?_
   refine zae ?_
   refine zag hp zam hc rfl fun K37 hK37=>?_
   refine zcj ?_
   refine zbj (hF1) rfl ?_
   refine zcj ?_
   refine hK37 _ _ ?_
   refine szq hp (fun _ hZ=>zln hZ) ?_
   refine zae ?_
   refine zaq hp (fun τ' H' mm=>∃(w:Nat),(w≤n)∧mm=n - w∧H'=[]∧τ'=frL [(2,.d (oD false)),(3,.d (oD true)),(4,.d (.fp [iD (n:Int),zan es] 0)),(5,.d (zai Q)),(6,.d (.fs (nsD A) n)),(10,.d (iD (v:Int))),(11,.d (.fs (nsD F) F.length)),(12,.d (iD (w:Int)))]) (n) ?_ ⟨0,Nat.zero_le _,rfl,rfl,rfl⟩ ?_
   ·refine zlp ?_
    exact zov
   rintro τ' H' mm ⟨w,hw,rfl,rfl,rfl⟩
   refine zab fun K39 hK39=>?_
   refine szq hp (fun _ hZ=>zcj hZ) ?_
   refine zal rfl (fun ht=>?_) (fun ht=>?_)
   ·have hwn:w<n:=by simp at ht;omega
    have hq3:=jm1 hQ hE hvn hwn
    have hg1:(nsD A)[v]? =some (iD ((nth A v:Nat):Int)):=za7 (by omega)
    have hg2:(nsD A)[w]? =some (iD ((nth A w:Nat):Int)):=za7 (by omega)
    obtain⟨G,hG1,hG2,hG3⟩:=zw4 hG hwn
    have hIw:=jod F w (by omega) (b:=decide (w∈F)) (by rw[decide_eq_true_eq])
    have hIv:=jod G v (by omega) (b:=decide (v∈G)) (by rw[decide_eq_true_eq])
    refine zah (hK39 _ _ ?_)
    refine zab fun K41 hK41=>?_
    refine zae ?_
    refine zag hp zam hc rfl fun K42 hK42=>?_
    by_cases q1:w∈F
    ·have e1:decide (w∈F)=true:=decide_eq_true q1
     have e2:(decide (v∈G) !=(((nth A v:Nat):Int)==((nth A w:Nat):Int)))=false:=by
      have:decide (v∈G)=(((nth A v:Nat):Int)==((nth A w:Nat):Int)):=by
       rw[Bool.eq_iff_iff,decide_eq_true_eq,beq_iff_eq,hG3,Int.natCast_inj,hq3]
       exact⟨fun h=>⟨(hF3 w).1 q1,h⟩,fun h=>h.2⟩
      rw[this];cases(((nth A v:Nat):Int)==((nth A w:Nat):Int))<;>rfl
     refine zdw e1 ?_
     refine zbj (hIw) rfl ?_
     refine zdw e1 ?_
     refine zbj (hG1) rfl ?_
     refine zdw e1 ?_
     refine zbj (hIv) rfl ?_
     refine zdw e1 ?_
     refine hK42 _ _ ?_
     refine zba zam hc mixed rfl (q:=0) (by kernel_rfl) (by kernel_rfl) fun K43 hK43=>?_
     refine zdw (sza hg1 (sza hg2 e2)) ?_
     refine hK43 _ _ ?_
     refine szf ?_
     refine zah (hK41 _ _ ?_)
     refine zbc hp zam hc rfl fun K44 hK44=>?_
     refine zcj ?_
     refine hK44 _ _ ⟨_,_,_,?_,⟨w+1,hwn,rfl,rfl,rfl⟩,?_⟩
     ·first|omega|(simp only[List.length_cons];omega)|(dsimp only;omega)
     ·refine zlp ?_
      exact zov
    ·have e1:decide (w∈F)=false:=decide_eq_false q1
     have e2:(false !=(((nth A v:Nat):Int)==((nth A w:Nat):Int)))=false:=by
      have:(((nth A v:Nat):Int)==((nth A w:Nat):Int))=false:=by
       rw[beq_eq_false_iff_ne]
       intro h
       exact q1 ((hF3 w).2 (hq3.1 (Int.natCast_inj.1 h)).1)
      rw[this];rfl
     refine zdw e1 ?_
     refine zbj (hIw) rfl ?_
     refine zdw e1 ?_
     refine hK42 _ _ ?_
     refine zba zam hc mixed rfl (q:=0) (by kernel_rfl) (by kernel_rfl) fun K45 hK45=>?_
     refine zdw (sza hg1 (sza hg2 e2)) ?_
     refine hK45 _ _ ?_
     refine szf ?_
     refine zah (hK41 _ _ ?_)
     refine zbc hp zam hc rfl fun K46 hK46=>?_
     refine zcj ?_
     refine hK46 _ _ ⟨_,_,_,?_,⟨w+1,hwn,rfl,rfl,rfl⟩,?_⟩
     ·first|omega|(simp only[List.length_cons];omega)|(dsimp only;omega)
     ·refine zlp ?_
      exact zov
   ·skip
    refine zaz (hK36 _ _ ?_)
    refine zbc hp zam hc rfl fun K47 hK47=>?_
    refine zcj ?_
    refine hK47 _ _ ⟨_,_,_,?_,⟨v+1,hvn,rfl,rfl,rfl⟩,?_⟩
    ·first|omega|(simp only[List.length_cons];omega)|(dsimp only;omega)
    ·refine zlp ?_
     exact zov
  ·skip
   refine zaz (hK32 _ _ ?_)
   refine szq hp (fun _ hZ=>zcj hZ) ?_
   refine szq hp (fun _ hZ=>zln hZ) ?_
   refine zab fun K50 hK50=>?_
   refine szq hp (fun _ hZ=>zln hZ) ?_
   refine zae ?_
   refine zaq hp (fun τ' H' mm=>∃(k:Nat) (S:List Ed) (sl:Bool),(k≤es.length∧S=smE A (es.take k)∧sl=slf (es.take k))∧mm=es.length - k∧H'=[.cells [.d (iD (Q.length:Int)),.os 2 1 0 S.length],.cells (avs (S.flatMap edC))]∧τ'=frL [(2,.d (oD false)),(3,.d (oD true)),(4,.d (.fp [iD (n:Int),zan es] 0)),(5,.d (zai Q)),(6,.d (.fs (nsD A) n)),(14,.op 0 0),(15,.d (oD sl)),(16,.d (iD (k:Int)))]) (es.length) ?_ ⟨0,[],false,⟨Nat.zero_le _,rfl,rfl⟩,rfl,rfl,rfl⟩ ?_
   ·refine Rt.trans (Rt.nilc 0 1 2 rfl rfl) ?_
    refine zlp ?_
    exact zov
   rintro τ' H' mm ⟨k,S,sl,⟨hk,hS,hsl⟩,rfl,rfl,rfl⟩
   refine zab fun K52 hK52=>?_
   refine szq hp (fun _ hZ=>zcj hZ) ?_
   refine zal rfl (fun ht=>?_) (fun ht=>?_)
   ·have hke:k<es.length:=by simp at ht;omega
    obtain⟨a,ha⟩:∃a,a=(nth es k).1:=⟨_,rfl⟩
    obtain⟨b,hb⟩:∃b,b=(nth es k).2:=⟨_,rfl⟩
    have hge:=hG.e _ (za9 hke)
    rw[←ha,←hb]at hge
    have hg1:(es.flatMap edC)[k*2]? =some (iD (a:Int)):=by rw[ha];exact jju hke
    have hg2:(es.flatMap edC)[k*2+1]? =some (iD (b:Int)):=by rw[hb];exact jjv hke
    have hg3:(nsD A)[a]? =some (iD ((nth A a:Nat):Int)):=za7 (by omega)
    have hg4:(nsD A)[b]? =some (iD ((nth A b:Nat):Int)):=za7 (by omega)
    have hsm:=jfl A hke
    have hss:=zzq hke
    rw[←ha,←hb,←hS]at hsm
    rw[←ha,←hb,←hsl]at hss
    clear ha hb
    have hSl:S.length≤30:=by
     have h1:=jb1 A (es.take k)
     rw[←hS,List.length_take]at h1
     omega
    obtain⟨_,ea0,_,ea⟩:=zsa hQ hE hge.1
    obtain⟨_,eb0,_,eb⟩:=zsa hQ hE hge.2
    obtain⟨p,hp1⟩:∃p,p=nth A a - 1:=⟨_,rfl⟩
    obtain⟨q,hq1⟩:∃q,q=nth A b - 1:=⟨_,rfl⟩
    have hp2:((nth A a:Nat):Int) - 1=(p:Int):=by omega
    have hq2:((nth A b:Nat):Int) - 1=(q:Int):=by omega
    rw[←hp1,←hq1]at hsm
    have hba:nth A a≤13∧nth A b≤13∧p≤13∧q≤13:=by omega
    clear ea eb ea0 eb0 hp1 hq1
    refine zah (hK52 _ _ ?_)
    refine zab fun K54 hK54=>?_
    refine zae ?_
    refine szq hp (fun _ hZ=>zdw (sza hg1 (sza hg3 hp2)) hZ) ?_
    refine szq hp (fun _ hZ=>zdw (sza hg2 (sza hg4 hq2)) hZ) ?_
    refine zba zam hc mixed rfl (q:=0) (by kernel_rfl) (by kernel_rfl) fun K57 hK57=>?_
    rcases tf sl with q3|q3
    ·subst q3
     have hs2:true=slf (es.take (k+1)):=by rw[hss];rfl
     refine zdw (sza hg1 hg2) ?_
     refine hK57 _ _ ?_
     refine szq hp (fun _ hZ=>zcj hZ) ?_
     refine zal rfl (fun ht=>?_) (fun ht=>?_)
     ·have hne:p≠q:=fun h=>by rw[h]at ht;simp at ht
      rw[if_neg hne]at hsm
      refine szs hp (fun _ hZ=>zcj hZ) (hK54 _ _ ?_)
      refine zbc hp zam hc rfl fun K60 hK60=>?_
      refine zcj ?_
      refine hK60 _ _ ⟨_,_,_,?_,⟨k+1,S++[(p,q)],true,⟨hke,hsm.symm,hs2⟩,rfl,rfl,rfl⟩,?_⟩
      ·first|omega|(simp only[List.length_cons];omega)|(dsimp only;omega)
      ·refine jj5 [0,3] ?_
       refine zlp ?_
       refine joe ?_;rw[←zlj,List.append_assoc,List.length_append];rfl
     ·have hne:p=q:=by rw[bne_eq_false_iff_eq]at ht;omega
      rw[if_pos hne]at hsm
      refine zah (hK54 _ _ ?_)
      refine zbc hp zam hc rfl fun K61 hK61=>?_
      refine zcj ?_
      refine hK61 _ _ ⟨_,_,_,?_,⟨k+1,S,true,⟨hke,hsm.symm,hs2⟩,rfl,rfl,rfl⟩,?_⟩
      ·first|omega|(simp only[List.length_cons];omega)|(dsimp only;omega)
      ·refine zlp ?_
       exact zov
    ·subst q3
     have hs2:((a:Int)==(b:Int))=slf (es.take (k+1)):=by
      rw[hss,Bool.false_or,Bool.eq_iff_iff,beq_iff_eq,beq_iff_eq];omega
     refine zdw (sza hg1 hg2) ?_
     refine hK57 _ _ ?_
     refine szq hp (fun _ hZ=>zcj hZ) ?_
     refine zal rfl (fun ht=>?_) (fun ht=>?_)
     ·have hne:p≠q:=fun h=>by rw[h]at ht;simp at ht
      rw[if_neg hne]at hsm
      refine szs hp (fun _ hZ=>zcj hZ) (hK54 _ _ ?_)
      refine zbc hp zam hc rfl fun K64 hK64=>?_
      refine zcj ?_
      refine hK64 _ _ ⟨_,_,_,?_,⟨k+1,S++[(p,q)],((a:Int)==(b:Int)),⟨hke,hsm.symm,hs2⟩,rfl,rfl,rfl⟩,?_⟩
      ·first|omega|(simp only[List.length_cons];omega)|(dsimp only;omega)
      ·refine jj5 [0,3] ?_
       refine zlp ?_
       refine joe ?_;rw[←zlj,List.append_assoc,List.length_append];rfl
     ·have hne:p=q:=by rw[bne_eq_false_iff_eq]at ht;omega
      rw[if_pos hne]at hsm
      refine zah (hK54 _ _ ?_)
      refine zbc hp zam hc rfl fun K65 hK65=>?_
      refine zcj ?_
      refine hK65 _ _ ⟨_,_,_,?_,⟨k+1,S,((a:Int)==(b:Int)),⟨hke,hsm.symm,hs2⟩,rfl,rfl,rfl⟩,?_⟩
      ·first|omega|(simp only[List.length_cons];omega)|(dsimp only;omega)
      ·refine zlp ?_
       exact zov
   ·have hke:k=es.length:=by simp at ht;omega
    subst hke
    rw[List.take_length]at hS hsl
    have hGs:=jm2 hG hQ hE
    have hoks:=(jb0 hGs).2 (jj3 hG hQ hE)
    have hOs:=zli Q.length (smE A es) hGs
    rw[←hS]at hGs hoks hOs
    generalize zer Q.length S=r2 at hoks hOs
    obtain⟨L2,e2⟩:=r2
    simp only at hoks
    have hfz:=jm5 Q.length S
    have haq:=jm4 hG hQ
    rw[←hsl]at haq
    have b1:(e2==0)=true:=by rw[hoks];rfl
    refine zaz (hK50 _ _ ?_)
    refine zbg hp (τ':=frL [(2,.d (oD false)),(3,.d (oD true)),(4,.d (.fp [iD (n:Int),zan es] 0)),(5,.d (zai Q)),(6,.d (.fs (nsD A) n)),(14,.d (.fp [iD (Q.length:Int),zan S] 0)),(15,.d (oD sl))]) (H':=[]) ?_ ?_
    ·refine Rt.trans (Rt.fz (id:=1) (l:=(S.flatMap edC)) rfl) ?_
     refine Rt.trans (Rt.heap hfz) ?_
     refine Rt.trans (Rt.fz (id:=0) (l:=[iD (Q.length:Int),zan S]) rfl) ?_
     refine jj5 [] ?_
     refine zlp ?_
     exact zov
    refine zba zam hc mixed rfl (q:=0) (by kernel_rfl) (by kernel_rfl) fun K66 hK66=>?_
    by_cases q1:Q.length=n
    ·have b2:((Q.length:Int)==(n:Int))=true:=by rw[q1];simp
     have b3:((e==0)== !sl)=true:=by
      rw[beq_iff_eq,Bool.eq_iff_iff,beq_iff_eq,Bool.not_eq_true',hok,haq]
      exact⟨fun h=>h.2,fun h=>⟨q1,h⟩⟩
     refine zdw (sza b1 (sza b2 b3)) ?_
     refine zbj (hOs) rfl ?_
     refine zdw (sza b1 (sza b2 b3)) ?_
     refine zbj (hO) rfl ?_
     refine zdw (sza b1 (sza b2 b3)) ?_
     refine hK66 _ _ ?_
     refine zas ?_
     show closeA _ _=_
     exact jof
    ·have b2:((Q.length:Int)==(n:Int))=false:=by rw[beq_eq_false_iff_ne];omega
     have b3:((e==0)==false)=true:=by
      rw[beq_iff_eq,beq_eq_false_iff_ne]
      exact fun h=>q1 (haq.1 (hok.1 h)).1
     refine zdw (sza b1 (sza b2 b3)) ?_
     refine zbj (hOs) rfl ?_
     refine zdw (sza b1 (sza b2 b3)) ?_
     refine zbj (hO) rfl ?_
     refine zdw (sza b1 (sza b2 b3)) ?_
     refine hK66 _ _ ?_
     refine zas ?_
     show closeA _ _=_
     exact jof
end Go.Proofs.Ytfolbdkbpmgjgaa
