/- The law DigraphMatchesReference: walked. -/
import Derived.Test.YtfolbdkbpmgjgaaQr
import Derived.Test.YtfolbdkbpmgjgaaIj
import Derived.Test.YtfolbdkbpmgjgaaIf
import Derived.Test.YtfolbdkbpmgjgaaId
set_option linter.unusedVariables false
set_option linter.unusedSimpArgs false
set_option maxRecDepth 100000
set_option maxHeartbeats 4000000
namespace Go.Proofs.Ytfolbdkbpmgjgaa
open Go Go.RowKit
theorem jb8:(((((type_of% @zs0)∧(type_of% @jkc))∧((type_of% @jra)∧((type_of% @zwh)∧(type_of% @znk))))∧(((type_of% @znl)∧(type_of% @zeg))∧((type_of% @zea)∧((type_of% @zeb)∧(type_of% @zwi)))))∧((((type_of% @zcy)∧(type_of% @zcz))∧((type_of% @zb8)∧((type_of% @zid)∧(type_of% @znn))))∧(((type_of% @zno)∧(type_of% @zwg))∧((type_of% @zlt)∧((type_of% @zfg)∧(type_of% @zwj)))))):=⟨⟨⟨⟨@zs0,@jkc⟩,⟨@jra,⟨@zwh,@znk⟩⟩⟩,⟨⟨@znl,@zeg⟩,⟨@zea,⟨@zeb,@zwi⟩⟩⟩⟩,⟨⟨⟨@zcy,@zcz⟩,⟨@zb8,⟨@zid,@znn⟩⟩⟩,⟨⟨@zno,@zwg⟩,⟨@zlt,⟨@zfg,@zwj⟩⟩⟩⟩⟩
structure OdG where
 n:Int
 e:List (Int × Int)
 l:List Int
 f:Int
def odC(y:OdG):List D:=[iD y.n,zbo y.e,intsD y.l,iD y.f]
theorem jb9{n:Nat}{es:List Ed}(h:Gr n es)(hn:n≤12)(hl:es.length≤30):ztq (n:Int) (es.map fun e=>((e.1:Int),(e.2:Int)))=true:=by
 refine zpu (by simp only[List.length_map];omega) fun k hk=>?_
 rw[List.length_map]at hk
 have hge:=h.e _ (za3 hk)
 have e:nth (es.map fun e=>((e.1:Int),(e.2:Int))) k=(((nth es k).1:Int),((nth es k).2:Int)):=by
  rw[za5 (by rw[List.length_map];exact hk),List.getElem_map,za5 hk]
 rw[e,zoi]
 simp only[Bool.and_eq_true,decide_eq_true_eq]
 omega
theorem jti(b:Bool):(b !=b)=false:=by cases b<;>rfl
theorem jtj(i:Int):(i !=i)=false:=by simp
theorem jnu(l:List Int)(hl:l.length≤1000000):zas Try.prog 23 [intsD l,intsD l] (.d (oD true)):=by
 have:=zr7 l l hl hl
 rwa[show(l==l)=true from by simp]at this
theorem jie{n:Nat}{nx:List (List Nat)}{Q:List (List Nat)}(h:CmpI n nx Q)(hn:n≤1000):zas Try.prog 26 [zan Q,zan Q] (.d (oD true)):=by
 have hl:=zcr h.nd fun x hx=>(h.al x).1 hx
 have h1:Q.length≤n:=Nat.le_trans (zpl h.ne) hl
 have h2:∀r∈Q,r.length≤n:=fun r hr=>zcr (zog h.nd hr) fun x hx=>(h.al x).1 (List.mem_flatten.2 ⟨r,hr,hx⟩)
 have:=zyg Q Q (by omega) (by omega) (fun r hr=>by have:=h2 r hr;omega) (fun r hr=>by have:=h2 r hr;omega)
 rwa[decide_eq_true rfl]at this
theorem zt1{n:Nat}{es:List Ed}(h:Gr n es)(f:Int):(ze1 n es f).length≤n:=by
 by_cases hf:0≤f∧f<(n:Int)
 ·obtain⟨s,rfl⟩:∃s:Nat,f=(s:Int):=⟨f.toNat,by omega⟩
  rw[zmj h (by omega),zbe]
  exact Nat.le_trans (List.length_filter_le _ _) (by simp)
 ·rw[ze1,if_neg hf];simp
theorem jif{n:Nat}{es:List Ed}(h:Gr n es):(zh9 n es).1.length≤1000000:=by
 rcases jqn h with⟨_,k⟩|⟨k,_⟩
 ·have:=h.b
  have:=k.ln
  omega
 ·rw[k];simp
theorem jig{n:Nat}{es:List Ed}(h:Gr n es):(zoe n es).1.length≤1000000:=by
 have hb:=h.b
 rw[zoe]
 rcases jmu h with⟨h1,h2,h3⟩|⟨h1,_⟩
 ·rw[if_pos h1]
  have:=(jsb h h2 h3).l
  show(dpO n (zav n es) (zdv n es).1).length≤1000000
  omega
 ·rw[h1];simp
theorem zp3{p q:Prop}(hq:q)(h:p=q:=by
 conv=>lhs;simp -dsimp -implicitDefEqProofs (disch:=first|assumption|omega|(simp only[r_z,zac,zad,zak,zbc,zc9]<;>omega)|decide) only[r_r,↓reduceIte,Nat.reduceEqDiff,Nat.reduceAdd,D.fix,Int.reduceToNat,Nat.reduceMul,Nat.reduceBNe,Nat.reduceBEq,zk6,bytesD,odC,zbo,intsD,grD,zag,lsD,zan,jb8]):p:=h.mpr hq
theorem jca{p q:Prop}(hq:q)(h:p=q:=by
 conv=>lhs;simp -dsimp -implicitDefEqProofs (disch:=first|assumption|omega|(simp only[r_z,zac,zad,zak,zbc,zc9]<;>omega)|decide) only[r_r,↓reduceIte,Nat.reduceEqDiff,Nat.reduceAdd,D.fix,Int.reduceToNat,Nat.reduceMul,Nat.reduceBNe,Nat.reduceBEq,zk6,bytesD,odC,zbo,intsD,grD,zag,lsD,zan]):p:=h.mpr hq
theorem jnv{p q r:Prop}(e:r)(hq:q)(h:r→p=q:=by
 intro hY
 conv=>lhs;simp -dsimp -implicitDefEqProofs (disch:=first|assumption|omega|(simp only[r_z,zac,zad,zak,zbc,zc9]<;>omega)|decide) only[r_r,↓reduceIte,Nat.reduceEqDiff,Nat.reduceAdd,D.fix,Int.reduceToNat,Nat.reduceMul,Nat.reduceBNe,Nat.reduceBEq,zk6,bytesD,odC,zbo,intsD,grD,zag,lsD,zan,decide_true,decide_false,Bool.not_true,Bool.not_false,jb8,hY]):p:=(h e).mpr hq
theorem zh0{p q:Prop}(hq:q)(h:p=q:=by
 conv=>lhs;simp -dsimp -implicitDefEqProofs (disch:=first|assumption|omega|(simp only[r_z,zac,zad,zak,zbc,zc9]<;>omega)|decide) only[r_r,↓reduceIte,Nat.reduceEqDiff,Nat.reduceAdd,D.fix,Int.reduceToNat,Nat.reduceMul,Nat.reduceBNe,Nat.reduceBEq,zk6,bytesD,odC,zbo,intsD,grD,zag,lsD,zan,jti,jb8]):p:=h.mpr hq
theorem zt2{p q:Prop}(hq:q)(h:p=q:=by
 conv=>lhs;simp -dsimp -implicitDefEqProofs (disch:=first|assumption|omega|(simp only[r_z,zac,zad,zak,zbc,zc9]<;>omega)|decide) only[r_r,↓reduceIte,Nat.reduceEqDiff,Nat.reduceAdd,D.fix,Int.reduceToNat,Nat.reduceMul,Nat.reduceBNe,Nat.reduceBEq,zk6,bytesD,odC,zbo,intsD,grD,zag,lsD,zan,jtj,jb8]):p:=h.mpr hq
theorem jq1{p:Prop}(h:p:=by
 simp (disch:=first|assumption|omega|(simp only[r_z,zac,zad,zak,zbc,zc9]<;>omega)|decide) only[r_c,Nat.reduceAdd,D.fix,↓reduceIte,Nat.reduceEqDiff,zk6,bytesD,odC,zbo,intsD,grD,zag,lsD,zan]):p:=h
theorem zp4(x:RwG)(hx:RwOk x)(y:OdG):zas Try.prog 3 [.agg (zk6 x),.agg (odC y)] (.d (oD true)):=by
 refine zau (fn:=Try.f3) (by kernel_rfl) Try.func3 rfl (Nat.le_of_ble_eq_true rfl) fun c hc hp=>?_
 refine zaw (τ':=frL [(0,.d (.agg (zk6 x))),(1,.d (.agg (odC y)))]) (by repeat (first|exact zal _|refine zaf ?_ (by first|rfl|(simp[r_f,zac,zad,zak,zbc,zc9];done)|simp[r_f,zac,zad,zak,zbc,zc9, *]))) ?_
 refine szq hp (fun _ hZ=>zp3 hZ) ?_
 refine zaj hp zam hc rfl fun K2 hK2=>?_
 refine jca ?_
 refine zbd (ztt) rfl ?_
 refine jca ?_
 refine hK2 _ _ ?_
 refine zab fun K3 hK3=>?_
 refine zaj hp zam hc rfl fun K4 hK4=>?_
 by_cases q1:100<(y.e.length:Int)
 ·refine jnv q1 ?_
  refine hK4 _ _ ?_
  refine szt ?_
  refine szq hp (fun _ hZ=>jca hZ) ?_
  refine zaq ?_
  show closeA _ _=_
  exact jq1
 ·refine jnv q1 ?_
  refine hK4 _ _ ?_
  refine zai rfl (fun ht=>?_) (fun ht=>?_)
  ·refine szq hp (fun _ hZ=>jca hZ) ?_
   refine zaq ?_
   show closeA _ _=_
   exact jq1
  ·have hel0:y.e.length≤100:=by omega
   have hll0:y.l.length≤40:=by simp at ht;omega
   have hv1:=zyd y.n y.e (by omega)
   have hv2:=jbs y.n y.e (by omega)
   refine zah (hK3 _ _ ?_)
   refine zaj hp zam hc rfl fun K7 hK7=>?_
   refine zp3 ?_
   refine jjm (jms x hx) rfl fun r hr=>?_
   obtain⟨n,es,hn12,hel,hG,rfl⟩:=hr
   have hv3:=zpx (n:=n) (by omega) (jb9 hG hn12 hel)
   have hO1:=zsc n es hG
   have hO2:=zsj n es hG
   have hY1:=zsd n es hG
   have hY2:=jb3 n es hG
   have hD1:=zse n es hG
   have hD2:=jb7 n es hG
   refine zp3 ?_
   refine hK7 _ _ ?_
   refine zab fun K8 hK8=>?_
   refine zba hp (τ':=frL [(3,.d (.fp [iD y.n,zbo y.e,intsD y.l,iD y.f] 0)),(4,.d (oD false)),(5,.d (oD true)),(6,.d (.fp [iD (n:Int),zag es] 0))]) (H':=[]) ?_ ?_
   ·refine Rt.trans (Rt.fz (id:=1) (l:=[iD y.n,zbo y.e,intsD y.l,iD y.f]) rfl) ?_
    refine Rt.trans (Rt.fz (id:=2) (l:=[iD (n:Int),zag es]) rfl) ?_
    refine Rt.trans (Rt.gc (keep:=[]) (by decide) (by decide) (by simp[fzH,gcH])) ?_
    refine Rt.end (by repeat (first|exact zal _|refine zaf ?_ (by first|rfl|(simp[r_f,zac,zad,zak,zbc,zc9];done)|simp[r_f,zac,zad,zak,zbc,zc9, *]))) ?_
    first|rfl|(simp only[r_g,Nat.reduceAdd,↓reduceIte,Nat.reduceEqDiff,zk6,bytesD,odC,zbo,intsD,grD,zag,lsD,zan];first|done|rfl)
   generalize hv:ztq y.n y.e=bv at hv1 hv2
   have hA1:=zgn (zdv n es).1 (zdv n es).2 (by have:=zx6 (n:=n) (es:=es);omega)
   have hA2:=zgn (zh9 n es).1 (zh9 n es).2 (jif hG)
   have hA3:=zgn (zoe n es).1 (zoe n es).2 (jig hG)
   have hK1:=zpt n es y.l hG (by omega)
   have hK2:=jbt n es y.l hG (by omega)
   have hR1:=zpq n es hG y.f
   have hR2:=zsi n es hG y.f
   have hS:=jnu (ze1 n es y.f) (by have:=zt1 hG y.f;omega)
   have hC1:=zx5 n es hG hn12
   have hC2:=jb5 n es hG
   have hSm:=jie (zyp hG) (by omega)
   refine zbj zam hc mixed rfl (q:=0) (by kernel_rfl) (by kernel_rfl) fun K9 hK9=>?_
   refine zh0 ?_
   refine zbd (hv1) rfl ?_
   refine zh0 ?_
   refine zbd (hv2) rfl ?_
   refine zh0 ?_
   refine zbd (hv3) rfl ?_
   refine zh0 ?_
   refine zbd (hO1) rfl ?_
   refine zh0 ?_
   refine zbd (hO2) rfl ?_
   refine zh0 ?_
   refine zbd (hA1) rfl ?_
   refine zh0 ?_
   refine zbd (hY1) rfl ?_
   refine zh0 ?_
   refine zbd (hY2) rfl ?_
   refine zh0 ?_
   refine zbd (hA2) rfl ?_
   refine zh0 ?_
   refine zbd (hD1) rfl ?_
   refine zh0 ?_
   refine zbd (hD2) rfl ?_
   refine zh0 ?_
   refine zbd (hA3) rfl ?_
   refine zh0 ?_
   refine hK9 _ _ ?_
   refine szf ?_
   refine zah (hK8 _ _ ?_)
   refine zab fun K10 hK10=>?_
   refine zbj zam hc mixed rfl (q:=0) (by kernel_rfl) (by kernel_rfl) fun K11 hK11=>?_
   refine zt2 ?_
   refine zbd (hK1) rfl ?_
   refine zt2 ?_
   refine zbd (hK2) rfl ?_
   refine zt2 ?_
   refine zbd (hR1) rfl ?_
   refine zt2 ?_
   refine zbd (hR2) rfl ?_
   refine zt2 ?_
   refine zbd (hS) rfl ?_
   refine zt2 ?_
   refine hK11 _ _ ?_
   refine szf ?_
   refine zah (hK10 _ _ ?_)
   refine zbj zam hc mixed rfl (q:=0) (by kernel_rfl) (by kernel_rfl) fun K12 hK12=>?_
   refine zp3 ?_
   refine zbd (hC1) rfl ?_
   refine zp3 ?_
   refine zbd (hC2) rfl ?_
   refine zp3 ?_
   refine zbd (hSm) rfl ?_
   refine zp3 ?_
   refine hK12 _ _ ?_
   refine zaq ?_
   show closeA _ _=_
   exact jq1
end Go.Proofs.Ytfolbdkbpmgjgaa
