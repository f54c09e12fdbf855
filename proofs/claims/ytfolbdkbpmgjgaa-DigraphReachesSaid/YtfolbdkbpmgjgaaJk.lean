/- The laws' wrapped calls, With. -/
import Derived.Test.YtfolbdkbpmgjgaaQr
import Derived.Test.YtfolbdkbpmgjgaaJh
import Derived.Test.YtfolbdkbpmgjgaaJg
set_option linter.unusedVariables false
set_option linter.unusedSimpArgs false
set_option maxRecDepth 100000
set_option maxHeartbeats 4000000
namespace Go.Proofs.Ytfolbdkbpmgjgaa
open Go Go.RowKit
theorem jad:(((((type_of% @zhz)∧((type_of% @zu7)∧(type_of% @zyt)))∧((type_of% @zys)∧((type_of% @zg8)∧(type_of% @zgp))))∧(((type_of% @zgq)∧((type_of% @zd3)∧(type_of% @zjn)))∧(((type_of% @zjo)∧(type_of% @zjp))∧((type_of% @zrx)∧(type_of% @zyu)))))∧((((type_of% @zlb)∧((type_of% @zu9)∧(type_of% @zjr)))∧((type_of% @zry)∧((type_of% @zr2)∧(type_of% @zha))))∧(((type_of% @zhb)∧((type_of% @zr1)∧(type_of% @zrz)))∧(((type_of% @zg9)∧(type_of% @zk9))∧((type_of% @zd4)∧(type_of% @zd5)))))):=⟨⟨⟨⟨@zhz,⟨@zu7,@zyt⟩⟩,⟨@zys,⟨@zg8,@zgp⟩⟩⟩,⟨⟨@zgq,⟨@zd3,@zjn⟩⟩,⟨⟨@zjo,@zjp⟩,⟨@zrx,@zyu⟩⟩⟩⟩,⟨⟨⟨@zlb,⟨@zu9,@zjr⟩⟩,⟨@zry,⟨@zr2,@zha⟩⟩⟩,⟨⟨@zhb,⟨@zr1,@zrz⟩⟩,⟨⟨@zg9,@zk9⟩,⟨@zd4,@zd5⟩⟩⟩⟩⟩
theorem zh0{p q:Prop}(hq:q)(h:p=q:=by
 conv=>lhs;simp -dsimp -implicitDefEqProofs (disch:=first|assumption|omega|(simp only[r_z]<;>omega)|decide) only[r_r,↓reduceIte,Nat.reduceEqDiff,Nat.reduceAdd,D.fix,Int.reduceToNat,Nat.reduceMul,Nat.reduceBNe,Nat.reduceBEq,grD,lsD,zal,jad]):p:=h.mpr hq
theorem jfz{p q:Prop}(hq:q)(h:p=q:=by
 conv=>lhs;simp -dsimp -implicitDefEqProofs (disch:=first|assumption|omega|(simp only[r_z]<;>omega)|decide) only[r_r,↓reduceIte,Nat.reduceEqDiff,Nat.reduceAdd,D.fix,Int.reduceToNat,Nat.reduceMul,Nat.reduceBNe,Nat.reduceBEq,grD,lsD,zal,zu7,jlx]):p:=h.mpr hq
theorem jmu{p q:Prop}(hq:q)(h:p=q:=by
 conv=>lhs;simp (disch:=first|assumption|omega|(simp only[r_z]<;>omega)|decide) only[r_c,Nat.reduceAdd,D.fix,↓reduceIte,Nat.reduceEqDiff,grD,lsD,zal]):p:=h.mpr hq
theorem jae(n:Nat)(es:List Ed)(h:Gr n es):zar Try.prog 15 [grD n es] (.d (lsD (zhv n es))):=by
 have hoc:=zwt n es h
 rw[zxw]at hoc
 refine zav (fn:=Try.f15) (by kernel_rfl) Try.func15 rfl (Nat.le_of_ble_eq_true rfl) fun c hc hp=>?_
 refine zat (τ':=frL [(0,.d (grD n es))]) (by repeat (first|exact zaj _|refine zac ?_ (by first|rfl|(simp[r_f];done)|simp[r_f, *]))) ?_
 refine szq hp (fun _ hZ=>zh0 hZ) ?_
 refine zae hp zao hc rfl fun K2 hK2=>?_
 refine zh0 ?_
 refine zbi (hoc) rfl ?_
 refine zh0 ?_
 refine hK2 _ _ ?_
 refine szq hp (fun _ hZ=>zh0 hZ) ?_
 refine zas ?_
 try dsimp only[zc5,zba]
 refine zci rfl ?_
 refine jfz ?_
 show closeA _ _=_
 refine jmu ?_
 simp only[zhu]
theorem zrg(n:Nat)(es:List Ed)(h:Gr n es):zar Try.prog 17 [grD n es] (.d (lsD (zkl n es))):=by
 have hoc:=jel n es h
 rw[zxw]at hoc
 refine zav (fn:=Try.f17) (by kernel_rfl) Try.func17 rfl (Nat.le_of_ble_eq_true rfl) fun c hc hp=>?_
 refine zat (τ':=frL [(0,.d (grD n es))]) (by repeat (first|exact zaj _|refine zac ?_ (by first|rfl|(simp[r_f];done)|simp[r_f, *]))) ?_
 refine szq hp (fun _ hZ=>zh0 hZ) ?_
 refine zae hp zao hc rfl fun K2 hK2=>?_
 refine zh0 ?_
 refine zbi (hoc) rfl ?_
 refine zh0 ?_
 refine hK2 _ _ ?_
 refine szq hp (fun _ hZ=>zh0 hZ) ?_
 refine zas ?_
 try dsimp only[zc5,zba]
 refine zci rfl ?_
 refine jfz ?_
 show closeA _ _=_
 refine jmu ?_
 simp only[zhu]
theorem jaf(n:Nat)(es:List Ed)(h:Gr n es):zar Try.prog 19 [grD n es] (.d (lsD (jcg n es))):=by
 have hoc:=jfi n es h
 rw[zxw]at hoc
 refine zav (fn:=Try.f19) (by kernel_rfl) Try.func19 rfl (Nat.le_of_ble_eq_true rfl) fun c hc hp=>?_
 refine zat (τ':=frL [(0,.d (grD n es))]) (by repeat (first|exact zaj _|refine zac ?_ (by first|rfl|(simp[r_f];done)|simp[r_f, *]))) ?_
 refine szq hp (fun _ hZ=>zh0 hZ) ?_
 refine zae hp zao hc rfl fun K2 hK2=>?_
 refine zh0 ?_
 refine zbi (hoc) rfl ?_
 refine zh0 ?_
 refine hK2 _ _ ?_
 refine szq hp (fun _ hZ=>zh0 hZ) ?_
 refine zas ?_
 try dsimp only[zc5,zba]
 refine zci rfl ?_
 refine jfz ?_
 show closeA _ _=_
 refine jmu ?_
 simp only[zhu]
theorem jmv{m:Nat}:zdg 2 (zng [(9,2),(5,1),(2,0)] [{on:=5,ground:=Ground.data},{on:=9,ground:=Ground.data},{on:=5,ground:=Ground.chain}]) (AV.os 2 3 0 m)=true:=rfl
theorem zw8{H:zaa}:killAll (List.filterMap (fun p:Nat × Nat=>if p.fst=3 then some (5,p.snd)else none) [(3,2)]++[(3,2)]) H=(H.set 2 .dead).set 2 .dead:=rfl
theorem jcl(l:List Ed):(l.flatMap edC).map D.fix=l.flatMap edC:=by rw[List.map_flatMap];rfl
theorem zw9(es:List Ed)(v w:Nat):es.flatMap edC++[iD (v:Int),iD (w:Int)]=(es++[(v,w)]).flatMap edC:=by
 rw[List.flatMap_append];rfl
theorem jj4{p q:Prop}(hq:q)(h:p=q:=by
 conv=>lhs;simp -dsimp -implicitDefEqProofs (disch:=first|assumption|omega|(simp only[r_z,zah]<;>omega)|decide) only[r_r,↓reduceIte,Nat.reduceEqDiff,Nat.reduceAdd,D.fix,Int.reduceToNat,Nat.reduceMul,Nat.reduceBNe,Nat.reduceBEq,grD,zal,jmv,zw8,jad]):p:=h.mpr hq
theorem zxa(n:Nat)(es:List Ed)(v w:Nat)(hl:es.length≤1000):zar Try.prog 32 [grD n es,iD (v:Int),iD (w:Int)] (.d (grD n (es++[(v,w)]))):=by
 refine zav (fn:=Try.f32) (by kernel_rfl) Try.func32 rfl (Nat.le_of_ble_eq_true rfl) fun c hc hp=>?_
 refine zat (τ':=frL [(0,.d (grD n es)),(1,.d (iD (v:Int))),(2,.d (iD (w:Int)))]) (by repeat (first|exact zaj _|refine zac ?_ (by first|rfl|(simp[r_f,zah];done)|simp[r_f,zah, *]))) ?_
 refine szq hp (fun _ hZ=>jj4 hZ) ?_
 refine zbf zao hc mixed rfl (q:=4) (by kernel_rfl) (by kernel_rfl) fun K2 hK2=>?_
 refine jj4 ?_
 refine hK2 _ _ ?_
 refine zas ?_
 try dsimp only[zc5,zba]
 refine zci rfl ?_
 simp -dsimp -implicitDefEqProofs (disch:=first|assumption|omega|(simp only[r_z,zah]<;>omega)|decide) only[r_r,↓reduceIte,Nat.reduceEqDiff,Nat.reduceAdd,D.fix,Int.reduceToNat,Nat.reduceMul,Nat.reduceBNe,Nat.reduceBEq,grD,zal,jmv,zw8,zhz,zjq]
 show closeA _ _=_
 simp (disch:=first|assumption|omega|(simp only[r_z,zah]<;>omega)|decide) only[r_c,Nat.reduceAdd,D.fix,↓reduceIte,Nat.reduceEqDiff,grD,zal,jmv,zw8]
 have e:es.flatMap edC++[D.val (.int .i64 (v:Int))]++[D.val (.int .i64 (w:Int))]=(es++[(v,w)]).flatMap edC:=by rw[List.append_assoc];exact zw9 es v w
 rw[e,jcl,List.length_append];rfl
theorem zxb{l:List Ed}{k:Nat}(h:k<l.length):(l.flatMap edC)[k*2]? =some (iD (((nth l k).1:Nat):Int)):=by
 exact((zca (zcj h)).2 0 (by decide)).symm
theorem zxc{l:List Ed}{k:Nat}(h:k<l.length):(l.flatMap edC)[k*2+1]? =some (iD (((nth l k).2:Nat):Int)):=by
 exact((zca (zcj h)).2 1 (by decide)).symm
def jj5(es:List Ed)(v w:Nat):Bool:=es.any fun e=>e.1==v&&e.2==w
theorem hasE_iff{es:List Ed}{v w:Nat}:jj5 es v w=true↔(v,w)∈es:=by
 unfold jj5
 rw[List.any_eq_true]
 constructor
 ·rintro⟨⟨a,b⟩,h1,h2⟩
  simp at h2
  rw[←h2.1,←h2.2];exact h1
 ·intro h;exact⟨(v,w),h,by simp⟩
theorem jmw{a b v w:Nat}(q:((a:Int)==(v:Int))=true):((b:Int)==(w:Int))=decide (a=v∧b=w):=by
 rw[beq_iff_eq]at q
 rw[Bool.eq_iff_iff,beq_iff_eq,decide_eq_true_eq];omega
theorem jmx{a b v w:Nat}(q:((a:Int)==(v:Int))=false):false=decide (a=v∧b=w):=by
 rw[beq_eq_false_iff_ne]at q
 rw[decide_eq_false (fun h=>q (by rw[h.1]))]
theorem jag{p q:Prop}(hq:q)(h:p=q:=by
 conv=>lhs;simp -dsimp -implicitDefEqProofs (disch:=first|assumption|omega|(simp only[r_z,zah]<;>omega)|decide) only[r_r,↓reduceIte,Nat.reduceEqDiff,Nat.reduceAdd,D.fix,Int.reduceToNat,Nat.reduceMul,Nat.reduceBNe,Nat.reduceBEq,zal,zkf,zcj,edC]):p:=h.mpr hq
theorem jlc{m:List Nat}{τ τ':Fr}{H H':zaa}(h2:H=H')(h:zf6 τ τ':=by
 repeat (first|exact zaj _|refine zac ?_ (by first|rfl|(simp[r_f,zah];done)|simp[r_f,zah, *]))):Rt m τ H τ' H':=Rt.end h h2
theorem jj6{p q:Prop}(hq:q)(h:p=q:=by
 conv=>lhs;simp -dsimp -implicitDefEqProofs (disch:=first|assumption|omega|(simp only[r_z,zah]<;>omega)|decide) only[r_r,↓reduceIte,Nat.reduceEqDiff,Nat.reduceAdd,D.fix,Int.reduceToNat,Nat.reduceMul,Nat.reduceBNe,Nat.reduceBEq,zal,zkf,zcj,edC,jad]):p:=h.mpr hq
theorem jj7{p q r:Prop}(e:r)(hq:q)(h:r→p=q:=by
 intro hY
 conv=>lhs;simp -dsimp -implicitDefEqProofs (disch:=first|assumption|omega|(simp only[r_z,zah]<;>omega)|decide) only[r_r,↓reduceIte,Nat.reduceEqDiff,Nat.reduceAdd,D.fix,Int.reduceToNat,Nat.reduceMul,Nat.reduceBNe,Nat.reduceBEq,zal,zkf,zcj,edC,jad,hY]):p:=(h e).mpr hq
theorem jld{p:Prop}(h:p:=by
 first|rfl|(simp only[r_g,Nat.reduceAdd,↓reduceIte,Nat.reduceEqDiff,zal,zkf,zcj,edC];first|done|rfl)):p:=h
theorem joi{p q:Prop}(hq:q)(h:p=q:=by
 conv=>lhs;simp (disch:=first|assumption|omega|(simp only[r_z,zah]<;>omega)|decide) only[r_c,Nat.reduceAdd,D.fix,↓reduceIte,Nat.reduceEqDiff,zal,zkf,zcj,edC]):p:=h.mpr hq
theorem jj8(es:List Ed)(v w:Nat)(hl:es.length≤1000000):zar Try.prog 29 [zal es,iD (v:Int),iD (w:Int)] (.d (oD (jj5 es v w))):=by
 refine zav (fn:=Try.f29) (by kernel_rfl) Try.func29 rfl (Nat.le_of_ble_eq_true rfl) fun c hc hp=>?_
 refine zat (τ':=frL [(0,.d (zal es)),(1,.d (iD (v:Int))),(2,.d (iD (w:Int)))]) (by repeat (first|exact zaj _|refine zac ?_ (by first|rfl|(simp[r_f,zah];done)|simp[r_f,zah, *]))) ?_
 refine szq hp (fun _ hZ=>jag hZ) ?_
 refine zab fun K2 hK2=>?_
 refine szq hp (fun _ hZ=>jag hZ) ?_
 refine zad ?_
 refine zap hp (fun τ' H' mm=>∃(k:Nat),(k≤es.length∧∀j,j<k→nth es j≠(v,w))∧mm=es.length - k∧H'=[]∧τ'=frL [(0,.d (zal es)),(1,.d (iD (v:Int))),(2,.d (iD (w:Int))),(7,.d (iD (k:Int)))]) (es.length) ?_ ⟨0,⟨Nat.zero_le _,fun j hj=>absurd hj (by omega)⟩,rfl,rfl,rfl⟩ ?_
 ·refine jlc ?_
  exact jld
 rintro τ' H' mm ⟨k,⟨hk,hf⟩,rfl,rfl,rfl⟩
 refine zab fun K4 hK4=>?_
 refine szq hp (fun _ hZ=>jj6 hZ) ?_
 refine zak rfl (fun ht=>?_) (fun ht=>?_)
 ·have hlt:k<es.length:=by simp at ht;omega
  obtain⟨a,ha⟩:∃a,a=(nth es k).1:=⟨_,rfl⟩
  obtain⟨b,hb⟩:∃b,b=(nth es k).2:=⟨_,rfl⟩
  have hab:nth es k=(a,b):=by rw[ha,hb]
  have hg1:(es.flatMap edC)[k*2]? =some (iD (a:Int)):=by rw[ha];exact zxb hlt
  have hg2:(es.flatMap edC)[k*2+1]? =some (iD (b:Int)):=by rw[hb];exact zxc hlt
  clear ha hb
  refine zaf (hK4 _ _ ?_)
  refine zab fun K6 hK6=>?_
  refine zad ?_
  refine zae hp zao hc rfl fun K7 hK7=>?_
  have hJ7:∀τ' H',(∃τ1 H1,∃(c1:Bool),(c1=decide (a=v∧b=w))∧H1=[]∧τ1=frL [(0,.d (zal es)),(1,.d (iD (v:Int))),(2,.d (iD (w:Int))),(7,.d (iD (k:Int))),(29,.d (oD c1))]∧Rt [] τ' H' τ1 H1)→K7 τ' H':=by
   rintro τ' H' ⟨_,_,c1,hcc,rfl,rfl,hrt⟩
   refine hK7 _ _ (zbb hp hrt ?_)
   clear hrt
   refine zak rfl (fun ht=>?_) (fun ht=>?_)
   ·have hin:(v,w)∈es:=by
     rw[hcc,decide_eq_true_eq]at ht
     rw[←ht.1,←ht.2,←hab];exact za7 hlt
    refine szq hp (fun _ hZ=>jag hZ) ?_
    refine zas ?_
    show closeA _ _=_
    refine joi ?_
    rw[hasE_iff.2 hin]
   ·have hne:nth es k≠(v,w):=fun e=>by
     rw[hab,Prod.mk.injEq]at e
     rw[hcc,decide_eq_true e]at ht;cases ht
    refine zaf (hK6 _ _ ?_)
    refine za6 hp zao hc rfl fun K9 hK9=>?_
    refine jj6 ?_
    refine hK9 _ _ ⟨_,_,_,?_,⟨k+1,⟨by omega,fun j hj=>(by rcases Nat.lt_or_ge j k with h|h;exact hf j h;rw[show j=k by omega];exact hne)⟩,rfl,rfl,rfl⟩,?_⟩
    ·first|omega|(simp only[List.length_cons];omega)|(dsimp only;omega)
    ·refine jlc ?_
     exact jld
  rcases tf ((a:Int)==(v:Int))with q1|q1
  ·refine jj7 (sza hg1 (sza hg2 q1)) ?_
   refine(hJ7 _ _ ⟨_,_,(b:Int)==(w:Int),jmw q1,rfl,rfl,?_⟩)
   refine jlc ?_
   exact jld
  ·refine jj7 (sza hg1 (sza hg2 q1)) ?_
   refine(hJ7 _ _ ⟨_,_,false,jmx q1,rfl,rfl,?_⟩)
   refine jlc ?_
   exact jld
 ·have hke:k=es.length:=by simp at ht;omega
  subst hke
  have hno:(v,w)∉es:=fun hm=>by
   obtain⟨j,hj,e⟩:=List.getElem_of_mem hm
   exact hf j hj (by rw[za1 hj];exact e)
  refine zau (hK2 _ _ ?_)
  refine szq hp (fun _ hZ=>jag hZ) ?_
  refine zas ?_
  show closeA _ _=_
  refine joi ?_
  rw[Bool.eq_false_iff.2 (fun h=>hno (hasE_iff.1 h))]
/- What the functions give at the laws' fixed graphs. -/
def zlt(n:Nat)(es:List Ed):List (List Nat):=(List.range n).map fun v=>(List.range n).filter fun w=>jj5 es v w
def zso(n:Nat)(es:List Ed):List (List Nat):=(List.range n).map fun v=>(List.range n).filter fun w=>jj5 es w v
theorem zot{n:Nat}{p:Nat→Bool}:((List.range n).filter p).Pairwise fun a b=>id a<id b:=List.Pairwise.filter _ List.pairwise_lt_range
theorem zlu{n:Nat}{es:List Ed}(h:Gr n es):za0 n es=zlt n es:=by
 refine zg5 (by rw[zbd];simp[zlt]) fun v hv=>?_
 rw[zbd]at hv
 rw[zlt,za2 hv]
 refine zsn id (zoi hv) zot fun w=>?_
 rw[zdk hv,List.mem_filter,List.mem_range,hasE_iff]
 exact⟨fun hm=>⟨(h.e _ hm).2,hm⟩,fun hm=>hm.2⟩
theorem zxd{n:Nat}{es:List Ed}(h:Gr n es):zb8 n es=zso n es:=by
 refine zg5 (by rw[zb6];simp[zso]) fun v hv=>?_
 rw[zb6]at hv
 rw[zso,za2 hv]
 refine zsn id (zoj hv) zot fun w=>?_
 rw[zlk hv,List.mem_filter,List.mem_range,hasE_iff]
 exact⟨fun hm=>⟨(h.e _ hm).1,hm⟩,fun hm=>hm.2⟩
theorem jf0{n:Nat}{l:List Nat}(hd:l.Nodup)(hl:∀x∈l,x<n):zev l=(List.range n).filter fun x=>l.contains x:=by
 refine zsn id (zrf (zre l) ((zdm l).nodup_iff.2 hd)) zot fun w=>?_
 rw[(zdm l).mem_iff,List.mem_filter,List.mem_range,List.contains_iff_mem]
 exact⟨fun hm=>⟨hl w hm,hm⟩,fun hm=>hm.2⟩
def zes(n:Nat)(nx:List (List Nat))(st:Nat):List Nat:=(List.range n).filter fun x=>(zfn nx st).out.contains x
theorem jj9{nx:List (List Nat)}{st:Nat}(hN:GrN nx st):(zfn nx st).out.Nodup:=by
 have:=(zjt hN.n hN.s).c.i.nd
 rw[zsa hN.n hN.s,List.append_nil]at this
 exact this
theorem zxe{nx:List (List Nat)}{st:Nat}(hN:GrN nx st):∀x∈(zfn nx st).out,x<nx.length:=fun x hx=>(zjt hN.n hN.s).c.i.lt x (List.mem_append_left _ hx)
theorem zne{nx:List (List Nat)}{st:Nat}(hN:GrN nx st)(v:Nat):v∈(zfn nx st).out↔RT nx st v:=zoe (zjt hN.n hN.s).c (zsa hN.n hN.s) v
theorem zxf{n st:Nat}{es:List Ed}(h:Gr n es)(hs:st<n):zjd n es (st:Int)=zl (zes n (za0 n es) st):=by
 have hN:=h.next hs
 rw[zjd,if_pos ⟨by omega,by omega⟩,zwf,Int.toNat_natCast,←zq3,jf0 (n:=n) (jj9 hN) (fun x hx=>by have:=zxe hN x hx;rwa[zbd]at this)];rfl
theorem zfk{n st:Nat}{es:List Ed}(h:Gr n es)(hs:st<n)(x:Nat):x∈zes n (za0 n es) st↔RT (za0 n es) st x:=by
 have hN:=h.next hs
 rw[zes,List.mem_filter,List.mem_range,List.contains_iff_mem,zne hN]
 refine⟨fun h=>h.2,fun hr=>⟨?_,hr⟩⟩
 have:=zxe hN x ((zne hN x).2 hr)
 rwa[zbd]at this
theorem zxg{n:Nat}{es:List Ed}(h:Gr n es):zhv n es=if(zdl n (zso n es) n).length<n then([],50)else(zdl n (zso n es) n,0):=by rw[zhv,zxd h]
theorem jcm{n:Nat}{es:List Ed}(h:Gr n es):jcg n es=if(zhv n es).2=0 then(dpO n (zlt n es) (zhv n es).1,0)else([],(zhv n es).2):=by rw[jcg,zlu h]
theorem zxh{n:Nat}{es:List Ed}(h:Gr n es):zkl n es=if(bfS (zlt n es) n).1=0 then([],4)else(zht (zlt n es) (zso n es) (bfS (zlt n es) n).2 (bfS (zlt n es) n).1 ((bfS (zlt n es) n).1 - 1),0):=by rw[zkl,zlu h,zxd h]
def egG:List Ed:=[(2,0),(0,3),(1,3)]
def egH:List Ed:=[(2,0),(0,3),(1,3),(3,2)]
def egI:List Ed:=[(2,0),(0,3),(1,3),(1,1)]
theorem grG:Gr 4 egG:=⟨by decide,by decide,by decide⟩
theorem grH:Gr 4 egH:=⟨by decide,by decide,by decide⟩
theorem grI:Gr 4 egI:=⟨by decide,by decide,by decide⟩
theorem gr0:Gr 0 []:=⟨by decide,by decide,by decide⟩
theorem jka:zhv 4 egG=([1,2,0,3],0):=by rw[zxg grG];kernel_rfl
theorem jkb:zhv 4 egH=([],50):=by rw[zxg grH];kernel_rfl
theorem jmy:zhv 0 []=([],0):=by rw[zxg gr0];kernel_rfl
theorem jmz:jcg 4 egG=([1,0,0,2],0):=by rw[jcm grG,jka];kernel_rfl
theorem jm0:jcg 4 egH=([],50):=by rw[jcm grH,jkb];kernel_rfl
theorem jm1:zkl 4 egG=([],4):=by rw[zxh grG];kernel_rfl
theorem jm2:zkl 4 egH=([0,3,2],0):=by rw[zxh grH];kernel_rfl
theorem jm3:zkl 4 egI=([1],0):=by rw[zxh grI];kernel_rfl
theorem jm4:zjd 4 egG 2=[0,2,3]:=by
 have:=zxf grG (st:=2) (by decide)
 rw[zlu grG]at this
 exact this.trans (by kernel_rfl)
theorem jm5:zjd 4 egG 4=[]:=if_neg (by decide)
theorem jm6:ckR 4 egG [2,0,1,3]=0:=by kernel_rfl
theorem jm7:ckR 4 egG [0,1,2,3]=6:=by kernel_rfl
theorem joz(es:List Ed):zal es=zed (es.map fun e=>((e.1:Int),(e.2:Int))):=by
 rw[zal,zed,List.flatMap_map,List.length_map];rfl
theorem jm8:zxy 4 (egG.map fun e=>((e.1:Int),(e.2:Int)))=true:=by kernel_rfl
theorem jm9:zxy 3 (egG.map fun e=>((e.1:Int),(e.2:Int)))=false:=by kernel_rfl
theorem jkc{n:Nat}{es:List Ed}(h:Gr n es):CmpI n (za0 n es) (jk6 n es):=jmt h.two.ni
def joj(n:Nat)(nx:List (List Nat))(L:List (List Nat)):Bool:=L.all fun r=>r.all fun x=>(List.range n).all fun y=>decide (y∈r)==((zfn nx x).out.contains y&&(zfn nx y).out.contains x)
theorem jf1{n:Nat}{es:List Ed}(h:Gr n es){L:List (List Nat)}(hlt:∀r∈L,∀x∈r,x<n)(hB:joj n (za0 n es) L=true):∀r∈L,∀x∈r,∀y,y∈r↔(RT (za0 n es) x y∧RT (za0 n es) y x):=fun r hr x hx y=>by
 have hxn:=hlt r hr x hx
 have key:∀y,y<n→(y∈r↔(RT (za0 n es) x y∧RT (za0 n es) y x)):=fun y hy=>by
  simp only[joj,List.all_eq_true,List.mem_range,beq_iff_eq]at hB
  have:=hB r hr x hx y hy
  rw[←zne (h.next hxn),←zne (h.next hy)]
  have k:=decide_eq_true_eq (p:=y∈r)
  rw[this,Bool.and_eq_true,List.contains_iff_mem,List.contains_iff_mem]at k
  exact(iff_of_eq k).symm
 by_cases hy:y<n
 ·exact key y hy
 ·refine⟨fun hm=>absurd (hlt r hr y hm) hy,fun hm=>?_⟩
  have:=zxe (h.next hxn) y ((zne (h.next hxn) y).2 hm.1)
  rw[zbd]at this
  exact absurd this hy
theorem jna:jk6 4 egH=[[0,2,3],[1]]:=by
 refine jac (jkc grH) (L':=[[0,2,3],[1]]) ⟨by decide,by decide,fun w=>?_,jf1 grH (by decide) (by rw[zlu grH];kernel_rfl),by decide,by decide⟩ fun x y _ _=>Iff.rfl
 simp;omega
/- The laws' examples. -/
theorem jnb:(((((type_of% @zr2)∧(type_of% @zha))∧((type_of% @zhb)∧((type_of% @zr1)∧(type_of% @zjn))))∧(((type_of% @zjo)∧((type_of% @zrx)∧(type_of% @zrz)))∧((type_of% @zg9)∧((type_of% @zk9)∧(type_of% @zhz)))))∧((((type_of% @zjq)∧(type_of% @zjr))∧((type_of% @zry)∧((type_of% @zc8)∧(type_of% @zd8))))∧(((type_of% @zyu)∧((type_of% @zlb)∧(type_of% @zys)))∧((type_of% @zd3)∧((type_of% @zu8)∧(type_of% @zr0)))))):=⟨⟨⟨⟨@zr2,@zha⟩,⟨@zhb,⟨@zr1,@zjn⟩⟩⟩,⟨⟨@zjo,⟨@zrx,@zrz⟩⟩,⟨@zg9,⟨@zk9,@zhz⟩⟩⟩⟩,⟨⟨⟨@zjq,@zjr⟩,⟨@zry,⟨@zc8,@zd8⟩⟩⟩,⟨⟨@zyu,⟨@zlb,@zys⟩⟩,⟨@zd3,⟨@zu8,@zr0⟩⟩⟩⟩⟩
theorem zlv(l:List Nat)(e:Int)(hl:l.length≤1000000):zar Try.prog 14 [lsD (l,e),lsD (l,e)] (.d (oD true)):=by
 have:=jfx l l e e hl hl
 rwa[decide_eq_true rfl]at this
theorem zxi{n:Nat}{es:List Ed}(h:Gr n es){r:List Nat × Int}(hr:zhv n es=r):zar Try.prog 15 [grD n es] (.d (lsD r)):=hr▸jae n es h
theorem zxj{n:Nat}{es:List Ed}(h:Gr n es){r:List Nat × Int}(hr:zkl n es=r):zar Try.prog 17 [grD n es] (.d (lsD r)):=hr▸zrg n es h
theorem jcn{n:Nat}{es:List Ed}(h:Gr n es){r:List Nat × Int}(hr:jcg n es=r):zar Try.prog 19 [grD n es] (.d (lsD r)):=hr▸jaf n es h
theorem zxk{n:Int}{es:List Ed}(hl:es.length≤1000000){b:Bool}(hb:zxy n (es.map fun e=>((e.1:Int),(e.2:Int)))=b):zar Try.prog 12 [iD n,zal es] (.d (oD b)):=by
 have:=jft n (es.map fun e=>((e.1:Int),(e.2:Int))) (by rw[List.length_map];exact hl)
 rwa[←joz,hb]at this
theorem i50:((50:Int) !=50)=false:=rfl
theorem i44:((4:Int) !=4)=false:=rfl
theorem i00:((0:Int)==0)=true:=rfl
theorem i66:((6:Int)==6)=true:=rfl
theorem zct{p q:Prop}(hq:q)(h:p=q:=by
 conv=>lhs;simp -dsimp -implicitDefEqProofs (disch:=first|assumption|omega|(simp only[r_z]<;>omega)|decide) only[r_r,↓reduceIte,Nat.reduceEqDiff,Nat.reduceAdd,D.fix,Int.reduceToNat,Nat.reduceMul,Nat.reduceBNe,Nat.reduceBEq,grD,i50,i44,i00,i66,jnb]):p:=h.mpr hq
theorem jnc{m:List Nat}{τ τ':Fr}{H H':zaa}(h2:H=H')(h:zf6 τ τ':=by
 repeat (first|exact zaj _|refine zac ?_ (by first|rfl|(simp[r_f];done)|simp[r_f, *]))):Rt m τ H τ' H':=Rt.end h h2
theorem jnd{p:Prop}(h:p:=by
 first|rfl|(simp only[r_g,Nat.reduceAdd,↓reduceIte,Nat.reduceEqDiff,grD,i50,i44,i00,i66];first|done|rfl)):p:=h
theorem jle{p:Prop}(h:p:=by
 simp (disch:=first|assumption|omega|(simp only[r_z]<;>omega)|decide) only[r_c,Nat.reduceAdd,D.fix,↓reduceIte,Nat.reduceEqDiff,grD,i50,i44,i00,i66,lsD]):p:=h
theorem jok{p:Prop}(h:p:=by
 simp (disch:=first|assumption|omega|(simp only[r_z]<;>omega)|decide) only[r_c,Nat.reduceAdd,D.fix,↓reduceIte,Nat.reduceEqDiff,grD,i50,i44,i00,i66,zal,intsD]):p:=h
theorem zkn:zar Try.prog 10 [] (.d (oD true)):=by
 have hO1:zar Try.prog 15 [grD 4 egG] (.d (.agg [.fs [iD 1,iD 2,iD 0,iD 3] 4,iD 0])):=zxi grG jka
 have hD1:zar Try.prog 19 [grD 4 egG] (.d (.agg [.fs [iD 1,iD 0,iD 0,iD 2] 4,iD 0])):=jcn grG jmz
 have hY1:zar Try.prog 17 [grD 4 egG] (.d (.agg [.fs [] 0,iD 4])):=zxj grG jm1
 have hO2:zar Try.prog 15 [grD 4 egH] (.d (.agg [.fs [] 0,iD 50])):=zxi grH jkb
 have hD2:zar Try.prog 19 [grD 4 egH] (.d (.agg [.fs [] 0,iD 50])):=jcn grH jm0
 have hY2:zar Try.prog 17 [grD 4 egH] (.d (.agg [.fs [iD 0,iD 3,iD 2] 3,iD 0])):=zxj grH jm2
 have hY3:zar Try.prog 17 [grD 4 egI] (.d (.agg [.fs [iD 1] 1,iD 0])):=zxj grI jm3
 have hO3:zar Try.prog 15 [grD 0 []] (.d (.agg [.fs [] 0,iD 0])):=zxi gr0 jmy
 have hA1:zar Try.prog 14 [.agg [.fs [iD 1,iD 2,iD 0,iD 3] 4,iD 0],.agg [.fs [iD 1,iD 2,iD 0,iD 3] 4,iD 0]] (.d (oD true)):=zlv [1,2,0,3] 0 (by decide)
 have hA2:zar Try.prog 14 [.agg [.fs [iD 1,iD 0,iD 0,iD 2] 4,iD 0],.agg [.fs [iD 1,iD 0,iD 0,iD 2] 4,iD 0]] (.d (oD true)):=zlv [1,0,0,2] 0 (by decide)
 have hA3:zar Try.prog 14 [.agg [.fs [iD 0,iD 3,iD 2] 3,iD 0],.agg [.fs [iD 0,iD 3,iD 2] 3,iD 0]] (.d (oD true)):=zlv [0,3,2] 0 (by decide)
 have hA4:zar Try.prog 14 [.agg [.fs [iD 1] 1,iD 0],.agg [.fs [iD 1] 1,iD 0]] (.d (oD true)):=zlv [1] 0 (by decide)
 have hR1:zar Try.prog 24 [iD 4,zal egG,iD 2] (.d (.fs [iD 0,iD 2,iD 3] 3)):=by have:=zoo 4 egG grG 2;rw[jm4]at this;exact this
 have hR2:zar Try.prog 24 [iD 4,zal egG,iD 4] (.d (.fs [] 0)):=by have:=zoo 4 egG grG 4;rw[jm5]at this;exact this
 have hS1:zar Try.prog 23 [.fs [iD 0,iD 2,iD 3] 3,.fs [iD 0,iD 2,iD 3] 3] (.d (oD true)):=by have:=zw3 [0,2,3] [0,2,3] (by decide) (by decide);exact this
 have hC1:zar Try.prog 27 [iD 4,zal egH] (.d (.fs [.fs [iD 0,iD 2,iD 3] 3,.fs [iD 1] 1] 2)):=by have:=je9 4 egH grH (by decide);rw[jna]at this;exact this
 have hS2:zar Try.prog 26 [.fs [.fs [iD 0,iD 2,iD 3] 3,.fs [iD 1] 1] 2,.fs [.fs [iD 0,iD 2,iD 3] 3,.fs [iD 1] 1] 2] (.d (oD true)):=by have:=jfv [[0,2,3],[1]] [[0,2,3],[1]] (by decide) (by decide) (by decide) (by decide);rw[decide_eq_true rfl]at this;exact this
 have hKa:zar Try.prog 21 [iD 4,zal egG,.fs [iD 2,iD 0,iD 1,iD 3] 4] (.d (iD 0)):=by have:=zw1 4 egG [2,0,1,3] grG (by decide);rw[jm6]at this;exact this
 have hKb:zar Try.prog 21 [iD 4,zal egG,.fs [iD 0,iD 1,iD 2,iD 3] 4] (.d (iD 6)):=by have:=zw1 4 egG [0,1,2,3] grG (by decide);rw[jm7]at this;exact this
 refine zav (fn:=Try.f10) (by kernel_rfl) Try.func10 rfl (Nat.le_of_ble_eq_true rfl) fun c hc hp=>?_
 refine zat (τ':=frL []) (zaj _) ?_
 refine zae hp zao hc rfl fun K1 hK1=>?_
 simp -dsimp -implicitDefEqProofs (disch:=first|assumption|omega|(simp only[r_z]<;>omega)|decide) only[r_r,↓reduceIte,Nat.reduceEqDiff,Nat.reduceAdd,D.fix,Int.reduceToNat,Nat.reduceMul,Nat.reduceBNe,Nat.reduceBEq,grD,i50,i44,i00,i66]
 refine hK1 _ _ ?_
 refine szq hp (fun _ hZ=>zct hZ) ?_
 refine zbb hp (τ':=frL [(0,.d (oD false)),(1,.d (.fp [iD 4,zal egG] 0))]) (H':=[]) ?_ ?_
 ·refine Rt.trans (Rt.fz (id:=0) (l:=(egG.flatMap edC)) rfl) ?_
  refine Rt.trans (Rt.heap (H':=[.dead,.cells [.d (iD 4),.d (zal egG)]]) (by simp only[r_g,Nat.reduceAdd,↓reduceIte,Nat.reduceEqDiff,grD,i50,i44,i00,i66];first|done|rfl)) ?_
  refine Rt.trans (Rt.fz (id:=1) (l:=[iD 4,zal egG]) rfl) ?_
  refine Rt.trans (Rt.gc (keep:=[]) (by decide) (by decide) (by simp[fzH,gcH])) ?_
  refine jnc ?_
  exact jnd
 refine zae hp zao hc rfl fun K3 hK3=>?_
 refine zct ?_
 refine zbi (zxa 4 egG 3 2 (by decide)) rfl ?_
 refine zct ?_
 refine hK3 _ _ ?_
 refine zbb hp (τ':=frL [(0,.d (oD false)),(1,.d (.fp [iD 4,zal egG] 0)),(2,.d (.fp [iD 4,zal egH] 0))]) (H':=[]) ?_ ?_
 ·refine Rt.trans (Rt.fz (id:=0) (l:=[iD 4,zal egH]) rfl) ?_
  refine Rt.trans (Rt.gc (keep:=[]) (by decide) (by decide) (by simp[fzH,gcH])) ?_
  refine jnc ?_
  exact jnd
 refine zae hp zao hc rfl fun K4 hK4=>?_
 refine zct ?_
 refine zbi (zxa 4 egG 1 1 (by decide)) rfl ?_
 refine zct ?_
 refine hK4 _ _ ?_
 refine zab fun K5 hK5=>?_
 refine zbb hp (τ':=frL [(0,.d (oD false)),(1,.d (.fp [iD 4,zal egG] 0)),(2,.d (.fp [iD 4,zal egH] 0)),(3,.d (.fp [iD 4,zal egI] 0))]) (H':=[]) ?_ ?_
 ·refine Rt.trans (Rt.fz (id:=0) (l:=[iD 4,zal egI]) rfl) ?_
  refine Rt.trans (Rt.gc (keep:=[]) (by decide) (by decide) (by simp[fzH,gcH])) ?_
  refine jnc ?_
  exact jnd
 refine zae hp zao hc rfl fun K6 hK6=>?_
 refine zct ?_
 refine zbi (hO1) rfl ?_
 refine zct ?_
 refine zfw (hA1) ?_ ?_
 ·exact jle
 refine zct ?_
 refine zbi (hD1) rfl ?_
 refine zct ?_
 refine zfw (hA2) ?_ ?_
 ·exact jle
 refine zct ?_
 refine zbi (hR1) rfl ?_
 refine zct ?_
 refine zfw (hS1) ?_ ?_
 ·simp (disch:=first|assumption|omega|(simp only[r_z]<;>omega)|decide) only[r_c,Nat.reduceAdd,D.fix,↓reduceIte,Nat.reduceEqDiff,grD,i50,i44,i00,i66,intsD]
 refine zct ?_
 refine zbi (hY1) rfl ?_
 refine zct ?_
 refine hK6 _ _ ?_
 refine szf ?_
 refine zaf (hK5 _ _ ?_)
 refine zab fun K7 hK7=>?_
 refine zae hp zao hc rfl fun K8 hK8=>?_
 refine zct ?_
 refine zbi (hO2) rfl ?_
 refine zct ?_
 refine zbi (hD2) rfl ?_
 refine zct ?_
 refine zbi (hY2) rfl ?_
 refine zct ?_
 refine zfw (hA3) ?_ ?_
 ·exact jle
 refine zct ?_
 refine zbi (hY3) rfl ?_
 refine zct ?_
 refine zfw (hA4) ?_ ?_
 ·exact jle
 refine zct ?_
 refine zbi (hC1) rfl ?_
 refine zct ?_
 refine zfw (hS2) ?_ ?_
 ·simp (disch:=first|assumption|omega|(simp only[r_z]<;>omega)|decide) only[r_c,Nat.reduceAdd,D.fix,↓reduceIte,Nat.reduceEqDiff,grD,i50,i44,i00,i66,zan]
 refine zct ?_
 refine hK8 _ _ ?_
 refine szf ?_
 refine zaf (hK7 _ _ ?_)
 refine zae hp zao hc rfl fun K9 hK9=>?_
 refine zct ?_
 refine zbi (zxk (by decide) jm8) rfl ?_
 refine zct ?_
 refine zbi (zxk (by decide) jm9) rfl ?_
 refine zct ?_
 refine zfw (hKa) ?_ ?_
 ·exact jok
 refine zct ?_
 refine zfw (hKb) ?_ ?_
 ·exact jok
 refine zct ?_
 refine zbi (hO3) rfl ?_
 refine zct ?_
 refine zbi (hR2) rfl ?_
 refine zct ?_
 refine hK9 _ _ ?_
 refine zas ?_
 show closeA _ _=_
 simp (disch:=first|assumption|omega|(simp only[r_z]<;>omega)|decide) only[r_c,Nat.reduceAdd,D.fix,↓reduceIte,Nat.reduceEqDiff,grD,i50,i44,i00,i66]
 rfl
end Go.Proofs.Ytfolbdkbpmgjgaa
