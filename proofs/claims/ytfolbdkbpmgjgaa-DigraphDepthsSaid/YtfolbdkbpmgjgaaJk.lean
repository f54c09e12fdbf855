/- The laws' wrapped calls, With. -/
import Derived.Test.YtfolbdkbpmgjgaaQr
import Derived.Test.YtfolbdkbpmgjgaaJh
import Derived.Test.YtfolbdkbpmgjgaaJg
set_option linter.unusedVariables false
set_option linter.unusedSimpArgs false
set_option maxRecDepth 100000
set_option maxHeartbeats 4000000
namespace Go.Proofs.Ytfolbdkbpmgjgaa
open Go Go.RowKit
theorem zz8:(((((type_of% @zgq)∧((type_of% @zoe)∧(type_of% @zr0)))∧((type_of% @zyo)∧((type_of% @zg9)∧(type_of% @zgo))))∧(((type_of% @zgp)∧((type_of% @zd0)∧(type_of% @zjs)))∧(((type_of% @zjt)∧(type_of% @zmy))∧((type_of% @zrv)∧(type_of% @zyp)))))∧((((type_of% @zlc)∧((type_of% @zu6)∧(type_of% @zjv)))∧((type_of% @zrw)∧((type_of% @zr3)∧(type_of% @zhd))))∧(((type_of% @zhe)∧((type_of% @zr2)∧(type_of% @zrx)))∧(((type_of% @zha)∧(type_of% @zlb))∧((type_of% @ze2)∧(type_of% @ze3)))))):=⟨⟨⟨⟨@zgq,⟨@zoe,@zr0⟩⟩,⟨@zyo,⟨@zg9,@zgo⟩⟩⟩,⟨⟨@zgp,⟨@zd0,@zjs⟩⟩,⟨⟨@zjt,@zmy⟩,⟨@zrv,@zyp⟩⟩⟩⟩,⟨⟨⟨@zlc,⟨@zu6,@zjv⟩⟩,⟨@zrw,⟨@zr3,@zhd⟩⟩⟩,⟨⟨@zhe,⟨@zr2,@zrx⟩⟩,⟨⟨@zha,@zlb⟩,⟨@ze2,@ze3⟩⟩⟩⟩⟩
theorem zh2{p q:Prop}(hq:q)(h:p=q:=by
 conv=>lhs;simp -dsimp -implicitDefEqProofs (disch:=first|assumption|omega|(simp only[r_z]<;>omega)|decide) only[r_r,↓reduceIte,Nat.reduceEqDiff,Nat.reduceAdd,D.fix,Int.reduceToNat,Nat.reduceMul,Nat.reduceBNe,Nat.reduceBEq,grD,lsD,zan,zz8]):p:=h.mpr hq
theorem jfx{p q:Prop}(hq:q)(h:p=q:=by
 conv=>lhs;simp -dsimp -implicitDefEqProofs (disch:=first|assumption|omega|(simp only[r_z]<;>omega)|decide) only[r_r,↓reduceIte,Nat.reduceEqDiff,Nat.reduceAdd,D.fix,Int.reduceToNat,Nat.reduceMul,Nat.reduceBNe,Nat.reduceBEq,grD,lsD,zan,zoe,jl0]):p:=h.mpr hq
theorem jm1{p q:Prop}(hq:q)(h:p=q:=by
 conv=>lhs;simp (disch:=first|assumption|omega|(simp only[r_z]<;>omega)|decide) only[r_c,Nat.reduceAdd,D.fix,↓reduceIte,Nat.reduceEqDiff,grD,lsD,zan]):p:=h.mpr hq
theorem zlt(n:Nat)(es:List Ed)(h:Gr n es):zas Try.prog 15 [grD n es] (.d (lsD (zd9 n es))):=by
 have hoc:=zwo n es h
 rw[zxs]at hoc
 refine zay (fn:=Try.f15) (by kernel_rfl) Try.func15 rfl (Nat.le_of_ble_eq_true rfl) fun c hc hp=>?_
 refine zat (τ':=frL [(0,.d (grD n es))]) (by repeat (first|exact zaj _|refine zac ?_ (by first|rfl|(simp[r_f];done)|simp[r_f, *]))) ?_
 refine szq hp (fun _ hZ=>zh2 hZ) ?_
 refine zaf hp zao hc rfl fun K2 hK2=>?_
 refine zh2 ?_
 refine zbj (hoc) rfl ?_
 refine zh2 ?_
 refine hK2 _ _ ?_
 refine szq hp (fun _ hZ=>zh2 hZ) ?_
 refine zar ?_
 try dsimp only[zc8,za7]
 refine zck rfl ?_
 refine jfx ?_
 show closeA _ _=_
 refine jm1 ?_
 simp only[zhy]
theorem zre(n:Nat)(es:List Ed)(h:Gr n es):zas Try.prog 17 [grD n es] (.d (lsD (zjn n es))):=by
 have hoc:=jek n es h
 rw[zxs]at hoc
 refine zay (fn:=Try.f17) (by kernel_rfl) Try.func17 rfl (Nat.le_of_ble_eq_true rfl) fun c hc hp=>?_
 refine zat (τ':=frL [(0,.d (grD n es))]) (by repeat (first|exact zaj _|refine zac ?_ (by first|rfl|(simp[r_f];done)|simp[r_f, *]))) ?_
 refine szq hp (fun _ hZ=>zh2 hZ) ?_
 refine zaf hp zao hc rfl fun K2 hK2=>?_
 refine zh2 ?_
 refine zbj (hoc) rfl ?_
 refine zh2 ?_
 refine hK2 _ _ ?_
 refine szq hp (fun _ hZ=>zh2 hZ) ?_
 refine zar ?_
 try dsimp only[zc8,za7]
 refine zck rfl ?_
 refine jfx ?_
 show closeA _ _=_
 refine jm1 ?_
 simp only[zhy]
theorem zrf(n:Nat)(es:List Ed)(h:Gr n es):zas Try.prog 19 [grD n es] (.d (lsD (zxt n es))):=by
 have hoc:=jfh n es h
 rw[zxs]at hoc
 refine zay (fn:=Try.f19) (by kernel_rfl) Try.func19 rfl (Nat.le_of_ble_eq_true rfl) fun c hc hp=>?_
 refine zat (τ':=frL [(0,.d (grD n es))]) (by repeat (first|exact zaj _|refine zac ?_ (by first|rfl|(simp[r_f];done)|simp[r_f, *]))) ?_
 refine szq hp (fun _ hZ=>zh2 hZ) ?_
 refine zaf hp zao hc rfl fun K2 hK2=>?_
 refine zh2 ?_
 refine zbj (hoc) rfl ?_
 refine zh2 ?_
 refine hK2 _ _ ?_
 refine szq hp (fun _ hZ=>zh2 hZ) ?_
 refine zar ?_
 try dsimp only[zc8,za7]
 refine zck rfl ?_
 refine jfx ?_
 show closeA _ _=_
 refine jm1 ?_
 simp only[zhy]
theorem jm2{m:Nat}:zdh 2 (zn9 [(9,2),(5,1),(2,0)] [{on:=5,ground:=Ground.data},{on:=9,ground:=Ground.data},{on:=5,ground:=Ground.chain}]) (AV.os 2 3 0 m)=true:=rfl
theorem zw5{H:zaa}:killAll (List.filterMap (fun p:Nat × Nat=>if p.fst=3 then some (5,p.snd)else none) [(3,2)]++[(3,2)]) H=(H.set 2 .dead).set 2 .dead:=rfl
theorem jce(l:List Ed):(l.flatMap edC).map D.fix=l.flatMap edC:=by rw[List.map_flatMap];rfl
theorem zw6(es:List Ed)(v w:Nat):es.flatMap edC++[iD (v:Int),iD (w:Int)]=(es++[(v,w)]).flatMap edC:=by
 rw[List.flatMap_append];rfl
theorem jj7{p q:Prop}(hq:q)(h:p=q:=by
 conv=>lhs;simp -dsimp -implicitDefEqProofs (disch:=first|assumption|omega|(simp only[r_z,zak]<;>omega)|decide) only[r_r,↓reduceIte,Nat.reduceEqDiff,Nat.reduceAdd,D.fix,Int.reduceToNat,Nat.reduceMul,Nat.reduceBNe,Nat.reduceBEq,grD,zan,jm2,zw5,zz8]):p:=h.mpr hq
theorem jcf(n:Nat)(es:List Ed)(v w:Nat)(hl:es.length≤1000):zas Try.prog 32 [grD n es,iD (v:Int),iD (w:Int)] (.d (grD n (es++[(v,w)]))):=by
 refine zay (fn:=Try.f32) (by kernel_rfl) Try.func32 rfl (Nat.le_of_ble_eq_true rfl) fun c hc hp=>?_
 refine zat (τ':=frL [(0,.d (grD n es)),(1,.d (iD (v:Int))),(2,.d (iD (w:Int)))]) (by repeat (first|exact zaj _|refine zac ?_ (by first|rfl|(simp[r_f,zak];done)|simp[r_f,zak, *]))) ?_
 refine szq hp (fun _ hZ=>jj7 hZ) ?_
 refine zbh zao hc mixed rfl (q:=4) (by kernel_rfl) (by kernel_rfl) fun K2 hK2=>?_
 refine jj7 ?_
 refine hK2 _ _ ?_
 refine zar ?_
 try dsimp only[zc8,za7]
 refine zck rfl ?_
 simp -dsimp -implicitDefEqProofs (disch:=first|assumption|omega|(simp only[r_z,zak]<;>omega)|decide) only[r_r,↓reduceIte,Nat.reduceEqDiff,Nat.reduceAdd,D.fix,Int.reduceToNat,Nat.reduceMul,Nat.reduceBNe,Nat.reduceBEq,grD,zan,jm2,zw5,zgq,zju]
 show closeA _ _=_
 simp (disch:=first|assumption|omega|(simp only[r_z,zak]<;>omega)|decide) only[r_c,Nat.reduceAdd,D.fix,↓reduceIte,Nat.reduceEqDiff,grD,zan,jm2,zw5]
 have e:es.flatMap edC++[D.val (.int .i64 (v:Int))]++[D.val (.int .i64 (w:Int))]=(es++[(v,w)]).flatMap edC:=by rw[List.append_assoc];exact zw6 es v w
 rw[e,jce,List.length_append];rfl
theorem jcg{l:List Ed}{k:Nat}(h:k<l.length):(l.flatMap edC)[k*2]? =some (iD (((nth l k).1:Nat):Int)):=by
 exact((zcd (zcl h)).2 0 (by decide)).symm
theorem jch{l:List Ed}{k:Nat}(h:k<l.length):(l.flatMap edC)[k*2+1]? =some (iD (((nth l k).2:Nat):Int)):=by
 exact((zcd (zcl h)).2 1 (by decide)).symm
def jci(es:List Ed)(v w:Nat):Bool:=es.any fun e=>e.1==v&&e.2==w
theorem hasE_iff{es:List Ed}{v w:Nat}:jci es v w=true↔(v,w)∈es:=by
 unfold jci
 rw[List.any_eq_true]
 constructor
 ·rintro⟨⟨a,b⟩,h1,h2⟩
  simp at h2
  rw[←h2.1,←h2.2];exact h1
 ·intro h;exact⟨(v,w),h,by simp⟩
theorem jm3{a b v w:Nat}(q:((a:Int)==(v:Int))=true):((b:Int)==(w:Int))=decide (a=v∧b=w):=by
 rw[beq_iff_eq]at q
 rw[Bool.eq_iff_iff,beq_iff_eq,decide_eq_true_eq];omega
theorem jm4{a b v w:Nat}(q:((a:Int)==(v:Int))=false):false=decide (a=v∧b=w):=by
 rw[beq_eq_false_iff_ne]at q
 rw[decide_eq_false (fun h=>q (by rw[h.1]))]
theorem zz9{p q:Prop}(hq:q)(h:p=q:=by
 conv=>lhs;simp -dsimp -implicitDefEqProofs (disch:=first|assumption|omega|(simp only[r_z,zak]<;>omega)|decide) only[r_r,↓reduceIte,Nat.reduceEqDiff,Nat.reduceAdd,D.fix,Int.reduceToNat,Nat.reduceMul,Nat.reduceBNe,Nat.reduceBEq,zan,zki,zcl,edC]):p:=h.mpr hq
theorem jlf{m:List Nat}{τ τ':Fr}{H H':zaa}(h2:H=H')(h:zgb τ τ':=by
 repeat (first|exact zaj _|refine zac ?_ (by first|rfl|(simp[r_f,zak];done)|simp[r_f,zak, *]))):Rt m τ H τ' H':=Rt.end h h2
theorem jj8{p q:Prop}(hq:q)(h:p=q:=by
 conv=>lhs;simp -dsimp -implicitDefEqProofs (disch:=first|assumption|omega|(simp only[r_z,zak]<;>omega)|decide) only[r_r,↓reduceIte,Nat.reduceEqDiff,Nat.reduceAdd,D.fix,Int.reduceToNat,Nat.reduceMul,Nat.reduceBNe,Nat.reduceBEq,zan,zki,zcl,edC,zz8]):p:=h.mpr hq
theorem jj9{p q r:Prop}(e:r)(hq:q)(h:r→p=q:=by
 intro hY
 conv=>lhs;simp -dsimp -implicitDefEqProofs (disch:=first|assumption|omega|(simp only[r_z,zak]<;>omega)|decide) only[r_r,↓reduceIte,Nat.reduceEqDiff,Nat.reduceAdd,D.fix,Int.reduceToNat,Nat.reduceMul,Nat.reduceBNe,Nat.reduceBEq,zan,zki,zcl,edC,zz8,hY]):p:=(h e).mpr hq
theorem jlg{p:Prop}(h:p:=by
 first|rfl|(simp only[r_g,Nat.reduceAdd,↓reduceIte,Nat.reduceEqDiff,zan,zki,zcl,edC];first|done|rfl)):p:=h
theorem jos{p q:Prop}(hq:q)(h:p=q:=by
 conv=>lhs;simp (disch:=first|assumption|omega|(simp only[r_z,zak]<;>omega)|decide) only[r_c,Nat.reduceAdd,D.fix,↓reduceIte,Nat.reduceEqDiff,zan,zki,zcl,edC]):p:=h.mpr hq
theorem jcj(es:List Ed)(v w:Nat)(hl:es.length≤1000000):zas Try.prog 29 [zan es,iD (v:Int),iD (w:Int)] (.d (oD (jci es v w))):=by
 refine zay (fn:=Try.f29) (by kernel_rfl) Try.func29 rfl (Nat.le_of_ble_eq_true rfl) fun c hc hp=>?_
 refine zat (τ':=frL [(0,.d (zan es)),(1,.d (iD (v:Int))),(2,.d (iD (w:Int)))]) (by repeat (first|exact zaj _|refine zac ?_ (by first|rfl|(simp[r_f,zak];done)|simp[r_f,zak, *]))) ?_
 refine szq hp (fun _ hZ=>zz9 hZ) ?_
 refine zab fun K2 hK2=>?_
 refine szq hp (fun _ hZ=>zz9 hZ) ?_
 refine zae ?_
 refine zaq hp (fun τ' H' mm=>∃(k:Nat),(k≤es.length∧∀j,j<k→nth es j≠(v,w))∧mm=es.length - k∧H'=[]∧τ'=frL [(0,.d (zan es)),(1,.d (iD (v:Int))),(2,.d (iD (w:Int))),(7,.d (iD (k:Int)))]) (es.length) ?_ ⟨0,⟨Nat.zero_le _,fun j hj=>absurd hj (by omega)⟩,rfl,rfl,rfl⟩ ?_
 ·refine jlf ?_
  exact jlg
 rintro τ' H' mm ⟨k,⟨hk,hf⟩,rfl,rfl,rfl⟩
 refine zab fun K4 hK4=>?_
 refine szq hp (fun _ hZ=>jj8 hZ) ?_
 refine zai rfl (fun ht=>?_) (fun ht=>?_)
 ·have hlt:k<es.length:=by simp at ht;omega
  obtain⟨a,ha⟩:∃a,a=(nth es k).1:=⟨_,rfl⟩
  obtain⟨b,hb⟩:∃b,b=(nth es k).2:=⟨_,rfl⟩
  have hab:nth es k=(a,b):=by rw[ha,hb]
  have hg1:(es.flatMap edC)[k*2]? =some (iD (a:Int)):=by rw[ha];exact jcg hlt
  have hg2:(es.flatMap edC)[k*2+1]? =some (iD (b:Int)):=by rw[hb];exact jch hlt
  clear ha hb
  refine zag (hK4 _ _ ?_)
  refine zab fun K6 hK6=>?_
  refine zae ?_
  refine zaf hp zao hc rfl fun K7 hK7=>?_
  have hJ7:∀τ' H',(∃τ1 H1,∃(c1:Bool),(c1=decide (a=v∧b=w))∧H1=[]∧τ1=frL [(0,.d (zan es)),(1,.d (iD (v:Int))),(2,.d (iD (w:Int))),(7,.d (iD (k:Int))),(29,.d (oD c1))]∧Rt [] τ' H' τ1 H1)→K7 τ' H':=by
   rintro τ' H' ⟨_,_,c1,hcc,rfl,rfl,hrt⟩
   refine hK7 _ _ (zbe hp hrt ?_)
   clear hrt
   refine zai rfl (fun ht=>?_) (fun ht=>?_)
   ·have hin:(v,w)∈es:=by
     rw[hcc,decide_eq_true_eq]at ht
     rw[←ht.1,←ht.2,←hab];exact za8 hlt
    refine szq hp (fun _ hZ=>zz9 hZ) ?_
    refine zar ?_
    show closeA _ _=_
    refine jos ?_
    rw[hasE_iff.2 hin]
   ·have hne:nth es k≠(v,w):=fun e=>by
     rw[hab,Prod.mk.injEq]at e
     rw[hcc,decide_eq_true e]at ht;cases ht
    refine zag (hK6 _ _ ?_)
    refine zbd hp zao hc rfl fun K9 hK9=>?_
    refine jj8 ?_
    refine hK9 _ _ ⟨_,_,_,?_,⟨k+1,⟨by omega,fun j hj=>(by rcases Nat.lt_or_ge j k with h|h;exact hf j h;rw[show j=k by omega];exact hne)⟩,rfl,rfl,rfl⟩,?_⟩
    ·first|omega|(simp only[List.length_cons];omega)|(dsimp only;omega)
    ·refine jlf ?_
     exact jlg
  rcases tf ((a:Int)==(v:Int))with q1|q1
  ·refine jj9 (sza hg1 (sza hg2 q1)) ?_
   refine(hJ7 _ _ ⟨_,_,(b:Int)==(w:Int),jm3 q1,rfl,rfl,?_⟩)
   refine jlf ?_
   exact jlg
  ·refine jj9 (sza hg1 (sza hg2 q1)) ?_
   refine(hJ7 _ _ ⟨_,_,false,jm4 q1,rfl,rfl,?_⟩)
   refine jlf ?_
   exact jlg
 ·have hke:k=es.length:=by simp at ht;omega
  subst hke
  have hno:(v,w)∉es:=fun hm=>by
   obtain⟨j,hj,e⟩:=List.getElem_of_mem hm
   exact hf j hj (by rw[za3 hj];exact e)
  refine zaw (hK2 _ _ ?_)
  refine szq hp (fun _ hZ=>zz9 hZ) ?_
  refine zar ?_
  show closeA _ _=_
  refine jos ?_
  rw[Bool.eq_false_iff.2 (fun h=>hno (hasE_iff.1 h))]
/- What the functions give at the laws' fixed graphs. -/
def zlu(n:Nat)(es:List Ed):List (List Nat):=(List.range n).map fun v=>(List.range n).filter fun w=>jci es v w
def zsq(n:Nat)(es:List Ed):List (List Nat):=(List.range n).map fun v=>(List.range n).filter fun w=>jci es w v
theorem zoy{n:Nat}{p:Nat→Bool}:((List.range n).filter p).Pairwise fun a b=>id a<id b:=List.Pairwise.filter _ List.pairwise_lt_range
theorem zlv{n:Nat}{es:List Ed}(h:Gr n es):za1 n es=zlu n es:=by
 refine ziz (by rw[zba];simp[zlu]) fun v hv=>?_
 rw[zba]at hv
 rw[zlu,za6 hv]
 refine zsp id (zoo hv) zoy fun w=>?_
 rw[zia hv,List.mem_filter,List.mem_range,hasE_iff]
 exact⟨fun hm=>⟨(h.e _ hm).2,hm⟩,fun hm=>hm.2⟩
theorem zw7{n:Nat}{es:List Ed}(h:Gr n es):za9 n es=zsq n es:=by
 refine ziz (by rw[zb9];simp[zsq]) fun v hv=>?_
 rw[zb9]at hv
 rw[zsq,za6 hv]
 refine zsp id (zop hv) zoy fun w=>?_
 rw[zek hv,List.mem_filter,List.mem_range,hasE_iff]
 exact⟨fun hm=>⟨(h.e _ hm).1,hm⟩,fun hm=>hm.2⟩
theorem jfy{n:Nat}{l:List Nat}(hd:l.Nodup)(hl:∀x∈l,x<n):zer l=(List.range n).filter fun x=>l.contains x:=by
 refine zsp id (zrd (zrc l) ((zdm l).nodup_iff.2 hd)) zoy fun w=>?_
 rw[(zdm l).mem_iff,List.mem_filter,List.mem_range,List.contains_iff_mem]
 exact⟨fun hm=>⟨hl w hm,hm⟩,fun hm=>hm.2⟩
def jka(n:Nat)(nx:List (List Nat))(st:Nat):List Nat:=(List.range n).filter fun x=>(zfl nx st).out.contains x
theorem jkb{nx:List (List Nat)}{st:Nat}(hN:GrN nx st):(zfl nx st).out.Nodup:=by
 have:=(zjx hN.n hN.s).c.i.nd
 rw[zsc hN.n hN.s,List.append_nil]at this
 exact this
theorem jck{nx:List (List Nat)}{st:Nat}(hN:GrN nx st):∀x∈(zfl nx st).out,x<nx.length:=fun x hx=>(zjx hN.n hN.s).c.i.lt x (List.mem_append_left _ hx)
theorem zw8{nx:List (List Nat)}{st:Nat}(hN:GrN nx st)(v:Nat):v∈(zfl nx st).out↔RT nx st v:=zok (zjx hN.n hN.s).c (zsc hN.n hN.s) v
theorem jfz{n st:Nat}{es:List Ed}(h:Gr n es)(hs:st<n):zjh n es (st:Int)=zl (jka n (za1 n es) st):=by
 have hN:=h.next hs
 rw[zjh,if_pos ⟨by omega,by omega⟩,zv9,Int.toNat_natCast,←zq1,jfy (n:=n) (jkb hN) (fun x hx=>by have:=jck hN x hx;rwa[zba]at this)];rfl
theorem zw9{n:Nat}{es:List Ed}(h:Gr n es):zd9 n es=if(zcb n (zsq n es) n).length<n then([],50)else(zcb n (zsq n es) n,0):=by rw[zd9,zw7 h]
theorem jcl{n:Nat}{es:List Ed}(h:Gr n es):zxt n es=if(zd9 n es).2=0 then(dpO n (zlu n es) (zd9 n es).1,0)else([],(zd9 n es).2):=by rw[zxt,zlv h]
theorem zxa{n:Nat}{es:List Ed}(h:Gr n es):zjn n es=if(bfS (zlu n es) n).1=0 then([],4)else(zhx (zlu n es) (zsq n es) (bfS (zlu n es) n).2 (bfS (zlu n es) n).1 ((bfS (zlu n es) n).1 - 1),0):=by rw[zjn,zlv h,zw7 h]
def egG:List Ed:=[(2,0),(0,3),(1,3)]
def egH:List Ed:=[(2,0),(0,3),(1,3),(3,2)]
def egI:List Ed:=[(2,0),(0,3),(1,3),(1,1)]
theorem grG:Gr 4 egG:=⟨by decide,by decide,by decide⟩
theorem grH:Gr 4 egH:=⟨by decide,by decide,by decide⟩
theorem grI:Gr 4 egI:=⟨by decide,by decide,by decide⟩
theorem gr0:Gr 0 []:=⟨by decide,by decide,by decide⟩
theorem jkc:zd9 4 egG=([1,2,0,3],0):=by rw[zw9 grG];kernel_rfl
theorem jkd:zd9 4 egH=([],50):=by rw[zw9 grH];kernel_rfl
theorem jm5:zd9 0 []=([],0):=by rw[zw9 gr0];kernel_rfl
theorem jm6:zxt 4 egG=([1,0,0,2],0):=by rw[jcl grG,jkc];kernel_rfl
theorem jm7:zxt 4 egH=([],50):=by rw[jcl grH,jkd];kernel_rfl
theorem jm8:zjn 4 egG=([],4):=by rw[zxa grG];kernel_rfl
theorem jm9:zjn 4 egH=([0,3,2],0):=by rw[zxa grH];kernel_rfl
theorem jna:zjn 4 egI=([1],0):=by rw[zxa grI];kernel_rfl
theorem jnb:zjh 4 egG 2=[0,2,3]:=by
 have:=jfz grG (st:=2) (by decide)
 rw[zlv grG]at this
 exact this.trans (by kernel_rfl)
theorem jnc:zjh 4 egG 4=[]:=if_neg (by decide)
theorem jnd:ckR 4 egG [2,0,1,3]=0:=by kernel_rfl
theorem jne:ckR 4 egG [0,1,2,3]=6:=by kernel_rfl
theorem jo8(es:List Ed):zan es=zd8 (es.map fun e=>((e.1:Int),(e.2:Int))):=by
 rw[zan,zd8,List.flatMap_map,List.length_map];rfl
theorem jnf:zxv 4 (egG.map fun e=>((e.1:Int),(e.2:Int)))=true:=by kernel_rfl
theorem jng:zxv 3 (egG.map fun e=>((e.1:Int),(e.2:Int)))=false:=by kernel_rfl
theorem jke{n:Nat}{es:List Ed}(h:Gr n es):CmpI n (za1 n es) (jlb n es):=jm0 h.two.ni
def jot(n:Nat)(nx:List (List Nat))(L:List (List Nat)):Bool:=L.all fun r=>r.all fun x=>(List.range n).all fun y=>decide (y∈r)==((zfl nx x).out.contains y&&(zfl nx y).out.contains x)
theorem jf0{n:Nat}{es:List Ed}(h:Gr n es){L:List (List Nat)}(hlt:∀r∈L,∀x∈r,x<n)(hB:jot n (za1 n es) L=true):∀r∈L,∀x∈r,∀y,y∈r↔(RT (za1 n es) x y∧RT (za1 n es) y x):=fun r hr x hx y=>by
 have hxn:=hlt r hr x hx
 have key:∀y,y<n→(y∈r↔(RT (za1 n es) x y∧RT (za1 n es) y x)):=fun y hy=>by
  simp only[jot,List.all_eq_true,List.mem_range,beq_iff_eq]at hB
  have:=hB r hr x hx y hy
  rw[←zw8 (h.next hxn),←zw8 (h.next hy)]
  have k:=decide_eq_true_eq (p:=y∈r)
  rw[this,Bool.and_eq_true,List.contains_iff_mem,List.contains_iff_mem]at k
  exact(iff_of_eq k).symm
 by_cases hy:y<n
 ·exact key y hy
 ·refine⟨fun hm=>absurd (hlt r hr y hm) hy,fun hm=>?_⟩
  have:=jck (h.next hxn) y ((zw8 (h.next hxn) y).2 hm.1)
  rw[zba]at this
  exact absurd this hy
theorem jnh:jlb 4 egH=[[0,2,3],[1]]:=by
 refine zz7 (jke grH) (L':=[[0,2,3],[1]]) ⟨by decide,by decide,fun w=>?_,jf0 grH (by decide) (by rw[zlv grH];kernel_rfl),by decide,by decide⟩ fun x y _ _=>Iff.rfl
 simp;omega
/- The laws' examples. -/
theorem jni:(((((type_of% @zr3)∧(type_of% @zhd))∧((type_of% @zhe)∧((type_of% @zr2)∧(type_of% @zjs))))∧(((type_of% @zjt)∧((type_of% @zrv)∧(type_of% @zrx)))∧((type_of% @zha)∧((type_of% @zlb)∧(type_of% @zgq)))))∧((((type_of% @zju)∧(type_of% @zjv))∧((type_of% @zrw)∧((type_of% @zc9)∧(type_of% @zdk))))∧(((type_of% @zyp)∧((type_of% @zlc)∧(type_of% @zyo)))∧((type_of% @zd0)∧((type_of% @zld)∧(type_of% @zr1)))))):=⟨⟨⟨⟨@zr3,@zhd⟩,⟨@zhe,⟨@zr2,@zjs⟩⟩⟩,⟨⟨@zjt,⟨@zrv,@zrx⟩⟩,⟨@zha,⟨@zlb,@zgq⟩⟩⟩⟩,⟨⟨⟨@zju,@zjv⟩,⟨@zrw,⟨@zc9,@zdk⟩⟩⟩,⟨⟨@zyp,⟨@zlc,@zyo⟩⟩,⟨@zd0,⟨@zld,@zr1⟩⟩⟩⟩⟩
theorem zlw(l:List Nat)(e:Int)(hl:l.length≤1000000):zas Try.prog 14 [lsD (l,e),lsD (l,e)] (.d (oD true)):=by
 have:=jfv l l e e hl hl
 rwa[decide_eq_true rfl]at this
theorem zxb{n:Nat}{es:List Ed}(h:Gr n es){r:List Nat × Int}(hr:zd9 n es=r):zas Try.prog 15 [grD n es] (.d (lsD r)):=hr▸zlt n es h
theorem zxc{n:Nat}{es:List Ed}(h:Gr n es){r:List Nat × Int}(hr:zjn n es=r):zas Try.prog 17 [grD n es] (.d (lsD r)):=hr▸zre n es h
theorem jcm{n:Nat}{es:List Ed}(h:Gr n es){r:List Nat × Int}(hr:zxt n es=r):zas Try.prog 19 [grD n es] (.d (lsD r)):=hr▸zrf n es h
theorem zxd{n:Int}{es:List Ed}(hl:es.length≤1000000){b:Bool}(hb:zxv n (es.map fun e=>((e.1:Int),(e.2:Int)))=b):zas Try.prog 12 [iD n,zan es] (.d (oD b)):=by
 have:=jfr n (es.map fun e=>((e.1:Int),(e.2:Int))) (by rw[List.length_map];exact hl)
 rwa[←jo8,hb]at this
theorem i50:((50:Int) !=50)=false:=rfl
theorem i44:((4:Int) !=4)=false:=rfl
theorem i00:((0:Int)==0)=true:=rfl
theorem i66:((6:Int)==6)=true:=rfl
theorem zcv{p q:Prop}(hq:q)(h:p=q:=by
 conv=>lhs;simp -dsimp -implicitDefEqProofs (disch:=first|assumption|omega|(simp only[r_z]<;>omega)|decide) only[r_r,↓reduceIte,Nat.reduceEqDiff,Nat.reduceAdd,D.fix,Int.reduceToNat,Nat.reduceMul,Nat.reduceBNe,Nat.reduceBEq,grD,i50,i44,i00,i66,jni]):p:=h.mpr hq
theorem jnj{m:List Nat}{τ τ':Fr}{H H':zaa}(h2:H=H')(h:zgb τ τ':=by
 repeat (first|exact zaj _|refine zac ?_ (by first|rfl|(simp[r_f];done)|simp[r_f, *]))):Rt m τ H τ' H':=Rt.end h h2
theorem jnk{p:Prop}(h:p:=by
 first|rfl|(simp only[r_g,Nat.reduceAdd,↓reduceIte,Nat.reduceEqDiff,grD,i50,i44,i00,i66];first|done|rfl)):p:=h
theorem jlh{p:Prop}(h:p:=by
 simp (disch:=first|assumption|omega|(simp only[r_z]<;>omega)|decide) only[r_c,Nat.reduceAdd,D.fix,↓reduceIte,Nat.reduceEqDiff,grD,i50,i44,i00,i66,lsD]):p:=h
theorem jou{p:Prop}(h:p:=by
 simp (disch:=first|assumption|omega|(simp only[r_z]<;>omega)|decide) only[r_c,Nat.reduceAdd,D.fix,↓reduceIte,Nat.reduceEqDiff,grD,i50,i44,i00,i66,zan,intsD]):p:=h
theorem zkn:zas Try.prog 10 [] (.d (oD true)):=by
 have hO1:zas Try.prog 15 [grD 4 egG] (.d (.agg [.fs [iD 1,iD 2,iD 0,iD 3] 4,iD 0])):=zxb grG jkc
 have hD1:zas Try.prog 19 [grD 4 egG] (.d (.agg [.fs [iD 1,iD 0,iD 0,iD 2] 4,iD 0])):=jcm grG jm6
 have hY1:zas Try.prog 17 [grD 4 egG] (.d (.agg [.fs [] 0,iD 4])):=zxc grG jm8
 have hO2:zas Try.prog 15 [grD 4 egH] (.d (.agg [.fs [] 0,iD 50])):=zxb grH jkd
 have hD2:zas Try.prog 19 [grD 4 egH] (.d (.agg [.fs [] 0,iD 50])):=jcm grH jm7
 have hY2:zas Try.prog 17 [grD 4 egH] (.d (.agg [.fs [iD 0,iD 3,iD 2] 3,iD 0])):=zxc grH jm9
 have hY3:zas Try.prog 17 [grD 4 egI] (.d (.agg [.fs [iD 1] 1,iD 0])):=zxc grI jna
 have hO3:zas Try.prog 15 [grD 0 []] (.d (.agg [.fs [] 0,iD 0])):=zxb gr0 jm5
 have hA1:zas Try.prog 14 [.agg [.fs [iD 1,iD 2,iD 0,iD 3] 4,iD 0],.agg [.fs [iD 1,iD 2,iD 0,iD 3] 4,iD 0]] (.d (oD true)):=zlw [1,2,0,3] 0 (by decide)
 have hA2:zas Try.prog 14 [.agg [.fs [iD 1,iD 0,iD 0,iD 2] 4,iD 0],.agg [.fs [iD 1,iD 0,iD 0,iD 2] 4,iD 0]] (.d (oD true)):=zlw [1,0,0,2] 0 (by decide)
 have hA3:zas Try.prog 14 [.agg [.fs [iD 0,iD 3,iD 2] 3,iD 0],.agg [.fs [iD 0,iD 3,iD 2] 3,iD 0]] (.d (oD true)):=zlw [0,3,2] 0 (by decide)
 have hA4:zas Try.prog 14 [.agg [.fs [iD 1] 1,iD 0],.agg [.fs [iD 1] 1,iD 0]] (.d (oD true)):=zlw [1] 0 (by decide)
 have hR1:zas Try.prog 24 [iD 4,zan egG,iD 2] (.d (.fs [iD 0,iD 2,iD 3] 3)):=by have:=zwa 4 egG grG 2;rw[jnb]at this;exact this
 have hR2:zas Try.prog 24 [iD 4,zan egG,iD 4] (.d (.fs [] 0)):=by have:=zwa 4 egG grG 4;rw[jnc]at this;exact this
 have hS1:zas Try.prog 23 [.fs [iD 0,iD 2,iD 3] 3,.fs [iD 0,iD 2,iD 3] 3] (.d (oD true)):=by have:=zw0 [0,2,3] [0,2,3] (by decide) (by decide);exact this
 have hC1:zas Try.prog 27 [iD 4,zan egH] (.d (.fs [.fs [iD 0,iD 2,iD 3] 3,.fs [iD 1] 1] 2)):=by have:=je8 4 egH grH (by decide);rw[jnh]at this;exact this
 have hS2:zas Try.prog 26 [.fs [.fs [iD 0,iD 2,iD 3] 3,.fs [iD 1] 1] 2,.fs [.fs [iD 0,iD 2,iD 3] 3,.fs [iD 1] 1] 2] (.d (oD true)):=by have:=jft [[0,2,3],[1]] [[0,2,3],[1]] (by decide) (by decide) (by decide) (by decide);rw[decide_eq_true rfl]at this;exact this
 have hKa:zas Try.prog 21 [iD 4,zan egG,.fs [iD 2,iD 0,iD 1,iD 3] 4] (.d (iD 0)):=by have:=zox 4 egG [2,0,1,3] grG (by decide);rw[jnd]at this;exact this
 have hKb:zas Try.prog 21 [iD 4,zan egG,.fs [iD 0,iD 1,iD 2,iD 3] 4] (.d (iD 6)):=by have:=zox 4 egG [0,1,2,3] grG (by decide);rw[jne]at this;exact this
 refine zay (fn:=Try.f10) (by kernel_rfl) Try.func10 rfl (Nat.le_of_ble_eq_true rfl) fun c hc hp=>?_
 refine zat (τ':=frL []) (zaj _) ?_
 refine zaf hp zao hc rfl fun K1 hK1=>?_
 simp -dsimp -implicitDefEqProofs (disch:=first|assumption|omega|(simp only[r_z]<;>omega)|decide) only[r_r,↓reduceIte,Nat.reduceEqDiff,Nat.reduceAdd,D.fix,Int.reduceToNat,Nat.reduceMul,Nat.reduceBNe,Nat.reduceBEq,grD,i50,i44,i00,i66]
 refine hK1 _ _ ?_
 refine szq hp (fun _ hZ=>zcv hZ) ?_
 refine zbe hp (τ':=frL [(0,.d (oD false)),(1,.d (.fp [iD 4,zan egG] 0))]) (H':=[]) ?_ ?_
 ·refine Rt.trans (Rt.fz (id:=0) (l:=(egG.flatMap edC)) rfl) ?_
  refine Rt.trans (Rt.heap (H':=[.dead,.cells [.d (iD 4),.d (zan egG)]]) (by simp only[r_g,Nat.reduceAdd,↓reduceIte,Nat.reduceEqDiff,grD,i50,i44,i00,i66];first|done|rfl)) ?_
  refine Rt.trans (Rt.fz (id:=1) (l:=[iD 4,zan egG]) rfl) ?_
  refine Rt.trans (Rt.gc (keep:=[]) (by decide) (by decide) (by simp[fzH,gcH])) ?_
  refine jnj ?_
  exact jnk
 refine zaf hp zao hc rfl fun K3 hK3=>?_
 refine zcv ?_
 refine zbj (jcf 4 egG 3 2 (by decide)) rfl ?_
 refine zcv ?_
 refine hK3 _ _ ?_
 refine zbe hp (τ':=frL [(0,.d (oD false)),(1,.d (.fp [iD 4,zan egG] 0)),(2,.d (.fp [iD 4,zan egH] 0))]) (H':=[]) ?_ ?_
 ·refine Rt.trans (Rt.fz (id:=0) (l:=[iD 4,zan egH]) rfl) ?_
  refine Rt.trans (Rt.gc (keep:=[]) (by decide) (by decide) (by simp[fzH,gcH])) ?_
  refine jnj ?_
  exact jnk
 refine zaf hp zao hc rfl fun K4 hK4=>?_
 refine zcv ?_
 refine zbj (jcf 4 egG 1 1 (by decide)) rfl ?_
 refine zcv ?_
 refine hK4 _ _ ?_
 refine zab fun K5 hK5=>?_
 refine zbe hp (τ':=frL [(0,.d (oD false)),(1,.d (.fp [iD 4,zan egG] 0)),(2,.d (.fp [iD 4,zan egH] 0)),(3,.d (.fp [iD 4,zan egI] 0))]) (H':=[]) ?_ ?_
 ·refine Rt.trans (Rt.fz (id:=0) (l:=[iD 4,zan egI]) rfl) ?_
  refine Rt.trans (Rt.gc (keep:=[]) (by decide) (by decide) (by simp[fzH,gcH])) ?_
  refine jnj ?_
  exact jnk
 refine zaf hp zao hc rfl fun K6 hK6=>?_
 refine zcv ?_
 refine zbj (hO1) rfl ?_
 refine zcv ?_
 refine zft (hA1) ?_ ?_
 ·exact jlh
 refine zcv ?_
 refine zbj (hD1) rfl ?_
 refine zcv ?_
 refine zft (hA2) ?_ ?_
 ·exact jlh
 refine zcv ?_
 refine zbj (hR1) rfl ?_
 refine zcv ?_
 refine zft (hS1) ?_ ?_
 ·simp (disch:=first|assumption|omega|(simp only[r_z]<;>omega)|decide) only[r_c,Nat.reduceAdd,D.fix,↓reduceIte,Nat.reduceEqDiff,grD,i50,i44,i00,i66,intsD]
 refine zcv ?_
 refine zbj (hY1) rfl ?_
 refine zcv ?_
 refine hK6 _ _ ?_
 refine szf ?_
 refine zag (hK5 _ _ ?_)
 refine zab fun K7 hK7=>?_
 refine zaf hp zao hc rfl fun K8 hK8=>?_
 refine zcv ?_
 refine zbj (hO2) rfl ?_
 refine zcv ?_
 refine zbj (hD2) rfl ?_
 refine zcv ?_
 refine zbj (hY2) rfl ?_
 refine zcv ?_
 refine zft (hA3) ?_ ?_
 ·exact jlh
 refine zcv ?_
 refine zbj (hY3) rfl ?_
 refine zcv ?_
 refine zft (hA4) ?_ ?_
 ·exact jlh
 refine zcv ?_
 refine zbj (hC1) rfl ?_
 refine zcv ?_
 refine zft (hS2) ?_ ?_
 ·simp (disch:=first|assumption|omega|(simp only[r_z]<;>omega)|decide) only[r_c,Nat.reduceAdd,D.fix,↓reduceIte,Nat.reduceEqDiff,grD,i50,i44,i00,i66,zam]
 refine zcv ?_
 refine hK8 _ _ ?_
 refine szf ?_
 refine zag (hK7 _ _ ?_)
 refine zaf hp zao hc rfl fun K9 hK9=>?_
 refine zcv ?_
 refine zbj (zxd (by decide) jnf) rfl ?_
 refine zcv ?_
 refine zbj (zxd (by decide) jng) rfl ?_
 refine zcv ?_
 refine zft (hKa) ?_ ?_
 ·exact jou
 refine zcv ?_
 refine zft (hKb) ?_ ?_
 ·exact jou
 refine zcv ?_
 refine zbj (hO3) rfl ?_
 refine zcv ?_
 refine zbj (hR2) rfl ?_
 refine zcv ?_
 refine hK9 _ _ ?_
 refine zar ?_
 show closeA _ _=_
 simp (disch:=first|assumption|omega|(simp only[r_z]<;>omega)|decide) only[r_c,Nat.reduceAdd,D.fix,↓reduceIte,Nat.reduceEqDiff,grD,i50,i44,i00,i66]
 rfl
end Go.Proofs.Ytfolbdkbpmgjgaa
