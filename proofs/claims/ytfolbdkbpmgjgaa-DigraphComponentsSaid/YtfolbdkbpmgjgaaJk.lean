/- The laws' wrapped calls, With. -/
import Derived.Test.YtfolbdkbpmgjgaaQr
import Derived.Test.YtfolbdkbpmgjgaaJh
import Derived.Test.YtfolbdkbpmgjgaaJg
set_option linter.unusedVariables false
set_option linter.unusedSimpArgs false
set_option maxRecDepth 100000
set_option maxHeartbeats 4000000
namespace Go.Proofs.Ytfolbdkbpmgjgaa
open Go Go.RowKit
theorem jjs:(((((type_of% @zhp)∧(type_of% @jcv))∧((type_of% @jhj)∧((type_of% @zx2)∧(type_of% @zkw))))∧(((type_of% @zg1)∧((type_of% @zg2)∧(type_of% @ze1)))∧((type_of% @zmm)∧((type_of% @zmn)∧(type_of% @zmo)))))∧((((type_of% @zx3)∧((type_of% @zky)∧(type_of% @zus)))∧((type_of% @zms)∧((type_of% @zmr)∧(type_of% @zmv))))∧(((type_of% @ze2)∧((type_of% @ze3)∧(type_of% @zmu)))∧((type_of% @zmt)∧((type_of% @ze0)∧(type_of% @zkx)))))):=⟨⟨⟨⟨@zhp,@jcv⟩,⟨@jhj,⟨@zx2,@zkw⟩⟩⟩,⟨⟨@zg1,⟨@zg2,@ze1⟩⟩,⟨@zmm,⟨@zmn,@zmo⟩⟩⟩⟩,⟨⟨⟨@zx3,⟨@zky,@zus⟩⟩,⟨@zms,⟨@zmr,@zmv⟩⟩⟩,⟨⟨@ze2,⟨@ze3,@zmu⟩⟩,⟨@zmt,⟨@ze0,@zkx⟩⟩⟩⟩⟩
theorem zhq{p q:Prop}(hq:q)(h:p=q:=by
 conv=>lhs;simp -dsimp -implicitDefEqProofs (disch:=first|assumption|omega|(simp only[r_z]<;>omega)|decide) only[r_r,↓reduceIte,Nat.reduceEqDiff,Nat.reduceAdd,D.fix,Int.reduceToNat,Nat.reduceMul,Nat.reduceBNe,Nat.reduceBEq,grD,lsD,zan,jjs]):p:=h.mpr hq
theorem jfc{p q:Prop}(hq:q)(h:p=q:=by
 conv=>lhs;simp -dsimp -implicitDefEqProofs (disch:=first|assumption|omega|(simp only[r_z]<;>omega)|decide) only[r_r,↓reduceIte,Nat.reduceEqDiff,Nat.reduceAdd,D.fix,Int.reduceToNat,Nat.reduceMul,Nat.reduceBNe,Nat.reduceBEq,grD,lsD,zan,jcv,jle]):p:=h.mpr hq
theorem jmd{p q:Prop}(hq:q)(h:p=q:=by
 conv=>lhs;simp (disch:=first|assumption|omega|(simp only[r_z]<;>omega)|decide) only[r_c,Nat.reduceAdd,D.fix,↓reduceIte,Nat.reduceEqDiff,grD,lsD,zan]):p:=h.mpr hq
theorem zli(n:Nat)(es:List Ed)(h:Gr n es):zar Try.prog 15 [grD n es] (.d (lsD (zer n es))):=by
 have hoc:=zv6 n es h
 rw[zw8]at hoc
 refine zay (fn:=Try.f15) (by kernel_rfl) Try.func15 rfl (Nat.le_of_ble_eq_true rfl) fun c hc hp=>?_
 refine zav (τ':=frL [(0,.d (grD n es))]) (by repeat (first|exact zaj _|refine zac ?_ (by first|rfl|(simp[r_f];done)|simp[r_f, *]))) ?_
 refine szq hp (fun _ hZ=>zhq hZ) ?_
 refine zag hp zam hc rfl fun K2 hK2=>?_
 refine zhq ?_
 refine zbj (hoc) rfl ?_
 refine zhq ?_
 refine hK2 _ _ ?_
 refine szq hp (fun _ hZ=>zhq hZ) ?_
 refine zas ?_
 try dsimp only[zc4,za8]
 refine zcl rfl ?_
 refine jfc ?_
 show closeA _ _=_
 refine jmd ?_
 simp only[zhl]
theorem zzl(n:Nat)(es:List Ed)(h:Gr n es):zar Try.prog 17 [grD n es] (.d (lsD (zsd n es))):=by
 have hoc:=jdz n es h
 rw[zw8]at hoc
 refine zay (fn:=Try.f17) (by kernel_rfl) Try.func17 rfl (Nat.le_of_ble_eq_true rfl) fun c hc hp=>?_
 refine zav (τ':=frL [(0,.d (grD n es))]) (by repeat (first|exact zaj _|refine zac ?_ (by first|rfl|(simp[r_f];done)|simp[r_f, *]))) ?_
 refine szq hp (fun _ hZ=>zhq hZ) ?_
 refine zag hp zam hc rfl fun K2 hK2=>?_
 refine zhq ?_
 refine zbj (hoc) rfl ?_
 refine zhq ?_
 refine hK2 _ _ ?_
 refine szq hp (fun _ hZ=>zhq hZ) ?_
 refine zas ?_
 try dsimp only[zc4,za8]
 refine zcl rfl ?_
 refine jfc ?_
 show closeA _ _=_
 refine jmd ?_
 simp only[zhl]
theorem zzm(n:Nat)(es:List Ed)(h:Gr n es):zar Try.prog 19 [grD n es] (.d (lsD (jbp n es))):=by
 have hoc:=jev n es h
 rw[zw8]at hoc
 refine zay (fn:=Try.f19) (by kernel_rfl) Try.func19 rfl (Nat.le_of_ble_eq_true rfl) fun c hc hp=>?_
 refine zav (τ':=frL [(0,.d (grD n es))]) (by repeat (first|exact zaj _|refine zac ?_ (by first|rfl|(simp[r_f];done)|simp[r_f, *]))) ?_
 refine szq hp (fun _ hZ=>zhq hZ) ?_
 refine zag hp zam hc rfl fun K2 hK2=>?_
 refine zhq ?_
 refine zbj (hoc) rfl ?_
 refine zhq ?_
 refine hK2 _ _ ?_
 refine szq hp (fun _ hZ=>zhq hZ) ?_
 refine zas ?_
 try dsimp only[zc4,za8]
 refine zcl rfl ?_
 refine jfc ?_
 show closeA _ _=_
 refine jmd ?_
 simp only[zhl]
theorem jme{m:Nat}:zdd 2 (zn3 [(9,2),(5,1),(2,0)] [{on:=5,ground:=Ground.data},{on:=9,ground:=Ground.data},{on:=5,ground:=Ground.chain}]) (AV.os 2 3 0 m)=true:=rfl
theorem zwn{H:zaa}:killAll (List.filterMap (fun p:Nat × Nat=>if p.fst=3 then some (5,p.snd)else none) [(3,2)]++[(3,2)]) H=(H.set 2 .dead).set 2 .dead:=rfl
theorem jbu(l:List Ed):(l.flatMap edC).map D.fix=l.flatMap edC:=by rw[List.map_flatMap];rfl
theorem zlj(es:List Ed)(v w:Nat):es.flatMap edC++[iD (v:Int),iD (w:Int)]=(es++[(v,w)]).flatMap edC:=by
 rw[List.flatMap_append];rfl
theorem jjt{p q:Prop}(hq:q)(h:p=q:=by
 conv=>lhs;simp -dsimp -implicitDefEqProofs (disch:=first|assumption|omega|(simp only[r_z,zap]<;>omega)|decide) only[r_r,↓reduceIte,Nat.reduceEqDiff,Nat.reduceAdd,D.fix,Int.reduceToNat,Nat.reduceMul,Nat.reduceBNe,Nat.reduceBEq,grD,zan,jme,zwn,jjs]):p:=h.mpr hq
theorem jbv(n:Nat)(es:List Ed)(v w:Nat)(hl:es.length≤1000):zar Try.prog 32 [grD n es,iD (v:Int),iD (w:Int)] (.d (grD n (es++[(v,w)]))):=by
 refine zay (fn:=Try.f32) (by kernel_rfl) Try.func32 rfl (Nat.le_of_ble_eq_true rfl) fun c hc hp=>?_
 refine zav (τ':=frL [(0,.d (grD n es)),(1,.d (iD (v:Int))),(2,.d (iD (w:Int)))]) (by repeat (first|exact zaj _|refine zac ?_ (by first|rfl|(simp[r_f,zap];done)|simp[r_f,zap, *]))) ?_
 refine szq hp (fun _ hZ=>jjt hZ) ?_
 refine zba zam hc mixed rfl (q:=4) (by kernel_rfl) (by kernel_rfl) fun K2 hK2=>?_
 refine jjt ?_
 refine hK2 _ _ ?_
 refine zas ?_
 try dsimp only[zc4,za8]
 refine zcl rfl ?_
 simp -dsimp -implicitDefEqProofs (disch:=first|assumption|omega|(simp only[r_z,zap]<;>omega)|decide) only[r_r,↓reduceIte,Nat.reduceEqDiff,Nat.reduceAdd,D.fix,Int.reduceToNat,Nat.reduceMul,Nat.reduceBNe,Nat.reduceBEq,grD,zan,jme,zwn,zhp,zmq]
 show closeA _ _=_
 simp (disch:=first|assumption|omega|(simp only[r_z,zap]<;>omega)|decide) only[r_c,Nat.reduceAdd,D.fix,↓reduceIte,Nat.reduceEqDiff,grD,zan,jme,zwn]
 have e:es.flatMap edC++[D.val (.int .i64 (v:Int))]++[D.val (.int .i64 (w:Int))]=(es++[(v,w)]).flatMap edC:=by rw[List.append_assoc];exact zlj es v w
 rw[e,jbu,List.length_append];rfl
theorem jju{l:List Ed}{k:Nat}(h:k<l.length):(l.flatMap edC)[k*2]? =some (iD (((nth l k).1:Nat):Int)):=by
 exact((zcd (zdq h)).2 0 (by decide)).symm
theorem jjv{l:List Ed}{k:Nat}(h:k<l.length):(l.flatMap edC)[k*2+1]? =some (iD (((nth l k).2:Nat):Int)):=by
 exact((zcd (zdq h)).2 1 (by decide)).symm
def jkt(es:List Ed)(v w:Nat):Bool:=es.any fun e=>e.1==v&&e.2==w
theorem zq4{es:List Ed}{v w:Nat}:jkt es v w=true↔(v,w)∈es:=by
 unfold jkt
 rw[List.any_eq_true]
 constructor
 ·rintro⟨⟨a,b⟩,h1,h2⟩
  simp at h2
  rw[←h2.1,←h2.2];exact h1
 ·intro h;exact⟨(v,w),h,by simp⟩
/- What the functions give at the laws' fixed graphs. -/
def zlk(n:Nat)(es:List Ed):List (List Nat):=(List.range n).map fun v=>(List.range n).filter fun w=>jkt es v w
def zr7(n:Nat)(es:List Ed):List (List Nat):=(List.range n).map fun v=>(List.range n).filter fun w=>jkt es w v
theorem zos{n:Nat}{p:Nat→Bool}:((List.range n).filter p).Pairwise fun a b=>id a<id b:=List.Pairwise.filter _ List.pairwise_lt_range
theorem zll{n:Nat}{es:List Ed}(h:Gr n es):za5 n es=zlk n es:=by
 refine zin (by rw[zbp];simp[zlk]) fun v hv=>?_
 rw[zbp]at hv
 rw[zlk,za4 hv]
 refine zr6 id (zoh hv) zos fun w=>?_
 rw[zdj hv,List.mem_filter,List.mem_range,zq4]
 exact⟨fun hm=>⟨(h.e _ hm).2,hm⟩,fun hm=>hm.2⟩
theorem zwo{n:Nat}{es:List Ed}(h:Gr n es):zbe n es=zr7 n es:=by
 refine zin (by rw[zb8];simp[zr7]) fun v hv=>?_
 rw[zb8]at hv
 rw[zr7,za4 hv]
 refine zr6 id (zoi hv) zos fun w=>?_
 rw[zgn hv,List.mem_filter,List.mem_range,zq4]
 exact⟨fun hm=>⟨(h.e _ hm).1,hm⟩,fun hm=>hm.2⟩
theorem jfd{n:Nat}{l:List Nat}(hd:l.Nodup)(hl:∀x∈l,x<n):zep l=(List.range n).filter fun x=>l.contains x:=by
 refine zr6 id (zq3 (zq2 l) ((zdk l).nodup_iff.2 hd)) zos fun w=>?_
 rw[(zdk l).mem_iff,List.mem_filter,List.mem_range,List.contains_iff_mem]
 exact⟨fun hm=>⟨hl w hm,hm⟩,fun hm=>hm.2⟩
def zwp(n:Nat)(nx:List (List Nat))(st:Nat):List Nat:=(List.range n).filter fun x=>(zfk nx st).out.contains x
theorem jjw{nx:List (List Nat)}{st:Nat}(hN:GrN nx st):(zfk nx st).out.Nodup:=by
 have:=(zjj hN.n hN.s).c.i.nd
 rw[zru hN.n hN.s,List.append_nil]at this
 exact this
theorem zwq{nx:List (List Nat)}{st:Nat}(hN:GrN nx st):∀x∈(zfk nx st).out,x<nx.length:=fun x hx=>(zjj hN.n hN.s).c.i.lt x (List.mem_append_left _ hx)
theorem zne{nx:List (List Nat)}{st:Nat}(hN:GrN nx st)(v:Nat):v∈(zfk nx st).out↔RT nx st v:=zoe (zjj hN.n hN.s).c (zru hN.n hN.s) v
theorem zwr{n st:Nat}{es:List Ed}(h:Gr n es)(hs:st<n):zi8 n es (st:Int)=zl (zwp n (za5 n es) st):=by
 have hN:=h.next hs
 rw[zi8,if_pos ⟨by omega,by omega⟩,zvt,Int.toNat_natCast,←zqr,jfd (n:=n) (jjw hN) (fun x hx=>by have:=zwq hN x hx;rwa[zbp]at this)];rfl
theorem zr8{n st:Nat}{es:List Ed}(h:Gr n es)(hs:st<n)(x:Nat):x∈zwp n (za5 n es) st↔RT (za5 n es) st x:=by
 have hN:=h.next hs
 rw[zwp,List.mem_filter,List.mem_range,List.contains_iff_mem,zne hN]
 refine⟨fun h=>h.2,fun hr=>⟨?_,hr⟩⟩
 have:=zwq hN x ((zne hN x).2 hr)
 rwa[zbp]at this
theorem zws{n:Nat}{es:List Ed}(h:Gr n es):zer n es=if(zcb n (zr7 n es) n).length<n then([],50)else(zcb n (zr7 n es) n,0):=by rw[zer,zwo h]
theorem jbw{n:Nat}{es:List Ed}(h:Gr n es):jbp n es=if(zer n es).2=0 then(dpO n (zlk n es) (zer n es).1,0)else([],(zer n es).2):=by rw[jbp,zll h]
theorem zwt{n:Nat}{es:List Ed}(h:Gr n es):zsd n es=if(bfS (zlk n es) n).1=0 then([],4)else(zhz (zlk n es) (zr7 n es) (bfS (zlk n es) n).2 (bfS (zlk n es) n).1 ((bfS (zlk n es) n).1 - 1),0):=by rw[zsd,zll h,zwo h]
def egG:List Ed:=[(2,0),(0,3),(1,3)]
def egH:List Ed:=[(2,0),(0,3),(1,3),(3,2)]
def egI:List Ed:=[(2,0),(0,3),(1,3),(1,1)]
theorem grG:Gr 4 egG:=⟨by decide,by decide,by decide⟩
theorem grH:Gr 4 egH:=⟨by decide,by decide,by decide⟩
theorem grI:Gr 4 egI:=⟨by decide,by decide,by decide⟩
theorem gr0:Gr 0 []:=⟨by decide,by decide,by decide⟩
theorem jjx:zer 4 egG=([1,2,0,3],0):=by rw[zws grG];kernel_rfl
theorem jjy:zer 4 egH=([],50):=by rw[zws grH];kernel_rfl
theorem jmf:zer 0 []=([],0):=by rw[zws gr0];kernel_rfl
theorem jmg:jbp 4 egG=([1,0,0,2],0):=by rw[jbw grG,jjx];kernel_rfl
theorem jmh:jbp 4 egH=([],50):=by rw[jbw grH,jjy];kernel_rfl
theorem jmi:zsd 4 egG=([],4):=by rw[zwt grG];kernel_rfl
theorem jmj:zsd 4 egH=([0,3,2],0):=by rw[zwt grH];kernel_rfl
theorem jmk:zsd 4 egI=([1],0):=by rw[zwt grI];kernel_rfl
theorem jml:zi8 4 egG 2=[0,2,3]:=by
 have:=zwr grG (st:=2) (by decide)
 rw[zll grG]at this
 exact this.trans (by kernel_rfl)
theorem jmm:zi8 4 egG 4=[]:=if_neg (by decide)
theorem jmn:ckR 4 egG [2,0,1,3]=0:=by kernel_rfl
theorem jmo:ckR 4 egG [0,1,2,3]=6:=by kernel_rfl
theorem jot(es:List Ed):zan es=zd9 (es.map fun e=>((e.1:Int),(e.2:Int))):=by
 rw[zan,zd9,List.flatMap_map,List.length_map];rfl
theorem jmp:zxa 4 (egG.map fun e=>((e.1:Int),(e.2:Int)))=true:=by kernel_rfl
theorem jmq:zxa 3 (egG.map fun e=>((e.1:Int),(e.2:Int)))=false:=by kernel_rfl
theorem jbx{n:Nat}{es:List Ed}(h:Gr n es):CmpI n (za5 n es) (jje n es):=jmc h.two.ni
def job(n:Nat)(nx:List (List Nat))(L:List (List Nat)):Bool:=L.all fun r=>r.all fun x=>(List.range n).all fun y=>decide (y∈r)==((zfk nx x).out.contains y&&(zfk nx y).out.contains x)
theorem jfe{n:Nat}{es:List Ed}(h:Gr n es){L:List (List Nat)}(hlt:∀r∈L,∀x∈r,x<n)(hB:job n (za5 n es) L=true):∀r∈L,∀x∈r,∀y,y∈r↔(RT (za5 n es) x y∧RT (za5 n es) y x):=fun r hr x hx y=>by
 have hxn:=hlt r hr x hx
 have key:∀y,y<n→(y∈r↔(RT (za5 n es) x y∧RT (za5 n es) y x)):=fun y hy=>by
  simp only[job,List.all_eq_true,List.mem_range,beq_iff_eq]at hB
  have:=hB r hr x hx y hy
  rw[←zne (h.next hxn),←zne (h.next hy)]
  have k:=decide_eq_true_eq (p:=y∈r)
  rw[this,Bool.and_eq_true,List.contains_iff_mem,List.contains_iff_mem]at k
  exact(iff_of_eq k).symm
 by_cases hy:y<n
 ·exact key y hy
 ·refine⟨fun hm=>absurd (hlt r hr y hm) hy,fun hm=>?_⟩
  have:=zwq (h.next hxn) y ((zne (h.next hxn) y).2 hm.1)
  rw[zbp]at this
  exact absurd this hy
theorem jmr:jje 4 egH=[[0,2,3],[1]]:=by
 refine zzk (jbx grH) (L':=[[0,2,3],[1]]) ⟨by decide,by decide,fun w=>?_,jfe grH (by decide) (by rw[zll grH];kernel_rfl),by decide,by decide⟩ fun x y _ _=>Iff.rfl
 simp;omega
/- The laws' examples. -/
theorem jms:(((((type_of% @zmv)∧(type_of% @ze2))∧((type_of% @ze3)∧((type_of% @zmu)∧(type_of% @zmm))))∧(((type_of% @zmn)∧((type_of% @zmo)∧(type_of% @zmt)))∧((type_of% @ze0)∧((type_of% @zkx)∧(type_of% @zhp)))))∧((((type_of% @zmq)∧(type_of% @zms))∧((type_of% @zmr)∧((type_of% @zdg)∧(type_of% @zdv))))∧(((type_of% @zx3)∧((type_of% @zky)∧(type_of% @zx2)))∧((type_of% @ze1)∧((type_of% @zkz)∧(type_of% @zrl)))))):=⟨⟨⟨⟨@zmv,@ze2⟩,⟨@ze3,⟨@zmu,@zmm⟩⟩⟩,⟨⟨@zmn,⟨@zmo,@zmt⟩⟩,⟨@ze0,⟨@zkx,@zhp⟩⟩⟩⟩,⟨⟨⟨@zmq,@zms⟩,⟨@zmr,⟨@zdg,@zdv⟩⟩⟩,⟨⟨@zx3,⟨@zky,@zx2⟩⟩,⟨@ze1,⟨@zkz,@zrl⟩⟩⟩⟩⟩
theorem zlm(l:List Nat)(e:Int)(hl:l.length≤1000000):zar Try.prog 14 [lsD (l,e),lsD (l,e)] (.d (oD true)):=by
 have:=jfa l l e e hl hl
 rwa[decide_eq_true rfl]at this
theorem zwu{n:Nat}{es:List Ed}(h:Gr n es){r:List Nat × Int}(hr:zer n es=r):zar Try.prog 15 [grD n es] (.d (lsD r)):=hr▸zli n es h
theorem zwv{n:Nat}{es:List Ed}(h:Gr n es){r:List Nat × Int}(hr:zsd n es=r):zar Try.prog 17 [grD n es] (.d (lsD r)):=hr▸zzl n es h
theorem jby{n:Nat}{es:List Ed}(h:Gr n es){r:List Nat × Int}(hr:jbp n es=r):zar Try.prog 19 [grD n es] (.d (lsD r)):=hr▸zzm n es h
theorem zww{n:Int}{es:List Ed}(hl:es.length≤1000000){b:Bool}(hb:zxa n (es.map fun e=>((e.1:Int),(e.2:Int)))=b):zar Try.prog 12 [iD n,zan es] (.d (oD b)):=by
 have:=je6 n (es.map fun e=>((e.1:Int),(e.2:Int))) (by rw[List.length_map];exact hl)
 rwa[←jot,hb]at this
theorem i50:((50:Int) !=50)=false:=rfl
theorem i44:((4:Int) !=4)=false:=rfl
theorem i00:((0:Int)==0)=true:=rfl
theorem i66:((6:Int)==6)=true:=rfl
theorem zct{p q:Prop}(hq:q)(h:p=q:=by
 conv=>lhs;simp -dsimp -implicitDefEqProofs (disch:=first|assumption|omega|(simp only[r_z]<;>omega)|decide) only[r_r,↓reduceIte,Nat.reduceEqDiff,Nat.reduceAdd,D.fix,Int.reduceToNat,Nat.reduceMul,Nat.reduceBNe,Nat.reduceBEq,grD,i50,i44,i00,i66,jms]):p:=h.mpr hq
theorem jmt{m:List Nat}{τ τ':Fr}{H H':zaa}(h2:H=H')(h:zgq τ τ':=by
 repeat (first|exact zaj _|refine zac ?_ (by first|rfl|(simp[r_f];done)|simp[r_f, *]))):Rt m τ H τ' H':=Rt.end h h2
theorem jmu{p:Prop}(h:p:=by
 first|rfl|(simp only[r_g,Nat.reduceAdd,↓reduceIte,Nat.reduceEqDiff,grD,i50,i44,i00,i66];first|done|rfl)):p:=h
theorem jku{p:Prop}(h:p:=by
 simp (disch:=first|assumption|omega|(simp only[r_z]<;>omega)|decide) only[r_c,Nat.reduceAdd,D.fix,↓reduceIte,Nat.reduceEqDiff,grD,i50,i44,i00,i66,lsD]):p:=h
theorem joc{p:Prop}(h:p:=by
 simp (disch:=first|assumption|omega|(simp only[r_z]<;>omega)|decide) only[r_c,Nat.reduceAdd,D.fix,↓reduceIte,Nat.reduceEqDiff,grD,i50,i44,i00,i66,zan,intsD]):p:=h
theorem zr9:zar Try.prog 10 [] (.d (oD true)):=by
 have hO1:zar Try.prog 15 [grD 4 egG] (.d (.agg [.fs [iD 1,iD 2,iD 0,iD 3] 4,iD 0])):=zwu grG jjx
 have hD1:zar Try.prog 19 [grD 4 egG] (.d (.agg [.fs [iD 1,iD 0,iD 0,iD 2] 4,iD 0])):=jby grG jmg
 have hY1:zar Try.prog 17 [grD 4 egG] (.d (.agg [.fs [] 0,iD 4])):=zwv grG jmi
 have hO2:zar Try.prog 15 [grD 4 egH] (.d (.agg [.fs [] 0,iD 50])):=zwu grH jjy
 have hD2:zar Try.prog 19 [grD 4 egH] (.d (.agg [.fs [] 0,iD 50])):=jby grH jmh
 have hY2:zar Try.prog 17 [grD 4 egH] (.d (.agg [.fs [iD 0,iD 3,iD 2] 3,iD 0])):=zwv grH jmj
 have hY3:zar Try.prog 17 [grD 4 egI] (.d (.agg [.fs [iD 1] 1,iD 0])):=zwv grI jmk
 have hO3:zar Try.prog 15 [grD 0 []] (.d (.agg [.fs [] 0,iD 0])):=zwu gr0 jmf
 have hA1:zar Try.prog 14 [.agg [.fs [iD 1,iD 2,iD 0,iD 3] 4,iD 0],.agg [.fs [iD 1,iD 2,iD 0,iD 3] 4,iD 0]] (.d (oD true)):=zlm [1,2,0,3] 0 (by decide)
 have hA2:zar Try.prog 14 [.agg [.fs [iD 1,iD 0,iD 0,iD 2] 4,iD 0],.agg [.fs [iD 1,iD 0,iD 0,iD 2] 4,iD 0]] (.d (oD true)):=zlm [1,0,0,2] 0 (by decide)
 have hA3:zar Try.prog 14 [.agg [.fs [iD 0,iD 3,iD 2] 3,iD 0],.agg [.fs [iD 0,iD 3,iD 2] 3,iD 0]] (.d (oD true)):=zlm [0,3,2] 0 (by decide)
 have hA4:zar Try.prog 14 [.agg [.fs [iD 1] 1,iD 0],.agg [.fs [iD 1] 1,iD 0]] (.d (oD true)):=zlm [1] 0 (by decide)
 have hR1:zar Try.prog 24 [iD 4,zan egG,iD 2] (.d (.fs [iD 0,iD 2,iD 3] 3)):=by have:=zon 4 egG grG 2;rw[jml]at this;exact this
 have hR2:zar Try.prog 24 [iD 4,zan egG,iD 4] (.d (.fs [] 0)):=by have:=zon 4 egG grG 4;rw[jmm]at this;exact this
 have hS1:zar Try.prog 23 [.fs [iD 0,iD 2,iD 3] 3,.fs [iD 0,iD 2,iD 3] 3] (.d (oD true)):=by have:=zwj [0,2,3] [0,2,3] (by decide) (by decide);exact this
 have hC1:zar Try.prog 27 [iD 4,zan egH] (.d (.fs [.fs [iD 0,iD 2,iD 3] 3,.fs [iD 1] 1] 2)):=by have:=zwe 4 egH grH (by decide);rw[jmr]at this;exact this
 have hS2:zar Try.prog 26 [.fs [.fs [iD 0,iD 2,iD 3] 3,.fs [iD 1] 1] 2,.fs [.fs [iD 0,iD 2,iD 3] 3,.fs [iD 1] 1] 2] (.d (oD true)):=by have:=je8 [[0,2,3],[1]] [[0,2,3],[1]] (by decide) (by decide) (by decide) (by decide);rw[decide_eq_true rfl]at this;exact this
 have hKa:zar Try.prog 21 [iD 4,zan egG,.fs [iD 2,iD 0,iD 1,iD 3] 4] (.d (iD 0)):=by have:=zwh 4 egG [2,0,1,3] grG (by decide);rw[jmn]at this;exact this
 have hKb:zar Try.prog 21 [iD 4,zan egG,.fs [iD 0,iD 1,iD 2,iD 3] 4] (.d (iD 6)):=by have:=zwh 4 egG [0,1,2,3] grG (by decide);rw[jmo]at this;exact this
 refine zay (fn:=Try.f10) (by kernel_rfl) Try.func10 rfl (Nat.le_of_ble_eq_true rfl) fun c hc hp=>?_
 refine zav (τ':=frL []) (zaj _) ?_
 refine zag hp zam hc rfl fun K1 hK1=>?_
 simp -dsimp -implicitDefEqProofs (disch:=first|assumption|omega|(simp only[r_z]<;>omega)|decide) only[r_r,↓reduceIte,Nat.reduceEqDiff,Nat.reduceAdd,D.fix,Int.reduceToNat,Nat.reduceMul,Nat.reduceBNe,Nat.reduceBEq,grD,i50,i44,i00,i66]
 refine hK1 _ _ ?_
 refine szq hp (fun _ hZ=>zct hZ) ?_
 refine zbg hp (τ':=frL [(0,.d (oD false)),(1,.d (.fp [iD 4,zan egG] 0))]) (H':=[]) ?_ ?_
 ·refine Rt.trans (Rt.fz (id:=0) (l:=(egG.flatMap edC)) rfl) ?_
  refine Rt.trans (Rt.heap (H':=[.dead,.cells [.d (iD 4),.d (zan egG)]]) (by simp only[r_g,Nat.reduceAdd,↓reduceIte,Nat.reduceEqDiff,grD,i50,i44,i00,i66];first|done|rfl)) ?_
  refine Rt.trans (Rt.fz (id:=1) (l:=[iD 4,zan egG]) rfl) ?_
  refine Rt.trans (Rt.gc (keep:=[]) (by decide) (by decide) (by simp[fzH,gcH])) ?_
  refine jmt ?_
  exact jmu
 refine zag hp zam hc rfl fun K3 hK3=>?_
 refine zct ?_
 refine zbj (jbv 4 egG 3 2 (by decide)) rfl ?_
 refine zct ?_
 refine hK3 _ _ ?_
 refine zbg hp (τ':=frL [(0,.d (oD false)),(1,.d (.fp [iD 4,zan egG] 0)),(2,.d (.fp [iD 4,zan egH] 0))]) (H':=[]) ?_ ?_
 ·refine Rt.trans (Rt.fz (id:=0) (l:=[iD 4,zan egH]) rfl) ?_
  refine Rt.trans (Rt.gc (keep:=[]) (by decide) (by decide) (by simp[fzH,gcH])) ?_
  refine jmt ?_
  exact jmu
 refine zag hp zam hc rfl fun K4 hK4=>?_
 refine zct ?_
 refine zbj (jbv 4 egG 1 1 (by decide)) rfl ?_
 refine zct ?_
 refine hK4 _ _ ?_
 refine zab fun K5 hK5=>?_
 refine zbg hp (τ':=frL [(0,.d (oD false)),(1,.d (.fp [iD 4,zan egG] 0)),(2,.d (.fp [iD 4,zan egH] 0)),(3,.d (.fp [iD 4,zan egI] 0))]) (H':=[]) ?_ ?_
 ·refine Rt.trans (Rt.fz (id:=0) (l:=[iD 4,zan egI]) rfl) ?_
  refine Rt.trans (Rt.gc (keep:=[]) (by decide) (by decide) (by simp[fzH,gcH])) ?_
  refine jmt ?_
  exact jmu
 refine zag hp zam hc rfl fun K6 hK6=>?_
 refine zct ?_
 refine zbj (hO1) rfl ?_
 refine zct ?_
 refine zfs (hA1) ?_ ?_
 ·exact jku
 refine zct ?_
 refine zbj (hD1) rfl ?_
 refine zct ?_
 refine zfs (hA2) ?_ ?_
 ·exact jku
 refine zct ?_
 refine zbj (hR1) rfl ?_
 refine zct ?_
 refine zfs (hS1) ?_ ?_
 ·simp (disch:=first|assumption|omega|(simp only[r_z]<;>omega)|decide) only[r_c,Nat.reduceAdd,D.fix,↓reduceIte,Nat.reduceEqDiff,grD,i50,i44,i00,i66,intsD]
 refine zct ?_
 refine zbj (hY1) rfl ?_
 refine zct ?_
 refine hK6 _ _ ?_
 refine szf ?_
 refine zah (hK5 _ _ ?_)
 refine zab fun K7 hK7=>?_
 refine zag hp zam hc rfl fun K8 hK8=>?_
 refine zct ?_
 refine zbj (hO2) rfl ?_
 refine zct ?_
 refine zbj (hD2) rfl ?_
 refine zct ?_
 refine zbj (hY2) rfl ?_
 refine zct ?_
 refine zfs (hA3) ?_ ?_
 ·exact jku
 refine zct ?_
 refine zbj (hY3) rfl ?_
 refine zct ?_
 refine zfs (hA4) ?_ ?_
 ·exact jku
 refine zct ?_
 refine zbj (hC1) rfl ?_
 refine zct ?_
 refine zfs (hS2) ?_ ?_
 ·simp (disch:=first|assumption|omega|(simp only[r_z]<;>omega)|decide) only[r_c,Nat.reduceAdd,D.fix,↓reduceIte,Nat.reduceEqDiff,grD,i50,i44,i00,i66,zai]
 refine zct ?_
 refine hK8 _ _ ?_
 refine szf ?_
 refine zah (hK7 _ _ ?_)
 refine zag hp zam hc rfl fun K9 hK9=>?_
 refine zct ?_
 refine zbj (zww (by decide) jmp) rfl ?_
 refine zct ?_
 refine zbj (zww (by decide) jmq) rfl ?_
 refine zct ?_
 refine zfs (hKa) ?_ ?_
 ·exact joc
 refine zct ?_
 refine zfs (hKb) ?_ ?_
 ·exact joc
 refine zct ?_
 refine zbj (hO3) rfl ?_
 refine zct ?_
 refine zbj (hR2) rfl ?_
 refine zct ?_
 refine hK9 _ _ ?_
 refine zas ?_
 show closeA _ _=_
 simp (disch:=first|assumption|omega|(simp only[r_z]<;>omega)|decide) only[r_c,Nat.reduceAdd,D.fix,↓reduceIte,Nat.reduceEqDiff,grD,i50,i44,i00,i66]
 rfl
end Go.Proofs.Ytfolbdkbpmgjgaa
