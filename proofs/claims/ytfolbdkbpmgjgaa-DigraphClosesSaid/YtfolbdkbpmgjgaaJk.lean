/- The laws' wrapped calls, With. -/
import Derived.Test.YtfolbdkbpmgjgaaQr
import Derived.Test.YtfolbdkbpmgjgaaJh
import Derived.Test.YtfolbdkbpmgjgaaJg
set_option linter.unusedVariables false
set_option linter.unusedSimpArgs false
set_option maxRecDepth 100000
set_option maxHeartbeats 4000000
namespace Go.Proofs.Ytfolbdkbpmgjgaa
open Go Go.RowKit
theorem jkf:(((((type_of% @zf5)∧(type_of% @zve))∧((type_of% @zyt)∧((type_of% @zys)∧(type_of% @zg8))))∧(((type_of% @zgp)∧((type_of% @zgq)∧(type_of% @zd2)))∧((type_of% @zjt)∧((type_of% @zju)∧(type_of% @zmu)))))∧((((type_of% @zyu)∧((type_of% @zlb)∧(type_of% @zvg)))∧((type_of% @zjv)∧((type_of% @zmw)∧(type_of% @zmz))))∧(((type_of% @ze4)∧((type_of% @ze5)∧(type_of% @zmy)))∧((type_of% @zmx)∧((type_of% @ze3)∧(type_of% @zk9)))))):=⟨⟨⟨⟨@zf5,@zve⟩,⟨@zyt,⟨@zys,@zg8⟩⟩⟩,⟨⟨@zgp,⟨@zgq,@zd2⟩⟩,⟨@zjt,⟨@zju,@zmu⟩⟩⟩⟩,⟨⟨⟨@zyu,⟨@zlb,@zvg⟩⟩,⟨@zjv,⟨@zmw,@zmz⟩⟩⟩,⟨⟨@ze4,⟨@ze5,@zmy⟩⟩,⟨@zmx,⟨@ze3,@zk9⟩⟩⟩⟩⟩
theorem zhx{p q:Prop}(hq:q)(h:p=q:=by
 conv=>lhs;simp -dsimp -implicitDefEqProofs (disch:=first|assumption|omega|(simp only[r_z]<;>omega)|decide) only[r_r,↓reduceIte,Nat.reduceEqDiff,Nat.reduceAdd,D.fix,Int.reduceToNat,Nat.reduceMul,Nat.reduceBNe,Nat.reduceBEq,grD,lsD,zal,jkf]):p:=h.mpr hq
theorem jfz{p q:Prop}(hq:q)(h:p=q:=by
 conv=>lhs;simp -dsimp -implicitDefEqProofs (disch:=first|assumption|omega|(simp only[r_z]<;>omega)|decide) only[r_r,↓reduceIte,Nat.reduceEqDiff,Nat.reduceAdd,D.fix,Int.reduceToNat,Nat.reduceMul,Nat.reduceBNe,Nat.reduceBEq,grD,lsD,zal,zve,jl5]):p:=h.mpr hq
theorem jm3{p q:Prop}(hq:q)(h:p=q:=by
 conv=>lhs;simp (disch:=first|assumption|omega|(simp only[r_z]<;>omega)|decide) only[r_c,Nat.reduceAdd,D.fix,↓reduceIte,Nat.reduceEqDiff,grD,lsD,zal]):p:=h.mpr hq
theorem zh7(n:Nat)(es:List Ed)(h:Gr n es):zaq Try.prog 15 [grD n es] (.d (lsD (zd4 n es))):=by
 have hoc:=zww n es h
 rw[zxx]at hoc
 refine zay (fn:=Try.f15) (by kernel_rfl) Try.func15 rfl (Nat.le_of_ble_eq_true rfl) fun c hc hp=>?_
 refine zau (τ':=frL [(0,.d (grD n es))]) (by repeat (first|exact zah _|refine zac ?_ (by first|rfl|(simp[r_f];done)|simp[r_f, *]))) ?_
 refine szq hp (fun _ hZ=>zhx hZ) ?_
 refine zad hp zao hc rfl fun K2 hK2=>?_
 refine zhx ?_
 refine zbb (hoc) rfl ?_
 refine zhx ?_
 refine hK2 _ _ ?_
 refine szq hp (fun _ hZ=>zhx hZ) ?_
 refine zar ?_
 try dsimp only[zcy,za8]
 refine zcb rfl ?_
 refine jfz ?_
 show closeA _ _=_
 refine jm3 ?_
 simp only[zht]
theorem zh8(n:Nat)(es:List Ed)(h:Gr n es):zaq Try.prog 17 [grD n es] (.d (lsD (zem n es))):=by
 have hoc:=jen n es h
 rw[zxx]at hoc
 refine zay (fn:=Try.f17) (by kernel_rfl) Try.func17 rfl (Nat.le_of_ble_eq_true rfl) fun c hc hp=>?_
 refine zau (τ':=frL [(0,.d (grD n es))]) (by repeat (first|exact zah _|refine zac ?_ (by first|rfl|(simp[r_f];done)|simp[r_f, *]))) ?_
 refine szq hp (fun _ hZ=>zhx hZ) ?_
 refine zad hp zao hc rfl fun K2 hK2=>?_
 refine zhx ?_
 refine zbb (hoc) rfl ?_
 refine zhx ?_
 refine hK2 _ _ ?_
 refine szq hp (fun _ hZ=>zhx hZ) ?_
 refine zar ?_
 try dsimp only[zcy,za8]
 refine zcb rfl ?_
 refine jfz ?_
 show closeA _ _=_
 refine jm3 ?_
 simp only[zht]
theorem jaa(n:Nat)(es:List Ed)(h:Gr n es):zaq Try.prog 19 [grD n es] (.d (lsD (jcg n es))):=by
 have hoc:=jfk n es h
 rw[zxx]at hoc
 refine zay (fn:=Try.f19) (by kernel_rfl) Try.func19 rfl (Nat.le_of_ble_eq_true rfl) fun c hc hp=>?_
 refine zau (τ':=frL [(0,.d (grD n es))]) (by repeat (first|exact zah _|refine zac ?_ (by first|rfl|(simp[r_f];done)|simp[r_f, *]))) ?_
 refine szq hp (fun _ hZ=>zhx hZ) ?_
 refine zad hp zao hc rfl fun K2 hK2=>?_
 refine zhx ?_
 refine zbb (hoc) rfl ?_
 refine zhx ?_
 refine hK2 _ _ ?_
 refine szq hp (fun _ hZ=>zhx hZ) ?_
 refine zar ?_
 try dsimp only[zcy,za8]
 refine zcb rfl ?_
 refine jfz ?_
 show closeA _ _=_
 refine jm3 ?_
 simp only[zht]
theorem jm4{m:Nat}:zdg 2 (zob [(9,2),(5,1),(2,0)] [{on:=5,ground:=Ground.data},{on:=9,ground:=Ground.data},{on:=5,ground:=Ground.chain}]) (AV.os 2 3 0 m)=true:=rfl
theorem zxc{H:zaa}:killAll (List.filterMap (fun p:Nat × Nat=>if p.fst=3 then some (5,p.snd)else none) [(3,2)]++[(3,2)]) H=(H.set 2 .dead).set 2 .dead:=rfl
theorem zxd(l:List Ed):(l.flatMap edC).map D.fix=l.flatMap edC:=by rw[List.map_flatMap];rfl
theorem zo4(es:List Ed)(v w:Nat):es.flatMap edC++[iD (v:Int),iD (w:Int)]=(es++[(v,w)]).flatMap edC:=by
 rw[List.flatMap_append];rfl
theorem jkg{p q:Prop}(hq:q)(h:p=q:=by
 conv=>lhs;simp -dsimp -implicitDefEqProofs (disch:=first|assumption|omega|(simp only[r_z,zan]<;>omega)|decide) only[r_r,↓reduceIte,Nat.reduceEqDiff,Nat.reduceAdd,D.fix,Int.reduceToNat,Nat.reduceMul,Nat.reduceBNe,Nat.reduceBEq,grD,zal,jm4,zxc,jkf]):p:=h.mpr hq
theorem zxe(n:Nat)(es:List Ed)(v w:Nat)(hl:es.length≤1000):zaq Try.prog 32 [grD n es,iD (v:Int),iD (w:Int)] (.d (grD n (es++[(v,w)]))):=by
 refine zay (fn:=Try.f32) (by kernel_rfl) Try.func32 rfl (Nat.le_of_ble_eq_true rfl) fun c hc hp=>?_
 refine zau (τ':=frL [(0,.d (grD n es)),(1,.d (iD (v:Int))),(2,.d (iD (w:Int)))]) (by repeat (first|exact zah _|refine zac ?_ (by first|rfl|(simp[r_f,zan];done)|simp[r_f,zan, *]))) ?_
 refine szq hp (fun _ hZ=>jkg hZ) ?_
 refine zbk zao hc mixed rfl (q:=4) (by kernel_rfl) (by kernel_rfl) fun K2 hK2=>?_
 refine jkg ?_
 refine hK2 _ _ ?_
 refine zar ?_
 try dsimp only[zcy,za8]
 refine zcb rfl ?_
 simp -dsimp -implicitDefEqProofs (disch:=first|assumption|omega|(simp only[r_z,zan]<;>omega)|decide) only[r_r,↓reduceIte,Nat.reduceEqDiff,Nat.reduceAdd,D.fix,Int.reduceToNat,Nat.reduceMul,Nat.reduceBNe,Nat.reduceBEq,grD,zal,jm4,zxc,zf5,zi1]
 show closeA _ _=_
 simp (disch:=first|assumption|omega|(simp only[r_z,zan]<;>omega)|decide) only[r_c,Nat.reduceAdd,D.fix,↓reduceIte,Nat.reduceEqDiff,grD,zal,jm4,zxc]
 have e:es.flatMap edC++[D.val (.int .i64 (v:Int))]++[D.val (.int .i64 (w:Int))]=(es++[(v,w)]).flatMap edC:=by rw[List.append_assoc];exact zo4 es v w
 rw[e,zxd,List.length_append];rfl
theorem jkh{l:List Ed}{k:Nat}(h:k<l.length):(l.flatMap edC)[k*2]? =some (iD (((nth l k).1:Nat):Int)):=by
 exact((zcf (zdr h)).2 0 (by decide)).symm
theorem jki{l:List Ed}{k:Nat}(h:k<l.length):(l.flatMap edC)[k*2+1]? =some (iD (((nth l k).2:Nat):Int)):=by
 exact((zcf (zdr h)).2 1 (by decide)).symm
def jlk(es:List Ed)(v w:Nat):Bool:=es.any fun e=>e.1==v&&e.2==w
theorem zro{es:List Ed}{v w:Nat}:jlk es v w=true↔(v,w)∈es:=by
 unfold jlk
 rw[List.any_eq_true]
 constructor
 ·rintro⟨⟨a,b⟩,h1,h2⟩
  simp at h2
  rw[←h2.1,←h2.2];exact h1
 ·intro h;exact⟨(v,w),h,by simp⟩
/- What the functions give at the laws' fixed graphs. -/
def zlu(n:Nat)(es:List Ed):List (List Nat):=(List.range n).map fun v=>(List.range n).filter fun w=>jlk es v w
def zsw(n:Nat)(es:List Ed):List (List Nat):=(List.range n).map fun v=>(List.range n).filter fun w=>jlk es w v
theorem zo5{n:Nat}{p:Nat→Bool}:((List.range n).filter p).Pairwise fun a b=>id a<id b:=List.Pairwise.filter _ List.pairwise_lt_range
theorem zlv{n:Nat}{es:List Ed}(h:Gr n es):zat n es=zlu n es:=by
 refine zix (by rw[za7];simp[zlu]) fun v hv=>?_
 rw[za7]at hv
 rw[zlu,za6 hv]
 refine zsv id (zoq hv) zo5 fun w=>?_
 rw[zcc hv,List.mem_filter,List.mem_range,zro]
 exact⟨fun hm=>⟨(h.e _ hm).2,hm⟩,fun hm=>hm.2⟩
theorem zxf{n:Nat}{es:List Ed}(h:Gr n es):za9 n es=zsw n es:=by
 refine zix (by rw[zb9];simp[zsw]) fun v hv=>?_
 rw[zb9]at hv
 rw[zsw,za6 hv]
 refine zsv id (zor hv) zo5 fun w=>?_
 rw[zgu hv,List.mem_filter,List.mem_range,zro]
 exact⟨fun hm=>⟨(h.e _ hm).1,hm⟩,fun hm=>hm.2⟩
theorem jf0{n:Nat}{l:List Nat}(hd:l.Nodup)(hl:∀x∈l,x<n):zet l=(List.range n).filter fun x=>l.contains x:=by
 refine zsv id (zrm (zrl l) ((zdl l).nodup_iff.2 hd)) zo5 fun w=>?_
 rw[(zdl l).mem_iff,List.mem_filter,List.mem_range,List.contains_iff_mem]
 exact⟨fun hm=>⟨hl w hm,hm⟩,fun hm=>hm.2⟩
def zjm(n:Nat)(nx:List (List Nat))(st:Nat):List Nat:=(List.range n).filter fun x=>(zfk nx st).out.contains x
theorem jkj{nx:List (List Nat)}{st:Nat}(hN:GrN nx st):(zfk nx st).out.Nodup:=by
 have:=(zjx hN.n hN.s).c.i.nd
 rw[zsi hN.n hN.s,List.append_nil]at this
 exact this
theorem zxg{nx:List (List Nat)}{st:Nat}(hN:GrN nx st):∀x∈(zfk nx st).out,x<nx.length:=fun x hx=>(zjx hN.n hN.s).c.i.lt x (List.mem_append_left _ hx)
theorem znj{nx:List (List Nat)}{st:Nat}(hN:GrN nx st)(v:Nat):v∈(zfk nx st).out↔RT nx st v:=zom (zjx hN.n hN.s).c (zsi hN.n hN.s) v
theorem zxh{n st:Nat}{es:List Ed}(h:Gr n es)(hs:st<n):zjf n es (st:Int)=zl (zjm n (zat n es) st):=by
 have hN:=h.next hs
 rw[zjf,if_pos ⟨by omega,by omega⟩,zwi,Int.toNat_natCast,←zra,jf0 (n:=n) (jkj hN) (fun x hx=>by have:=zxg hN x hx;rwa[za7]at this)];rfl
theorem zsx{n st:Nat}{es:List Ed}(h:Gr n es)(hs:st<n)(x:Nat):x∈zjm n (zat n es) st↔RT (zat n es) st x:=by
 have hN:=h.next hs
 rw[zjm,List.mem_filter,List.mem_range,List.contains_iff_mem,znj hN]
 refine⟨fun h=>h.2,fun hr=>⟨?_,hr⟩⟩
 have:=zxg hN x ((znj hN x).2 hr)
 rwa[za7]at this
theorem zxi{n:Nat}{es:List Ed}(h:Gr n es):zd4 n es=if(zcd n (zsw n es) n).length<n then([],50)else(zcd n (zsw n es) n,0):=by rw[zd4,zxf h]
theorem jcl{n:Nat}{es:List Ed}(h:Gr n es):jcg n es=if(zd4 n es).2=0 then(dpO n (zlu n es) (zd4 n es).1,0)else([],(zd4 n es).2):=by rw[jcg,zlv h]
theorem zxj{n:Nat}{es:List Ed}(h:Gr n es):zem n es=if(bfS (zlu n es) n).1=0 then([],4)else(zhs (zlu n es) (zsw n es) (bfS (zlu n es) n).2 (bfS (zlu n es) n).1 ((bfS (zlu n es) n).1 - 1),0):=by rw[zem,zlv h,zxf h]
def egG:List Ed:=[(2,0),(0,3),(1,3)]
def egH:List Ed:=[(2,0),(0,3),(1,3),(3,2)]
def egI:List Ed:=[(2,0),(0,3),(1,3),(1,1)]
theorem grG:Gr 4 egG:=⟨by decide,by decide,by decide⟩
theorem grH:Gr 4 egH:=⟨by decide,by decide,by decide⟩
theorem grI:Gr 4 egI:=⟨by decide,by decide,by decide⟩
theorem gr0:Gr 0 []:=⟨by decide,by decide,by decide⟩
theorem jkk:zd4 4 egG=([1,2,0,3],0):=by rw[zxi grG];kernel_rfl
theorem jkl:zd4 4 egH=([],50):=by rw[zxi grH];kernel_rfl
theorem jm5:zd4 0 []=([],0):=by rw[zxi gr0];kernel_rfl
theorem jm6:jcg 4 egG=([1,0,0,2],0):=by rw[jcl grG,jkk];kernel_rfl
theorem jm7:jcg 4 egH=([],50):=by rw[jcl grH,jkl];kernel_rfl
theorem jm8:zem 4 egG=([],4):=by rw[zxj grG];kernel_rfl
theorem jm9:zem 4 egH=([0,3,2],0):=by rw[zxj grH];kernel_rfl
theorem jna:zem 4 egI=([1],0):=by rw[zxj grI];kernel_rfl
theorem jnb:zjf 4 egG 2=[0,2,3]:=by
 have:=zxh grG (st:=2) (by decide)
 rw[zlv grG]at this
 exact this.trans (by kernel_rfl)
theorem jnc:zjf 4 egG 4=[]:=if_neg (by decide)
theorem jnd:ckR 4 egG [2,0,1,3]=0:=by kernel_rfl
theorem jne:ckR 4 egG [0,1,2,3]=6:=by kernel_rfl
theorem jpb(es:List Ed):zal es=zeb (es.map fun e=>((e.1:Int),(e.2:Int))):=by
 rw[zal,zeb,List.flatMap_map,List.length_map];rfl
theorem jnf:zxz 4 (egG.map fun e=>((e.1:Int),(e.2:Int)))=true:=by kernel_rfl
theorem jng:zxz 3 (egG.map fun e=>((e.1:Int),(e.2:Int)))=false:=by kernel_rfl
theorem zrp{n:Nat}{es:List Ed}(h:Gr n es):CmpI n (zat n es) (jfa n es):=jm2 h.two.ni
def jot(n:Nat)(nx:List (List Nat))(L:List (List Nat)):Bool:=L.all fun r=>r.all fun x=>(List.range n).all fun y=>decide (y∈r)==((zfk nx x).out.contains y&&(zfk nx y).out.contains x)
theorem jf1{n:Nat}{es:List Ed}(h:Gr n es){L:List (List Nat)}(hlt:∀r∈L,∀x∈r,x<n)(hB:jot n (zat n es) L=true):∀r∈L,∀x∈r,∀y,y∈r↔(RT (zat n es) x y∧RT (zat n es) y x):=fun r hr x hx y=>by
 have hxn:=hlt r hr x hx
 have key:∀y,y<n→(y∈r↔(RT (zat n es) x y∧RT (zat n es) y x)):=fun y hy=>by
  simp only[jot,List.all_eq_true,List.mem_range,beq_iff_eq]at hB
  have:=hB r hr x hx y hy
  rw[←znj (h.next hxn),←znj (h.next hy)]
  have k:=decide_eq_true_eq (p:=y∈r)
  rw[this,Bool.and_eq_true,List.contains_iff_mem,List.contains_iff_mem]at k
  exact(iff_of_eq k).symm
 by_cases hy:y<n
 ·exact key y hy
 ·refine⟨fun hm=>absurd (hlt r hr y hm) hy,fun hm=>?_⟩
  have:=zxg (h.next hxn) y ((znj (h.next hxn) y).2 hm.1)
  rw[za7]at this
  exact absurd this hy
theorem jnh:jfa 4 egH=[[0,2,3],[1]]:=by
 refine zrn (zrp grH) (L':=[[0,2,3],[1]]) ⟨by decide,by decide,fun w=>?_,jf1 grH (by decide) (by rw[zlv grH];kernel_rfl),by decide,by decide⟩ fun x y _ _=>Iff.rfl
 simp;omega
/- The laws' examples. -/
theorem jni:(((((type_of% @zmz)∧(type_of% @ze4))∧((type_of% @ze5)∧((type_of% @zmy)∧(type_of% @zjt))))∧(((type_of% @zju)∧((type_of% @zmu)∧(type_of% @zmx)))∧((type_of% @ze3)∧((type_of% @zk9)∧(type_of% @zf5)))))∧((((type_of% @zi1)∧(type_of% @zjv))∧((type_of% @zmw)∧((type_of% @zdj)∧(type_of% @zdv))))∧(((type_of% @zyu)∧((type_of% @zlb)∧(type_of% @zys)))∧((type_of% @zd2)∧((type_of% @zld)∧(type_of% @zr9)))))):=⟨⟨⟨⟨@zmz,@ze4⟩,⟨@ze5,⟨@zmy,@zjt⟩⟩⟩,⟨⟨@zju,⟨@zmu,@zmx⟩⟩,⟨@ze3,⟨@zk9,@zf5⟩⟩⟩⟩,⟨⟨⟨@zi1,@zjv⟩,⟨@zmw,⟨@zdj,@zdv⟩⟩⟩,⟨⟨@zyu,⟨@zlb,@zys⟩⟩,⟨@zd2,⟨@zld,@zr9⟩⟩⟩⟩⟩
theorem zlw(l:List Nat)(e:Int)(hl:l.length≤1000000):zaq Try.prog 14 [lsD (l,e),lsD (l,e)] (.d (oD true)):=by
 have:=jfx l l e e hl hl
 rwa[decide_eq_true rfl]at this
theorem zxk{n:Nat}{es:List Ed}(h:Gr n es){r:List Nat × Int}(hr:zd4 n es=r):zaq Try.prog 15 [grD n es] (.d (lsD r)):=hr▸zh7 n es h
theorem zxl{n:Nat}{es:List Ed}(h:Gr n es){r:List Nat × Int}(hr:zem n es=r):zaq Try.prog 17 [grD n es] (.d (lsD r)):=hr▸zh8 n es h
theorem jcm{n:Nat}{es:List Ed}(h:Gr n es){r:List Nat × Int}(hr:jcg n es=r):zaq Try.prog 19 [grD n es] (.d (lsD r)):=hr▸jaa n es h
theorem zxm{n:Int}{es:List Ed}(hl:es.length≤1000000){b:Bool}(hb:zxz n (es.map fun e=>((e.1:Int),(e.2:Int)))=b):zaq Try.prog 12 [iD n,zal es] (.d (oD b)):=by
 have:=jfu n (es.map fun e=>((e.1:Int),(e.2:Int))) (by rw[List.length_map];exact hl)
 rwa[←jpb,hb]at this
theorem i50:((50:Int) !=50)=false:=rfl
theorem i44:((4:Int) !=4)=false:=rfl
theorem i00:((0:Int)==0)=true:=rfl
theorem i66:((6:Int)==6)=true:=rfl
theorem zcv{p q:Prop}(hq:q)(h:p=q:=by
 conv=>lhs;simp -dsimp -implicitDefEqProofs (disch:=first|assumption|omega|(simp only[r_z]<;>omega)|decide) only[r_r,↓reduceIte,Nat.reduceEqDiff,Nat.reduceAdd,D.fix,Int.reduceToNat,Nat.reduceMul,Nat.reduceBNe,Nat.reduceBEq,grD,i50,i44,i00,i66,jni]):p:=h.mpr hq
theorem jnj{m:List Nat}{τ τ':Fr}{H H':zaa}(h2:H=H')(h:zgm τ τ':=by
 repeat (first|exact zah _|refine zac ?_ (by first|rfl|(simp[r_f];done)|simp[r_f, *]))):Rt m τ H τ' H':=Rt.end h h2
theorem jnk{p:Prop}(h:p:=by
 first|rfl|(simp only[r_g,Nat.reduceAdd,↓reduceIte,Nat.reduceEqDiff,grD,i50,i44,i00,i66];first|done|rfl)):p:=h
theorem jll{p:Prop}(h:p:=by
 simp (disch:=first|assumption|omega|(simp only[r_z]<;>omega)|decide) only[r_c,Nat.reduceAdd,D.fix,↓reduceIte,Nat.reduceEqDiff,grD,i50,i44,i00,i66,lsD]):p:=h
theorem jou{p:Prop}(h:p:=by
 simp (disch:=first|assumption|omega|(simp only[r_z]<;>omega)|decide) only[r_c,Nat.reduceAdd,D.fix,↓reduceIte,Nat.reduceEqDiff,grD,i50,i44,i00,i66,zal,intsD]):p:=h
theorem zsy:zaq Try.prog 10 [] (.d (oD true)):=by
 have hO1:zaq Try.prog 15 [grD 4 egG] (.d (.agg [.fs [iD 1,iD 2,iD 0,iD 3] 4,iD 0])):=zxk grG jkk
 have hD1:zaq Try.prog 19 [grD 4 egG] (.d (.agg [.fs [iD 1,iD 0,iD 0,iD 2] 4,iD 0])):=jcm grG jm6
 have hY1:zaq Try.prog 17 [grD 4 egG] (.d (.agg [.fs [] 0,iD 4])):=zxl grG jm8
 have hO2:zaq Try.prog 15 [grD 4 egH] (.d (.agg [.fs [] 0,iD 50])):=zxk grH jkl
 have hD2:zaq Try.prog 19 [grD 4 egH] (.d (.agg [.fs [] 0,iD 50])):=jcm grH jm7
 have hY2:zaq Try.prog 17 [grD 4 egH] (.d (.agg [.fs [iD 0,iD 3,iD 2] 3,iD 0])):=zxl grH jm9
 have hY3:zaq Try.prog 17 [grD 4 egI] (.d (.agg [.fs [iD 1] 1,iD 0])):=zxl grI jna
 have hO3:zaq Try.prog 15 [grD 0 []] (.d (.agg [.fs [] 0,iD 0])):=zxk gr0 jm5
 have hA1:zaq Try.prog 14 [.agg [.fs [iD 1,iD 2,iD 0,iD 3] 4,iD 0],.agg [.fs [iD 1,iD 2,iD 0,iD 3] 4,iD 0]] (.d (oD true)):=zlw [1,2,0,3] 0 (by decide)
 have hA2:zaq Try.prog 14 [.agg [.fs [iD 1,iD 0,iD 0,iD 2] 4,iD 0],.agg [.fs [iD 1,iD 0,iD 0,iD 2] 4,iD 0]] (.d (oD true)):=zlw [1,0,0,2] 0 (by decide)
 have hA3:zaq Try.prog 14 [.agg [.fs [iD 0,iD 3,iD 2] 3,iD 0],.agg [.fs [iD 0,iD 3,iD 2] 3,iD 0]] (.d (oD true)):=zlw [0,3,2] 0 (by decide)
 have hA4:zaq Try.prog 14 [.agg [.fs [iD 1] 1,iD 0],.agg [.fs [iD 1] 1,iD 0]] (.d (oD true)):=zlw [1] 0 (by decide)
 have hR1:zaq Try.prog 24 [iD 4,zal egG,iD 2] (.d (.fs [iD 0,iD 2,iD 3] 3)):=by have:=zox 4 egG grG 2;rw[jnb]at this;exact this
 have hR2:zaq Try.prog 24 [iD 4,zal egG,iD 4] (.d (.fs [] 0)):=by have:=zox 4 egG grG 4;rw[jnc]at this;exact this
 have hS1:zaq Try.prog 23 [.fs [iD 0,iD 2,iD 3] 3,.fs [iD 0,iD 2,iD 3] 3] (.d (oD true)):=by have:=zw7 [0,2,3] [0,2,3] (by decide) (by decide);exact this
 have hC1:zaq Try.prog 27 [iD 4,zal egH] (.d (.fs [.fs [iD 0,iD 2,iD 3] 3,.fs [iD 1] 1] 2)):=by have:=zo1 4 egH grH (by decide);rw[jnh]at this;exact this
 have hS2:zaq Try.prog 26 [.fs [.fs [iD 0,iD 2,iD 3] 3,.fs [iD 1] 1] 2,.fs [.fs [iD 0,iD 2,iD 3] 3,.fs [iD 1] 1] 2] (.d (oD true)):=by have:=zw9 [[0,2,3],[1]] [[0,2,3],[1]] (by decide) (by decide) (by decide) (by decide);rw[decide_eq_true rfl]at this;exact this
 have hKa:zaq Try.prog 21 [iD 4,zal egG,.fs [iD 2,iD 0,iD 1,iD 3] 4] (.d (iD 0)):=by have:=zo2 4 egG [2,0,1,3] grG (by decide);rw[jnd]at this;exact this
 have hKb:zaq Try.prog 21 [iD 4,zal egG,.fs [iD 0,iD 1,iD 2,iD 3] 4] (.d (iD 6)):=by have:=zo2 4 egG [0,1,2,3] grG (by decide);rw[jne]at this;exact this
 refine zay (fn:=Try.f10) (by kernel_rfl) Try.func10 rfl (Nat.le_of_ble_eq_true rfl) fun c hc hp=>?_
 refine zau (τ':=frL []) (zah _) ?_
 refine zad hp zao hc rfl fun K1 hK1=>?_
 simp -dsimp -implicitDefEqProofs (disch:=first|assumption|omega|(simp only[r_z]<;>omega)|decide) only[r_r,↓reduceIte,Nat.reduceEqDiff,Nat.reduceAdd,D.fix,Int.reduceToNat,Nat.reduceMul,Nat.reduceBNe,Nat.reduceBEq,grD,i50,i44,i00,i66]
 refine hK1 _ _ ?_
 refine szq hp (fun _ hZ=>zcv hZ) ?_
 refine zbc hp (τ':=frL [(0,.d (oD false)),(1,.d (.fp [iD 4,zal egG] 0))]) (H':=[]) ?_ ?_
 ·refine Rt.trans (Rt.fz (id:=0) (l:=(egG.flatMap edC)) rfl) ?_
  refine Rt.trans (Rt.heap (H':=[.dead,.cells [.d (iD 4),.d (zal egG)]]) (by simp only[r_g,Nat.reduceAdd,↓reduceIte,Nat.reduceEqDiff,grD,i50,i44,i00,i66];first|done|rfl)) ?_
  refine Rt.trans (Rt.fz (id:=1) (l:=[iD 4,zal egG]) rfl) ?_
  refine Rt.trans (Rt.gc (keep:=[]) (by decide) (by decide) (by simp[fzH,gcH])) ?_
  refine jnj ?_
  exact jnk
 refine zad hp zao hc rfl fun K3 hK3=>?_
 refine zcv ?_
 refine zbb (zxe 4 egG 3 2 (by decide)) rfl ?_
 refine zcv ?_
 refine hK3 _ _ ?_
 refine zbc hp (τ':=frL [(0,.d (oD false)),(1,.d (.fp [iD 4,zal egG] 0)),(2,.d (.fp [iD 4,zal egH] 0))]) (H':=[]) ?_ ?_
 ·refine Rt.trans (Rt.fz (id:=0) (l:=[iD 4,zal egH]) rfl) ?_
  refine Rt.trans (Rt.gc (keep:=[]) (by decide) (by decide) (by simp[fzH,gcH])) ?_
  refine jnj ?_
  exact jnk
 refine zad hp zao hc rfl fun K4 hK4=>?_
 refine zcv ?_
 refine zbb (zxe 4 egG 1 1 (by decide)) rfl ?_
 refine zcv ?_
 refine hK4 _ _ ?_
 refine zab fun K5 hK5=>?_
 refine zbc hp (τ':=frL [(0,.d (oD false)),(1,.d (.fp [iD 4,zal egG] 0)),(2,.d (.fp [iD 4,zal egH] 0)),(3,.d (.fp [iD 4,zal egI] 0))]) (H':=[]) ?_ ?_
 ·refine Rt.trans (Rt.fz (id:=0) (l:=[iD 4,zal egI]) rfl) ?_
  refine Rt.trans (Rt.gc (keep:=[]) (by decide) (by decide) (by simp[fzH,gcH])) ?_
  refine jnj ?_
  exact jnk
 refine zad hp zao hc rfl fun K6 hK6=>?_
 refine zcv ?_
 refine zbb (hO1) rfl ?_
 refine zcv ?_
 refine zfs (hA1) ?_ ?_
 ·exact jll
 refine zcv ?_
 refine zbb (hD1) rfl ?_
 refine zcv ?_
 refine zfs (hA2) ?_ ?_
 ·exact jll
 refine zcv ?_
 refine zbb (hR1) rfl ?_
 refine zcv ?_
 refine zfs (hS1) ?_ ?_
 ·simp (disch:=first|assumption|omega|(simp only[r_z]<;>omega)|decide) only[r_c,Nat.reduceAdd,D.fix,↓reduceIte,Nat.reduceEqDiff,grD,i50,i44,i00,i66,intsD]
 refine zcv ?_
 refine zbb (hY1) rfl ?_
 refine zcv ?_
 refine hK6 _ _ ?_
 refine szf ?_
 refine zak (hK5 _ _ ?_)
 refine zab fun K7 hK7=>?_
 refine zad hp zao hc rfl fun K8 hK8=>?_
 refine zcv ?_
 refine zbb (hO2) rfl ?_
 refine zcv ?_
 refine zbb (hD2) rfl ?_
 refine zcv ?_
 refine zbb (hY2) rfl ?_
 refine zcv ?_
 refine zfs (hA3) ?_ ?_
 ·exact jll
 refine zcv ?_
 refine zbb (hY3) rfl ?_
 refine zcv ?_
 refine zfs (hA4) ?_ ?_
 ·exact jll
 refine zcv ?_
 refine zbb (hC1) rfl ?_
 refine zcv ?_
 refine zfs (hS2) ?_ ?_
 ·simp (disch:=first|assumption|omega|(simp only[r_z]<;>omega)|decide) only[r_c,Nat.reduceAdd,D.fix,↓reduceIte,Nat.reduceEqDiff,grD,i50,i44,i00,i66,zai]
 refine zcv ?_
 refine hK8 _ _ ?_
 refine szf ?_
 refine zak (hK7 _ _ ?_)
 refine zad hp zao hc rfl fun K9 hK9=>?_
 refine zcv ?_
 refine zbb (zxm (by decide) jnf) rfl ?_
 refine zcv ?_
 refine zbb (zxm (by decide) jng) rfl ?_
 refine zcv ?_
 refine zfs (hKa) ?_ ?_
 ·exact jou
 refine zcv ?_
 refine zfs (hKb) ?_ ?_
 ·exact jou
 refine zcv ?_
 refine zbb (hO3) rfl ?_
 refine zcv ?_
 refine zbb (hR2) rfl ?_
 refine zcv ?_
 refine hK9 _ _ ?_
 refine zar ?_
 show closeA _ _=_
 simp (disch:=first|assumption|omega|(simp only[r_z]<;>omega)|decide) only[r_c,Nat.reduceAdd,D.fix,↓reduceIte,Nat.reduceEqDiff,grD,i50,i44,i00,i66]
 rfl
end Go.Proofs.Ytfolbdkbpmgjgaa
