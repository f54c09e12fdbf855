/- The laws' wrapped calls, With. -/
import Derived.Test.YtfolbdkbpmgjgaaQr
import Derived.Test.YtfolbdkbpmgjgaaJh
import Derived.Test.YtfolbdkbpmgjgaaJg
set_option linter.unusedVariables false
set_option linter.unusedSimpArgs false
set_option maxRecDepth 100000
set_option maxHeartbeats 4000000
namespace Go.Proofs.Ytfolbdkbpmgjgaa
open Go Go.RowKit
theorem jml:(((((type_of% @zid)∧(type_of% @zie))∧((type_of% @znp)∧((type_of% @zkc)∧(type_of% @zlt))))∧(((type_of% @zea)∧((type_of% @zeb)∧(type_of% @zfg)))∧((type_of% @znk)∧((type_of% @znl)∧(type_of% @zs1)))))∧((((type_of% @zkd)∧((type_of% @zec)∧(type_of% @zfh)))∧((type_of% @zno)∧((type_of% @zs2)∧(type_of% @zs5))))∧(((type_of% @zho)∧((type_of% @zhp)∧(type_of% @zs4)))∧((type_of% @zs3)∧((type_of% @zhn)∧(type_of% @zlu)))))):=⟨⟨⟨⟨@zid,@zie⟩,⟨@znp,⟨@zkc,@zlt⟩⟩⟩,⟨⟨@zea,⟨@zeb,@zfg⟩⟩,⟨@znk,⟨@znl,@zs1⟩⟩⟩⟩,⟨⟨⟨@zkd,⟨@zec,@zfh⟩⟩,⟨@zno,⟨@zs2,@zs5⟩⟩⟩,⟨⟨@zho,⟨@zhp,@zs4⟩⟩,⟨@zs3,⟨@zhn,@zlu⟩⟩⟩⟩⟩
theorem zif{p q:Prop}(hq:q)(h:p=q:=by
 conv=>lhs;simp -dsimp -implicitDefEqProofs (disch:=first|assumption|omega|(simp only[r_z]<;>omega)|decide) only[r_r,↓reduceIte,Nat.reduceEqDiff,Nat.reduceAdd,D.fix,Int.reduceToNat,Nat.reduceMul,Nat.reduceBNe,Nat.reduceBEq,grD,lsD,zag,jml]):p:=h.mpr hq
theorem jhn{p q:Prop}(hq:q)(h:p=q:=by
 conv=>lhs;simp -dsimp -implicitDefEqProofs (disch:=first|assumption|omega|(simp only[r_z]<;>omega)|decide) only[r_r,↓reduceIte,Nat.reduceEqDiff,Nat.reduceAdd,D.fix,Int.reduceToNat,Nat.reduceMul,Nat.reduceBNe,Nat.reduceBEq,grD,lsD,zag,zie,zz9]):p:=h.mpr hq
theorem jp4{p q:Prop}(hq:q)(h:p=q:=by
 conv=>lhs;simp (disch:=first|assumption|omega|(simp only[r_z]<;>omega)|decide) only[r_c,Nat.reduceAdd,D.fix,↓reduceIte,Nat.reduceEqDiff,grD,lsD,zag]):p:=h.mpr hq
theorem zsc(n:Nat)(es:List Ed)(h:Gr n es):zas Try.prog 15 [grD n es] (.d (lsD (zdv n es))):=by
 have hoc:=zxz n es h
 rw[zzf]at hoc
 refine zau (fn:=Try.f15) (by kernel_rfl) Try.func15 rfl (Nat.le_of_ble_eq_true rfl) fun c hc hp=>?_
 refine zaw (τ':=frL [(0,.d (grD n es))]) (by repeat (first|exact zal _|refine zaf ?_ (by first|rfl|(simp[r_f];done)|simp[r_f, *]))) ?_
 refine szq hp (fun _ hZ=>zif hZ) ?_
 refine zaj hp zam hc rfl fun K2 hK2=>?_
 refine zif ?_
 refine zbd (hoc) rfl ?_
 refine zif ?_
 refine hK2 _ _ ?_
 refine szq hp (fun _ hZ=>zif hZ) ?_
 refine zaq ?_
 try dsimp only[zcq,za7]
 refine zbm rfl ?_
 refine jhn ?_
 show closeA _ _=_
 refine jp4 ?_
 simp only[ze2]
theorem zsd(n:Nat)(es:List Ed)(h:Gr n es):zas Try.prog 17 [grD n es] (.d (lsD (zh9 n es))):=by
 have hoc:=jgk n es h
 rw[zzf]at hoc
 refine zau (fn:=Try.f17) (by kernel_rfl) Try.func17 rfl (Nat.le_of_ble_eq_true rfl) fun c hc hp=>?_
 refine zaw (τ':=frL [(0,.d (grD n es))]) (by repeat (first|exact zal _|refine zaf ?_ (by first|rfl|(simp[r_f];done)|simp[r_f, *]))) ?_
 refine szq hp (fun _ hZ=>zif hZ) ?_
 refine zaj hp zam hc rfl fun K2 hK2=>?_
 refine zif ?_
 refine zbd (hoc) rfl ?_
 refine zif ?_
 refine hK2 _ _ ?_
 refine szq hp (fun _ hZ=>zif hZ) ?_
 refine zaq ?_
 try dsimp only[zcq,za7]
 refine zbm rfl ?_
 refine jhn ?_
 show closeA _ _=_
 refine jp4 ?_
 simp only[ze2]
theorem zse(n:Nat)(es:List Ed)(h:Gr n es):zas Try.prog 19 [grD n es] (.d (lsD (zoe n es))):=by
 have hoc:=jhe n es h
 rw[zzf]at hoc
 refine zau (fn:=Try.f19) (by kernel_rfl) Try.func19 rfl (Nat.le_of_ble_eq_true rfl) fun c hc hp=>?_
 refine zaw (τ':=frL [(0,.d (grD n es))]) (by repeat (first|exact zal _|refine zaf ?_ (by first|rfl|(simp[r_f];done)|simp[r_f, *]))) ?_
 refine szq hp (fun _ hZ=>zif hZ) ?_
 refine zaj hp zam hc rfl fun K2 hK2=>?_
 refine zif ?_
 refine zbd (hoc) rfl ?_
 refine zif ?_
 refine hK2 _ _ ?_
 refine szq hp (fun _ hZ=>zif hZ) ?_
 refine zaq ?_
 try dsimp only[zcq,za7]
 refine zbm rfl ?_
 refine jhn ?_
 show closeA _ _=_
 refine jp4 ?_
 simp only[ze2]
theorem jp5{m:Nat}:zdq 2 (zo5 [(9,2),(5,1),(2,0)] [{on:=5,ground:=Ground.data},{on:=9,ground:=Ground.data},{on:=5,ground:=Ground.chain}]) (AV.os 2 3 0 m)=true:=rfl
theorem zyj{H:zaa}:killAll (List.filterMap (fun p:Nat × Nat=>if p.fst=3 then some (5,p.snd)else none) [(3,2)]++[(3,2)]) H=(H.set 2 .dead).set 2 .dead:=rfl
theorem jee(l:List Ed):(l.flatMap edC).map D.fix=l.flatMap edC:=by rw[List.map_flatMap];rfl
theorem zyk(es:List Ed)(v w:Nat):es.flatMap edC++[iD (v:Int),iD (w:Int)]=(es++[(v,w)]).flatMap edC:=by
 rw[List.flatMap_append];rfl
theorem jmm{p q:Prop}(hq:q)(h:p=q:=by
 conv=>lhs;simp -dsimp -implicitDefEqProofs (disch:=first|assumption|omega|(simp only[r_z,zac]<;>omega)|decide) only[r_r,↓reduceIte,Nat.reduceEqDiff,Nat.reduceAdd,D.fix,Int.reduceToNat,Nat.reduceMul,Nat.reduceBNe,Nat.reduceBEq,grD,zag,jp5,zyj,jml]):p:=h.mpr hq
theorem jef(n:Nat)(es:List Ed)(v w:Nat)(hl:es.length≤1000):zas Try.prog 32 [grD n es,iD (v:Int),iD (w:Int)] (.d (grD n (es++[(v,w)]))):=by
 refine zau (fn:=Try.f32) (by kernel_rfl) Try.func32 rfl (Nat.le_of_ble_eq_true rfl) fun c hc hp=>?_
 refine zaw (τ':=frL [(0,.d (grD n es)),(1,.d (iD (v:Int))),(2,.d (iD (w:Int)))]) (by repeat (first|exact zal _|refine zaf ?_ (by first|rfl|(simp[r_f,zac];done)|simp[r_f,zac, *]))) ?_
 refine szq hp (fun _ hZ=>jmm hZ) ?_
 refine zbj zam hc mixed rfl (q:=4) (by kernel_rfl) (by kernel_rfl) fun K2 hK2=>?_
 refine jmm ?_
 refine hK2 _ _ ?_
 refine zaq ?_
 try dsimp only[zcq,za7]
 refine zbm rfl ?_
 simp -dsimp -implicitDefEqProofs (disch:=first|assumption|omega|(simp only[r_z,zac]<;>omega)|decide) only[r_r,↓reduceIte,Nat.reduceEqDiff,Nat.reduceAdd,D.fix,Int.reduceToNat,Nat.reduceMul,Nat.reduceBNe,Nat.reduceBEq,grD,zag,jp5,zyj,zid,znn]
 show closeA _ _=_
 simp (disch:=first|assumption|omega|(simp only[r_z,zac]<;>omega)|decide) only[r_c,Nat.reduceAdd,D.fix,↓reduceIte,Nat.reduceEqDiff,grD,zag,jp5,zyj]
 have e:es.flatMap edC++[D.val (.int .i64 (v:Int))]++[D.val (.int .i64 (w:Int))]=(es++[(v,w)]).flatMap edC:=by rw[List.append_assoc];exact zyk es v w
 rw[e,jee,List.length_append];rfl
theorem zj1{l:List Ed}{k:Nat}(h:k<l.length):(l.flatMap edC)[k*2]? =some (iD (((nth l k).1:Nat):Int)):=by
 exact((zb7 (zd1 h)).2 0 (by decide)).symm
theorem zj2{l:List Ed}{k:Nat}(h:k<l.length):(l.flatMap edC)[k*2+1]? =some (iD (((nth l k).2:Nat):Int)):=by
 exact((zb7 (zd1 h)).2 1 (by decide)).symm
def joi(es:List Ed)(v w:Nat):Bool:=es.any fun e=>e.1==v&&e.2==w
theorem zsf{es:List Ed}{v w:Nat}:joi es v w=true↔(v,w)∈es:=by
 unfold joi
 rw[List.any_eq_true]
 constructor
 ·rintro⟨⟨a,b⟩,h1,h2⟩
  simp at h2
  rw[←h2.1,←h2.2];exact h1
 ·intro h;exact⟨(v,w),h,by simp⟩
/- What the functions give at the laws' fixed graphs. -/
def zmh(n:Nat)(es:List Ed):List (List Nat):=(List.range n).map fun v=>(List.range n).filter fun w=>joi es v w
def zts(n:Nat)(es:List Ed):List (List Nat):=(List.range n).map fun v=>(List.range n).filter fun w=>joi es w v
theorem zpw{n:Nat}{p:Nat→Bool}:((List.range n).filter p).Pairwise fun a b=>id a<id b:=List.Pairwise.filter _ List.pairwise_lt_range
theorem zmi{n:Nat}{es:List Ed}(h:Gr n es):zav n es=zmh n es:=by
 refine zff (by rw[zbb];simp[zmh]) fun v hv=>?_
 rw[zbb]at hv
 rw[zmh,za8 hv]
 refine ztr id (zl5 hv) zpw fun w=>?_
 rw[zcn hv,List.mem_filter,List.mem_range,zsf]
 exact⟨fun hm=>⟨(h.e _ hm).2,hm⟩,fun hm=>hm.2⟩
theorem zyl{n:Nat}{es:List Ed}(h:Gr n es):zay n es=zts n es:=by
 refine zff (by rw[zcj];simp[zts]) fun v hv=>?_
 rw[zcj]at hv
 rw[zts,za8 hv]
 refine ztr id (zpk hv) zpw fun w=>?_
 rw[zc6 hv,List.mem_filter,List.mem_range,zsf]
 exact⟨fun hm=>⟨(h.e _ hm).1,hm⟩,fun hm=>hm.2⟩
theorem jho{n:Nat}{l:List Nat}(hd:l.Nodup)(hl:∀x∈l,x<n):ze4 l=(List.range n).filter fun x=>l.contains x:=by
 refine ztr id (zsa (zr9 l) ((zdu l).nodup_iff.2 hd)) zpw fun w=>?_
 rw[(zdu l).mem_iff,List.mem_filter,List.mem_range,List.contains_iff_mem]
 exact⟨fun hm=>⟨hl w hm,hm⟩,fun hm=>hm.2⟩
def zf9(n:Nat)(nx:List (List Nat))(st:Nat):List Nat:=(List.range n).filter fun x=>(zew nx st).out.contains x
theorem jmn{nx:List (List Nat)}{st:Nat}(hN:GrN nx st):(zew nx st).out.Nodup:=by
 have:=(zg6 hN.n hN.s).c.i.nd
 rw[zn2 hN.n hN.s,List.append_nil]at this
 exact this
theorem zym{nx:List (List Nat)}{st:Nat}(hN:GrN nx st):∀x∈(zew nx st).out,x<nx.length:=fun x hx=>(zg6 hN.n hN.s).c.i.lt x (List.mem_append_left _ hx)
theorem zj3{nx:List (List Nat)}{st:Nat}(hN:GrN nx st)(v:Nat):v∈(zew nx st).out↔RT nx st v:=zph (zg6 hN.n hN.s).c (zn2 hN.n hN.s) v
theorem zmj{n st:Nat}{es:List Ed}(h:Gr n es)(hs:st<n):ze1 n es (st:Int)=zl (zf9 n (zav n es) st):=by
 have hN:=h.next hs
 rw[ze1,if_pos ⟨by omega,by omega⟩,zxl,Int.toNat_natCast,←zry,jho (n:=n) (jmn hN) (fun x hx=>by have:=zym hN x hx;rwa[zbb]at this)];rfl
theorem zk5{n st:Nat}{es:List Ed}(h:Gr n es)(hs:st<n)(x:Nat):x∈zf9 n (zav n es) st↔RT (zav n es) st x:=by
 have hN:=h.next hs
 rw[zf9,List.mem_filter,List.mem_range,List.contains_iff_mem,zj3 hN]
 refine⟨fun h=>h.2,fun hr=>⟨?_,hr⟩⟩
 have:=zym hN x ((zj3 hN x).2 hr)
 rwa[zbb]at this
theorem zyn{n:Nat}{es:List Ed}(h:Gr n es):zdv n es=if(zcg n (zts n es) n).length<n then([],50)else(zcg n (zts n es) n,0):=by rw[zdv,zyl h]
theorem jeg{n:Nat}{es:List Ed}(h:Gr n es):zoe n es=if(zdv n es).2=0 then(dpO n (zmh n es) (zdv n es).1,0)else([],(zdv n es).2):=by rw[zoe,zmi h]
theorem zyo{n:Nat}{es:List Ed}(h:Gr n es):zh9 n es=if(bfS (zmh n es) n).1=0 then([],4)else(zgp (zmh n es) (zts n es) (bfS (zmh n es) n).2 (bfS (zmh n es) n).1 ((bfS (zmh n es) n).1 - 1),0):=by rw[zh9,zmi h,zyl h]
def egG:List Ed:=[(2,0),(0,3),(1,3)]
def egH:List Ed:=[(2,0),(0,3),(1,3),(3,2)]
def egI:List Ed:=[(2,0),(0,3),(1,3),(1,1)]
theorem grG:Gr 4 egG:=⟨by decide,by decide,by decide⟩
theorem grH:Gr 4 egH:=⟨by decide,by decide,by decide⟩
theorem grI:Gr 4 egI:=⟨by decide,by decide,by decide⟩
theorem gr0:Gr 0 []:=⟨by decide,by decide,by decide⟩
theorem jmo:zdv 4 egG=([1,2,0,3],0):=by rw[zyn grG];kernel_rfl
theorem jmp:zdv 4 egH=([],50):=by rw[zyn grH];kernel_rfl
theorem jp6:zdv 0 []=([],0):=by rw[zyn gr0];kernel_rfl
theorem jp7:zoe 4 egG=([1,0,0,2],0):=by rw[jeg grG,jmo];kernel_rfl
theorem jp8:zoe 4 egH=([],50):=by rw[jeg grH,jmp];kernel_rfl
theorem jp9:zh9 4 egG=([],4):=by rw[zyo grG];kernel_rfl
theorem jqa:zh9 4 egH=([0,3,2],0):=by rw[zyo grH];kernel_rfl
theorem jqb:zh9 4 egI=([1],0):=by rw[zyo grI];kernel_rfl
theorem jqc:ze1 4 egG 2=[0,2,3]:=by
 have:=zmj grG (st:=2) (by decide)
 rw[zmi grG]at this
 exact this.trans (by kernel_rfl)
theorem jqd:ze1 4 egG 4=[]:=if_neg (by decide)
theorem jqe:ckR 4 egG [2,0,1,3]=0:=by kernel_rfl
theorem jqf:ckR 4 egG [0,1,2,3]=6:=by kernel_rfl
theorem jsq(es:List Ed):zag es=zbo (es.map fun e=>((e.1:Int),(e.2:Int))):=by
 rw[zag,zbo,List.flatMap_map,List.length_map];rfl
theorem jqg:ztq 4 (egG.map fun e=>((e.1:Int),(e.2:Int)))=true:=by kernel_rfl
theorem jqh:ztq 3 (egG.map fun e=>((e.1:Int),(e.2:Int)))=false:=by kernel_rfl
theorem zyp{n:Nat}{es:List Ed}(h:Gr n es):CmpI n (zav n es) (jio n es):=jp3 h.two.ni
def jr4(n:Nat)(nx:List (List Nat))(L:List (List Nat)):Bool:=L.all fun r=>r.all fun x=>(List.range n).all fun y=>decide (y∈r)==((zew nx x).out.contains y&&(zew nx y).out.contains x)
theorem jhp{n:Nat}{es:List Ed}(h:Gr n es){L:List (List Nat)}(hlt:∀r∈L,∀x∈r,x<n)(hB:jr4 n (zav n es) L=true):∀r∈L,∀x∈r,∀y,y∈r↔(RT (zav n es) x y∧RT (zav n es) y x):=fun r hr x hx y=>by
 have hxn:=hlt r hr x hx
 have key:∀y,y<n→(y∈r↔(RT (zav n es) x y∧RT (zav n es) y x)):=fun y hy=>by
  simp only[jr4,List.all_eq_true,List.mem_range,beq_iff_eq]at hB
  have:=hB r hr x hx y hy
  rw[←zj3 (h.next hxn),←zj3 (h.next hy)]
  have k:=decide_eq_true_eq (p:=y∈r)
  rw[this,Bool.and_eq_true,List.contains_iff_mem,List.contains_iff_mem]at k
  exact(iff_of_eq k).symm
 by_cases hy:y<n
 ·exact key y hy
 ·refine⟨fun hm=>absurd (hlt r hr y hm) hy,fun hm=>?_⟩
  have:=zym (h.next hxn) y ((zj3 (h.next hxn) y).2 hm.1)
  rw[zbb]at this
  exact absurd this hy
theorem jqi:jio 4 egH=[[0,2,3],[1]]:=by
 refine zsb (zyp grH) (L':=[[0,2,3],[1]]) ⟨by decide,by decide,fun w=>?_,jhp grH (by decide) (by rw[zmi grH];kernel_rfl),by decide,by decide⟩ fun x y _ _=>Iff.rfl
 simp;omega
/- The laws' examples. -/
theorem jqj:(((((type_of% @zs5)∧(type_of% @zho))∧((type_of% @zhp)∧((type_of% @zs4)∧(type_of% @znk))))∧(((type_of% @znl)∧((type_of% @zs1)∧(type_of% @zs3)))∧((type_of% @zhn)∧((type_of% @zlu)∧(type_of% @zid)))))∧((((type_of% @znn)∧(type_of% @zno))∧((type_of% @zs2)∧((type_of% @zb8)∧(type_of% @zcl))))∧(((type_of% @zkd)∧((type_of% @zec)∧(type_of% @zkc)))∧((type_of% @zfg)∧((type_of% @zwk)∧(type_of% @znq)))))):=⟨⟨⟨⟨@zs5,@zho⟩,⟨@zhp,⟨@zs4,@znk⟩⟩⟩,⟨⟨@znl,⟨@zs1,@zs3⟩⟩,⟨@zhn,⟨@zlu,@zid⟩⟩⟩⟩,⟨⟨⟨@znn,@zno⟩,⟨@zs2,⟨@zb8,@zcl⟩⟩⟩,⟨⟨@zkd,⟨@zec,@zkc⟩⟩,⟨@zfg,⟨@zwk,@znq⟩⟩⟩⟩⟩
theorem zgn(l:List Nat)(e:Int)(hl:l.length≤1000000):zas Try.prog 14 [lsD (l,e),lsD (l,e)] (.d (oD true)):=by
 have:=jhl l l e e hl hl
 rwa[decide_eq_true rfl]at this
theorem zyq{n:Nat}{es:List Ed}(h:Gr n es){r:List Nat × Int}(hr:zdv n es=r):zas Try.prog 15 [grD n es] (.d (lsD r)):=hr▸zsc n es h
theorem zyr{n:Nat}{es:List Ed}(h:Gr n es){r:List Nat × Int}(hr:zh9 n es=r):zas Try.prog 17 [grD n es] (.d (lsD r)):=hr▸zsd n es h
theorem jeh{n:Nat}{es:List Ed}(h:Gr n es){r:List Nat × Int}(hr:zoe n es=r):zas Try.prog 19 [grD n es] (.d (lsD r)):=hr▸zse n es h
theorem zpx{n:Int}{es:List Ed}(hl:es.length≤1000000){b:Bool}(hb:ztq n (es.map fun e=>((e.1:Int),(e.2:Int)))=b):zas Try.prog 12 [iD n,zag es] (.d (oD b)):=by
 have:=zyd n (es.map fun e=>((e.1:Int),(e.2:Int))) (by rw[List.length_map];exact hl)
 rwa[←jsq,hb]at this
theorem i50:((50:Int) !=50)=false:=rfl
theorem i44:((4:Int) !=4)=false:=rfl
theorem i00:((0:Int)==0)=true:=rfl
theorem i66:((6:Int)==6)=true:=rfl
theorem zc7{p q:Prop}(hq:q)(h:p=q:=by
 conv=>lhs;simp -dsimp -implicitDefEqProofs (disch:=first|assumption|omega|(simp only[r_z]<;>omega)|decide) only[r_r,↓reduceIte,Nat.reduceEqDiff,Nat.reduceAdd,D.fix,Int.reduceToNat,Nat.reduceMul,Nat.reduceBNe,Nat.reduceBEq,grD,i50,i44,i00,i66,jqj]):p:=h.mpr hq
theorem jqk{m:List Nat}{τ τ':Fr}{H H':zaa}(h2:H=H')(h:zez τ τ':=by
 repeat (first|exact zal _|refine zaf ?_ (by first|rfl|(simp[r_f];done)|simp[r_f, *]))):Rt m τ H τ' H':=Rt.end h h2
theorem jql{p:Prop}(h:p:=by
 first|rfl|(simp only[r_g,Nat.reduceAdd,↓reduceIte,Nat.reduceEqDiff,grD,i50,i44,i00,i66];first|done|rfl)):p:=h
theorem joj{p:Prop}(h:p:=by
 simp (disch:=first|assumption|omega|(simp only[r_z]<;>omega)|decide) only[r_c,Nat.reduceAdd,D.fix,↓reduceIte,Nat.reduceEqDiff,grD,i50,i44,i00,i66,lsD]):p:=h
theorem jr5{p:Prop}(h:p:=by
 simp (disch:=first|assumption|omega|(simp only[r_z]<;>omega)|decide) only[r_c,Nat.reduceAdd,D.fix,↓reduceIte,Nat.reduceEqDiff,grD,i50,i44,i00,i66,zag,intsD]):p:=h
theorem ztt:zas Try.prog 10 [] (.d (oD true)):=by
 have hO1:zas Try.prog 15 [grD 4 egG] (.d (.agg [.fs [iD 1,iD 2,iD 0,iD 3] 4,iD 0])):=zyq grG jmo
 have hD1:zas Try.prog 19 [grD 4 egG] (.d (.agg [.fs [iD 1,iD 0,iD 0,iD 2] 4,iD 0])):=jeh grG jp7
 have hY1:zas Try.prog 17 [grD 4 egG] (.d (.agg [.fs [] 0,iD 4])):=zyr grG jp9
 have hO2:zas Try.prog 15 [grD 4 egH] (.d (.agg [.fs [] 0,iD 50])):=zyq grH jmp
 have hD2:zas Try.prog 19 [grD 4 egH] (.d (.agg [.fs [] 0,iD 50])):=jeh grH jp8
 have hY2:zas Try.prog 17 [grD 4 egH] (.d (.agg [.fs [iD 0,iD 3,iD 2] 3,iD 0])):=zyr grH jqa
 have hY3:zas Try.prog 17 [grD 4 egI] (.d (.agg [.fs [iD 1] 1,iD 0])):=zyr grI jqb
 have hO3:zas Try.prog 15 [grD 0 []] (.d (.agg [.fs [] 0,iD 0])):=zyq gr0 jp6
 have hA1:zas Try.prog 14 [.agg [.fs [iD 1,iD 2,iD 0,iD 3] 4,iD 0],.agg [.fs [iD 1,iD 2,iD 0,iD 3] 4,iD 0]] (.d (oD true)):=zgn [1,2,0,3] 0 (by decide)
 have hA2:zas Try.prog 14 [.agg [.fs [iD 1,iD 0,iD 0,iD 2] 4,iD 0],.agg [.fs [iD 1,iD 0,iD 0,iD 2] 4,iD 0]] (.d (oD true)):=zgn [1,0,0,2] 0 (by decide)
 have hA3:zas Try.prog 14 [.agg [.fs [iD 0,iD 3,iD 2] 3,iD 0],.agg [.fs [iD 0,iD 3,iD 2] 3,iD 0]] (.d (oD true)):=zgn [0,3,2] 0 (by decide)
 have hA4:zas Try.prog 14 [.agg [.fs [iD 1] 1,iD 0],.agg [.fs [iD 1] 1,iD 0]] (.d (oD true)):=zgn [1] 0 (by decide)
 have hR1:zas Try.prog 24 [iD 4,zag egG,iD 2] (.d (.fs [iD 0,iD 2,iD 3] 3)):=by have:=zpq 4 egG grG 2;rw[jqc]at this;exact this
 have hR2:zas Try.prog 24 [iD 4,zag egG,iD 4] (.d (.fs [] 0)):=by have:=zpq 4 egG grG 4;rw[jqd]at this;exact this
 have hS1:zas Try.prog 23 [.fs [iD 0,iD 2,iD 3] 3,.fs [iD 0,iD 2,iD 3] 3] (.d (oD true)):=by have:=zr7 [0,2,3] [0,2,3] (by decide) (by decide);exact this
 have hC1:zas Try.prog 27 [iD 4,zag egH] (.d (.fs [.fs [iD 0,iD 2,iD 3] 3,.fs [iD 1] 1] 2)):=by have:=zx5 4 egH grH (by decide);rw[jqi]at this;exact this
 have hS2:zas Try.prog 26 [.fs [.fs [iD 0,iD 2,iD 3] 3,.fs [iD 1] 1] 2,.fs [.fs [iD 0,iD 2,iD 3] 3,.fs [iD 1] 1] 2] (.d (oD true)):=by have:=zyg [[0,2,3],[1]] [[0,2,3],[1]] (by decide) (by decide) (by decide) (by decide);rw[decide_eq_true rfl]at this;exact this
 have hKa:zas Try.prog 21 [iD 4,zag egG,.fs [iD 2,iD 0,iD 1,iD 3] 4] (.d (iD 0)):=by have:=zpt 4 egG [2,0,1,3] grG (by decide);rw[jqe]at this;exact this
 have hKb:zas Try.prog 21 [iD 4,zag egG,.fs [iD 0,iD 1,iD 2,iD 3] 4] (.d (iD 6)):=by have:=zpt 4 egG [0,1,2,3] grG (by decide);rw[jqf]at this;exact this
 refine zau (fn:=Try.f10) (by kernel_rfl) Try.func10 rfl (Nat.le_of_ble_eq_true rfl) fun c hc hp=>?_
 refine zaw (τ':=frL []) (zal _) ?_
 refine zaj hp zam hc rfl fun K1 hK1=>?_
 simp -dsimp -implicitDefEqProofs (disch:=first|assumption|omega|(simp only[r_z]<;>omega)|decide) only[r_r,↓reduceIte,Nat.reduceEqDiff,Nat.reduceAdd,D.fix,Int.reduceToNat,Nat.reduceMul,Nat.reduceBNe,Nat.reduceBEq,grD,i50,i44,i00,i66]
 refine hK1 _ _ ?_
 refine szq hp (fun _ hZ=>zc7 hZ) ?_
 refine zba hp (τ':=frL [(0,.d (oD false)),(1,.d (.fp [iD 4,zag egG] 0))]) (H':=[]) ?_ ?_
 ·refine Rt.trans (Rt.fz (id:=0) (l:=(egG.flatMap edC)) rfl) ?_
  refine Rt.trans (Rt.heap (H':=[.dead,.cells [.d (iD 4),.d (zag egG)]]) (by simp only[r_g,Nat.reduceAdd,↓reduceIte,Nat.reduceEqDiff,grD,i50,i44,i00,i66];first|done|rfl)) ?_
  refine Rt.trans (Rt.fz (id:=1) (l:=[iD 4,zag egG]) rfl) ?_
  refine Rt.trans (Rt.gc (keep:=[]) (by decide) (by decide) (by simp[fzH,gcH])) ?_
  refine jqk ?_
  exact jql
 refine zaj hp zam hc rfl fun K3 hK3=>?_
 refine zc7 ?_
 refine zbd (jef 4 egG 3 2 (by decide)) rfl ?_
 refine zc7 ?_
 refine hK3 _ _ ?_
 refine zba hp (τ':=frL [(0,.d (oD false)),(1,.d (.fp [iD 4,zag egG] 0)),(2,.d (.fp [iD 4,zag egH] 0))]) (H':=[]) ?_ ?_
 ·refine Rt.trans (Rt.fz (id:=0) (l:=[iD 4,zag egH]) rfl) ?_
  refine Rt.trans (Rt.gc (keep:=[]) (by decide) (by decide) (by simp[fzH,gcH])) ?_
  refine jqk ?_
  exact jql
 refine zaj hp zam hc rfl fun K4 hK4=>?_
 refine zc7 ?_
 refine zbd (jef 4 egG 1 1 (by decide)) rfl ?_
 refine zc7 ?_
 refine hK4 _ _ ?_
 refine zab fun K5 hK5=>?_
 refine zba hp (τ':=frL [(0,.d (oD false)),(1,.d (.fp [iD 4,zag egG] 0)),(2,.d (.fp [iD 4,zag egH] 0)),(3,.d (.fp [iD 4,zag egI] 0))]) (H':=[]) ?_ ?_
 ·refine Rt.trans (Rt.fz (id:=0) (l:=[iD 4,zag egI]) rfl) ?_
  refine Rt.trans (Rt.gc (keep:=[]) (by decide) (by decide) (by simp[fzH,gcH])) ?_
  refine jqk ?_
  exact jql
 refine zaj hp zam hc rfl fun K6 hK6=>?_
 refine zc7 ?_
 refine zbd (hO1) rfl ?_
 refine zc7 ?_
 refine zfe (hA1) ?_ ?_
 ·exact joj
 refine zc7 ?_
 refine zbd (hD1) rfl ?_
 refine zc7 ?_
 refine zfe (hA2) ?_ ?_
 ·exact joj
 refine zc7 ?_
 refine zbd (hR1) rfl ?_
 refine zc7 ?_
 refine zfe (hS1) ?_ ?_
 ·simp (disch:=first|assumption|omega|(simp only[r_z]<;>omega)|decide) only[r_c,Nat.reduceAdd,D.fix,↓reduceIte,Nat.reduceEqDiff,grD,i50,i44,i00,i66,intsD]
 refine zc7 ?_
 refine zbd (hY1) rfl ?_
 refine zc7 ?_
 refine hK6 _ _ ?_
 refine szf ?_
 refine zah (hK5 _ _ ?_)
 refine zab fun K7 hK7=>?_
 refine zaj hp zam hc rfl fun K8 hK8=>?_
 refine zc7 ?_
 refine zbd (hO2) rfl ?_
 refine zc7 ?_
 refine zbd (hD2) rfl ?_
 refine zc7 ?_
 refine zbd (hY2) rfl ?_
 refine zc7 ?_
 refine zfe (hA3) ?_ ?_
 ·exact joj
 refine zc7 ?_
 refine zbd (hY3) rfl ?_
 refine zc7 ?_
 refine zfe (hA4) ?_ ?_
 ·exact joj
 refine zc7 ?_
 refine zbd (hC1) rfl ?_
 refine zc7 ?_
 refine zfe (hS2) ?_ ?_
 ·simp (disch:=first|assumption|omega|(simp only[r_z]<;>omega)|decide) only[r_c,Nat.reduceAdd,D.fix,↓reduceIte,Nat.reduceEqDiff,grD,i50,i44,i00,i66,zan]
 refine zc7 ?_
 refine hK8 _ _ ?_
 refine szf ?_
 refine zah (hK7 _ _ ?_)
 refine zaj hp zam hc rfl fun K9 hK9=>?_
 refine zc7 ?_
 refine zbd (zpx (by decide) jqg) rfl ?_
 refine zc7 ?_
 refine zbd (zpx (by decide) jqh) rfl ?_
 refine zc7 ?_
 refine zfe (hKa) ?_ ?_
 ·exact jr5
 refine zc7 ?_
 refine zfe (hKb) ?_ ?_
 ·exact jr5
 refine zc7 ?_
 refine zbd (hO3) rfl ?_
 refine zc7 ?_
 refine zbd (hR2) rfl ?_
 refine zc7 ?_
 refine hK9 _ _ ?_
 refine zaq ?_
 show closeA _ _=_
 simp (disch:=first|assumption|omega|(simp only[r_z]<;>omega)|decide) only[r_c,Nat.reduceAdd,D.fix,↓reduceIte,Nat.reduceEqDiff,grD,i50,i44,i00,i66]
 rfl
end Go.Proofs.Ytfolbdkbpmgjgaa
