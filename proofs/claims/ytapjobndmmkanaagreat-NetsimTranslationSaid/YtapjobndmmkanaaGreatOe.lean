/- The library's sort, of a row of the caller's own. -/
import Derived.Test.YtapjobndmmkanaaGreatAZ
import Derived.Test.YtapjobndmmkanaaGreatSx
import Derived.Test.YtapjobndmmkanaaGreatTy
import Derived.Sort.OwnSortedInts
import Derived.Test.YtapjobndmmkanaaGreatQr
import Derived.Test.YtapjobndmmkanaaGreatDb
import Derived.Test.YtapjobndmmkanaaGreatOk
set_option linter.unusedVariables false
set_option linter.unusedSimpArgs false
namespace Go.Proofs.YtapjobndmmkanaaGreat
open Go.Proofs.Tryz
open Go Go.RowKit Go.Sort
section
abbrev leI:Int→Int→Bool:=fun x y=>decide (x≤y)
def zsn(l:List Int):List Int:=l.mergeSort leI
theorem ybf:∀a b c:Int,leI a b=true→leI b c=true→leI a c=true:=fun a b c h1 h2=>by simp only[leI,qax]at *;omega
theorem ybg:∀a b:Int,(leI a b||leI b a)=true:=fun a b=>by simp only[leI,Bool.or_eq_true,qax];omega
theorem jjt(l:List Int):(zsn l).length=l.length:=by simp[zsn]
section
variable {c:Cx} {τ:Fr} {a:Act} {w w':World} {pl:List (Option (Nat × Nat))} {H:zad}
theorem RelS.turn(h:RelS c τ H [] pl a w){id b base:Nat}{cs cs':List AV}{arr arr':Array Value}{t:TypeId}(hid:H[id]? =some (.cells cs))(hp:pl[id]? =some (some (b,base)))(hg:w.heap[b]? =some (.cells arr t (0,0)))(hw:w.grownBy w' (some b))(hg':w'.heap[b]? =some (.cells arr' t (0,0)))
  (hsz:arr'.size=arr.size) (hr:RowRd w pl (zbp c.E H pl) arr' base cs'):RelS c τ (H.set id (.cells cs')) [] pl a w':=by
 have h2:=h.write hid hp hg (fun p hp=>by cases hp) hsz hr
 have hs:(w.setRow b arr').heap.size=w.heap.size:=by simp
 refine h2.below ⟨hw.os,hw.tape,hw.output,by rw[hs];exact hw.size,fun k hk=>?_⟩
 rw[hs]at hk
 by_cases e:k=b
 ·subst e;rw[hg',setRow_heap w k arr arr' t _ hg]
 ·rw[setRow_other w b k arr' e];exact hw.block k hk fun e'=>e (by cases e';rfl)
end
theorem zw5{w:World}{g off n:Nat}{os:Array Obj}(d:Array Int):w.grownBy (grow (putRow (Value.int .i64) (Sort.ahead w n) g off d) os) (some g):=by
 refine⟨rfl,rfl,rfl,by simp,fun k hk hne=>?_⟩
 rw[heap_grow_old _ _ (by simpa using hk)]
 have:g≠k:=fun e=>hne (by rw[e])
 simp[putRow,mapBlock,Sort.ahead,Array.getElem?_modify,this]
theorem zw6{w:World}{g off n:Nat}{os:Array Obj}{cur:Array Value}{e:TypeId}{fr:Nat × Nat}(d:Array Int)(hb:w.heap[g]? =some (.cells cur e fr)):
  (grow (putRow (Value.int .i64) (Sort.ahead w n) g off d) os).heap[g]? =some (.cells (putCells (Value.int .i64) off d cur) e fr):=by
 have hg:g<w.heap.size:=(qam.1 hb).1
 rw[heap_grow_old _ _ (by simpa using hg)]
 simp[putRow,mapBlock,Sort.ahead,Array.getElem?_modify,hb,onCells]
theorem jul{off:Nat}{d:List Int}{cur:Array Value}{j:Nat}(hj:j<d.length)(hc:off+d.length≤cur.size):(putCells (Value.int .i64) off d.toArray cur).getD (off+j) undef= .int .i64 (nth d j):=by
 unfold putCells
 rw[qan,Array.getElem?_mapIdx,Array.getElem?_eq_getElem (by omega)]
 simp only[Option.map_some,Option.getD_some]
 rw[if_pos (by simp;omega),show off+j - off=j by omega,getElem!_pos _ _ (by simpa using hj),zdt hj]
 simp
theorem jum{H:zad}{id:Nat}{l:List Int}(hid:H[id]? =some (.cells (avs (l.map iD))))(h0:l≠[])(hl:l.length≤1000000):
  IcS prog 203 [.os 1 id 0 l.length] H fun x H'=>x= .tup []∧H'=H.set id (.cells (avs ((zsn l).map iD))):=by
 refine⟨by kernel_rfl,fun E w pl vals hlv hx hh hE=>?_⟩
 have hpos:0<l.length:=List.length_pos_iff.2 h0
 obtain⟨v,rfl⟩:∃v,vals=#[v]:=⟨vals.getD 0 undef,by
  apply Array.ext
  ·simpa using hlv
  ·intro i hi _
   have:i=0:=by simp at hlv;omega
   subst this
   simp[Array.getD,hlv]⟩
 have hv:Rd w pl (zbp E H pl) (.os 1 id 0 l.length) v:=hx 0 _ rfl
 have hR:RelS ⟨E,w,zf7 H pl,0,pl,none,w.heap.size⟩ (fun _=>.any) H [] pl {tmps:=#[],defers:=[]} w:=
  ⟨hh,Stp.refl _ _,fun id o p h1 h2 h3=>.inl ⟨id,o,p.2,h1,h2,h3⟩,hE,fun t=>.any _,rfl,Dfk.nil,fun i p hi=>hi⟩
 generalize hll:l.length=n at hv
 cases hv with
 |os0=>omega
 |os _ _ _ _ cap b base sz t hp hsh hn hmx hz=>
  rcases hh.obj _ _ hid with⟨h1,h2⟩|⟨b',base',arr,t',k1,k2,k3,k4⟩
  ·rw[hp]at h2;cases h2
  ·rw[hp]at k1;cases k1
   rw[zc7,List.length_map]at k3
   have hcell:∀j,j<l.length→arr.getD (base+j) undef= .int .i64 (nth l j):=fun j hj=>by
    have:=(k4 j (.d (iD (nth l j))) (by rw[zl0,za4 hj];rfl)).1
    exact this.val_eq
   have hH:Holds (Value.int .i64) w b (base+0) l.toArray:=fun j hj=>by
    have hj':j<l.length:=by simpa using hj
    refine⟨?_,by simp[World.frozen?,k2]⟩
    rw[Nat.add_zero,cell_of_row _ _ _ _ _ _ k2]
    have h1:=hcell j hj'
    rw[Array.getD,dif_pos (by omega)]at h1
    rw[Array.getElem?_eq_getElem (by omega),getElem!_pos _ _ (by simpa using hj')]
    rw[show arr[base+j]= .int .i64 (nth l j) from h1,zdt hj'];simp
   have hblk:b<w.heap.size:=(qam.1 k2).1
   subst hll
   refine(Any.slices_Sort_int jm5 b (base+0) cap l w hH hblk (by omega)).mono fun e w' ⟨he,m,os,hw'⟩=>?_
   subst hw'
   have hsl:=jjt l
   have hput:(putCells (Value.int .i64) (base+0) (zsn l).toArray arr).size=arr.size:=by simp[putCells]
   have h1:=hR.turn hid hp k2 (zw5 (n:=m) (os:=os) (zsn l).toArray) (zw6 (n:=m) (os:=os) (zsn l).toArray k2) hput (cs':=avs ((zsn l).map iD)) ⟨by rw[zc7,List.length_map,hsl,hput];exact k3,fun j x hj=>by
    have hjl:j<(zsn l).length:=by have:=(qag.1 hj).1;simpa[zc7]using this
    rw[zl0,za4 hjl]at hj
    cases hj
    have:=jul (off:=base+0) (cur:=arr) hjl (by omega)
    rw[Nat.add_zero]at this ⊢
    rw[this]
    exact⟨.d _ _ (.val _),rfl⟩⟩
   exact⟨_,.tup [],_,pl,he,⟨rfl,rfl⟩,.tup _ _ rfl (fun j x hj=>by simp at hj),h1.h,h1.stp,fun b' ⟨i,o,e,b1,b2,b3⟩=>h1.own0 i o (b',e) b1 b2 b3,h1.keep⟩
set_option maxRecDepth 100000
set_option maxHeartbeats 4000000
end
section
open Go Go.RowKit
theorem ybh{p q:Prop}(hq:q)(h:p=q:=by
 conv=>lhs;simp -dsimp -implicitDefEqProofs (disch:=first|assumption|omega|(simp only[r_z]<;>omega)|decide) only[r_r,↓reduceIte,Nat.reduceEqDiff,Nat.reduceAdd,D.fix,Int.reduceToNat,Nat.reduceMul,Nat.reduceBNe,Nat.reduceBEq,zdj,zdu,zbf,zbj,qae]):p:=h.mpr hq
theorem jun(n:Net)(hi:n.ins.length≤1000000)(hg:n.gates.length≤1000000):za2 prog 64 [zdj n] (.d (iD (2+n.ins.length+n.gates.length))):=by
 refine zax (fn:=f64) (by kernel_rfl) func64 rfl (qaf rfl) fun c hc hp=>?_
 refine za0 (τ':=frL [(0,.d (zdj n))]) (by repeat (first|exact zaq _|refine zak ?_ (by first|rfl|(simp[r_f];done)|simp[r_f, *]))) ?_
 refine szq (ybh ·) ?_
 refine szq (ybh ·) ?_
 refine zaj ?_
 show closeA _ _=_
 simp (disch:=first|assumption|omega|(simp only[r_z]<;>omega)|decide) only[r_c,Nat.reduceAdd,D.fix,↓reduceIte,Nat.reduceEqDiff,zdj,zdu,zbf,zbj]
end
section
open Go Go.RowKit
theorem ym2:(type_of% @yap):=@yap
def zu6(m:Nat)(l:List Int):Prop:=∀k,k<l.length→0≤nth l k∧nth l k<m
structure WireIn (w:Wire):Prop where
 k1:1≤w.kind
 k4:w.kind≤4
 i0:0≤w.i
 b0:0≤w.bit
 b7:w.bit≤7
 i2:w.i≤1000000
structure WireOut (w:Wire):Prop where
 k:w.kind=1∨(5≤w.kind∧w.kind≤10)
 i0:0≤w.i
 b0:0≤w.bit
 b7:w.bit≤7
 i2:w.i≤1000000
structure GateV (g:Gate):Prop where
 c:g.op≤4→g.c=0
 b:g.op=1→g.b=0
 n:g.op≠7→g.n=0
 m:g.n≤63
theorem zu7{α:Type}{P:α→Prop}{l:List α}{a:α}(h:∀x∈l,P x)(ha:P a):∀x∈l++[a],P x:=fun x hx=>by
 rcases qas.1 hx with hx|hx
 ·exact h x hx
 ·rw[qau.1 hx];exact ha
end
section
open Go Go.RowKit
structure Head where
 has:Bool
 v:Int
instance:Inhabited Head:=⟨⟨false,0⟩⟩
def zcj(h:Head):List D:=[oD h.has,iD h.v]
def za9(l:List Head):D:=.fs (l.flatMap zcj) l.length
theorem zw7(h:Head):(zcj h).length=2:=rfl
theorem jm6{l:List Head}{k:Nat}(h:k<l.length):zbz (l.flatMap zcj) (k*2) 2=some (zcj (nth l k)):=zgl zw7 h
theorem zlp{l:List Head}{k:Nat}(h:k<l.length):(l.flatMap zcj)[k*2]? =some (oD (nth l k).has):=(zdk (j:=0) zw7 h (by omega)).trans rfl
theorem zlq{l:List Head}{k:Nat}(h:k<l.length):(l.flatMap zcj)[k*2+1]? =some (iD (nth l k).v):=(zdk (j:=1) zw7 h (by omega)).trans rfl
theorem zat{l:List Head}:(l.flatMap zcj).length=l.length*2:=zc1 zw7 l
theorem zk4(l:List Head):(l.flatMap zcj).map D.fix=l.flatMap zcj:=zuu (fun _=>rfl) l
structure PSt where
 regs:List Int
 mems:List (List Int)
 deriving Inhabited
def zc5(s:PSt):List D:=[intsD s.regs,intssD s.mems]
def inV(s:PSt)(heads:List Head)(rooms:List Bool)(w:Wire):Bool:=
 if w.kind=1 then decide (w.i<s.regs.length)&&jua (nth s.regs w.i.toNat) w.bit
 else if w.kind=2 then decide (w.i<heads.length)&&((nth heads w.i.toNat).has&&jua (nth heads w.i.toNat).v w.bit)
 else if w.kind=3 then decide (w.i<heads.length)&&(nth heads w.i.toNat).has
 else decide (w.kind=4)&&(decide (w.i<rooms.length)&&nth rooms w.i.toNat)
def zx5(s:PSt)(heads:List Head)(rooms:List Bool)(l:List Wire):List Bool:=l.map (inV s heads rooms)
theorem zb7(s:PSt)(heads:List Head)(rooms:List Bool)(l:List Wire):(zx5 s heads rooms l).length=l.length:=by simp[zx5]
theorem yh6{l:List Bool}{n k:Nat}(hl:l.length=n)(hk:k<n):(l.take k++List.replicate (n - k) false).set k (nth l k)=l.take (k+1)++List.replicate (n - (k+1)) false:=by
 subst hl
 rw[zd0 hk,List.set_append_right _ _ (by simp;omega),List.length_take,Nat.min_eq_left (by omega),Nat.sub_self,show l.length - k=(l.length - (k+1))+1 by omega,List.replicate_succ,List.set_cons_zero,List.append_assoc];rfl
theorem jm7{l:List Bool}{n k:Nat}(hl:l.length=n)(hk:k<n):(l.take k++List.replicate (n - k) false).set k false=l.take k++List.replicate (n - k) false:=by
 rw[List.set_append_right _ _ (by simp;omega),List.length_take,Nat.min_eq_left (by omega),Nat.sub_self,show n - k=(n - (k+1))+1 by omega,List.replicate_succ,List.set_cons_zero]
theorem zm9{p q:Prop}(hq:q)(h:p=q:=by
 conv=>lhs;simp -dsimp -implicitDefEqProofs (disch:=first|assumption|omega|(simp only[r_z,zac,zab,zb7,zat]<;>omega)|decide) only[r_r,↓reduceIte,Nat.reduceEqDiff,Nat.reduceAdd,D.fix,Int.reduceToNat,Nat.reduceMul,Nat.reduceBNe,Nat.reduceBEq,zdj,zdu,zbf,zbj,zc5,za9,zcp,zb2,zb9,iD,oD,qae]):p:=h.mpr hq
theorem jl0(k:List Nat){m:List Nat}{τ τ1:Fr}{H H1:zad}(h:Rt m (fun t=>gcV k (τ t)) (gcH k H) τ1 H1)(a:∀i∈m,k[i]? =some i:=by decide)(b:k.Nodup:=by decide)(c:∀i∈k,i<H.length:=by
 simp[fzH,gcH]):Rt m τ H τ1 H1:=Rt.trans (Rt.gc a b c) h
theorem jl1{m:List Nat}{τ τ':Fr}{H H':zad}(h2:H=H')(h:zgk τ τ':=by
 repeat (first|exact zaq _|refine zak ?_ (by first|rfl|(simp[r_f,zac,zab,zb7,zat];done)|simp[r_f,zac,zab,zb7,zat, *]))):Rt m τ H τ' H':=Rt.end h h2
theorem zof{p q r:Prop}(e:r)(hq:q)(h:r→p=q:=by
 intro hY
 conv=>lhs;simp -dsimp -implicitDefEqProofs (disch:=first|assumption|omega|(simp only[r_z,zac,zab,zb7,zat]<;>omega)|decide) only[r_r,↓reduceIte,Nat.reduceEqDiff,Nat.reduceAdd,D.fix,Int.reduceToNat,Nat.reduceMul,Nat.reduceBNe,Nat.reduceBEq,zdj,zdu,zbf,zbj,zc5,za9,zcp,zb2,zb9,iD,oD,qae,hY]):p:=(h e).mpr hq
theorem juo{p q:Prop}(hq:q)(h:p=q:=by
 conv=>lhs;simp -dsimp -implicitDefEqProofs (disch:=first|assumption|omega|(simp only[r_z,zac,zab,zb7,zat]<;>omega)|decide) only[r_r,↓reduceIte,Nat.reduceEqDiff,Nat.reduceAdd,D.fix,Int.reduceToNat,Nat.reduceMul,Nat.reduceBNe,Nat.reduceBEq,zdj,zdu,zbf,zbj,zc5,za9,zcp,zb2,zb9,iD,oD,za4,qae]):p:=h.mpr hq
theorem jup{p q r:Prop}(e:r)(hq:q)(h:r→p=q:=by
 intro hY
 conv=>lhs;simp -dsimp -implicitDefEqProofs (disch:=first|assumption|omega|(simp only[r_z,zac,zab,zb7,zat]<;>omega)|decide) only[r_r,↓reduceIte,Nat.reduceEqDiff,Nat.reduceAdd,D.fix,Int.reduceToNat,Nat.reduceMul,Nat.reduceBNe,Nat.reduceBEq,zdj,zdu,zbf,zbj,zc5,za9,zcp,zb2,zb9,iD,oD,zlp,zlq,qae,hY]):p:=(h e).mpr hq
theorem jl2{p q:Prop}(hq:q)(h:p=q:=by
 conv=>lhs;simp only[r_g,Nat.reduceAdd,↓reduceIte,Nat.reduceEqDiff,zdj,zdu,zbf,zbj,zc5,za9,zcp,zb2,zb9,iD,oD]):p:=h.mpr hq
theorem jm8(n:Net)(s:PSt)(heads:List Head)(rooms:List Bool)(hi:n.ins.length≤1000000)(hw:∀w∈n.ins,WireIn w)(h1:s.regs.length≤maxLen)(h2:heads.length≤maxLen)(h3:rooms.length≤maxLen):za2 prog 86 [zdj n,.agg (zc5 s),za9 heads,boolsD rooms] (.d (boolsD (zx5 s heads rooms n.ins))):=by
 unfold maxLen at h1 h2 h3
 refine zax (fn:=f86) (by kernel_rfl) func86 rfl (qaf rfl) fun c hc hp=>?_
 refine za0 (τ':=frL [(0,.d (zdj n)),(1,.d (.agg (zc5 s))),(2,.d (za9 heads)),(3,.d (boolsD rooms))]) (by repeat (first|exact zaq _|refine zak ?_ (by first|rfl|(simp[r_f,zac,zab,zb7,zat];done)|simp[r_f,zac,zab,zb7,zat, *]))) ?_
 refine szq (zm9 ·) ?_
 refine szq (zm9 ·) ?_
 refine zaa fun K3 hK3=>?_
 refine szq (zm9 ·) ?_
 refine zag ?_
 refine zao hp (fun τ' H' mm=>∃k,(k≤n.ins.length)∧mm=n.ins.length - k∧H'=[.cells (avs (zdu n)),.cells (avs (zc5 s)),.cells (avs (((zx5 s heads rooms n.ins).take k++List.replicate (n.ins.length - k) false).map oD))]∧τ'=frL [(2,.d (za9 heads)),(3,.d (boolsD rooms)),(4,.op 0 0),(5,.op 1 0),(9,.os 1 2 0 n.ins.length),(17,.d (zbf n.ins)),(18,.d (iD n.ins.length)),(19,.d (iD k))]) (n.ins.length) ?_ ⟨0,qap _,rfl,rfl,rfl⟩ ?_
 ·refine jl0 [0,1,2] ?_
  refine jl1 ?_
  refine jl2 ?_;simp[oD]
 rintro τ' H' mm ⟨k,hk,rfl,rfl,rfl⟩
 refine szq (zm9 ·) ?_
 refine zaa fun K6 hK6=>?_
 refine zan rfl (fun ht=>?_) (fun ht=>?_)
 ·have hlt:k<n.ins.length:=by simp at ht;omega
  obtain⟨k1,k4,i0,b0,b7,i2⟩:=hw _ (zcb hlt)
  have hst:=yh6 (zb7 s heads rooms n.ins) hlt
  have hnv:nth (zx5 s heads rooms n.ins) k=inV s heads rooms (nth n.ins k):=zfg hlt
  rw[hnv]at hst
  have z0:0≤(nth n.ins k).bit:=b0
  refine zai (hK6 _ _ ?_)
  refine zaa fun K7 hK7=>?_
  refine zag ?_
  refine szq (zm9 ·) ?_
  refine zag ?_
  refine zaf hp zah hc rfl fun K9 hK9=>?_
  by_cases e1:(nth n.ins k).kind=1
  ·have q1:((nth n.ins k).kind==1)=true:=by simp[e1]
   refine zof q1 ?_
   refine hK9 _ _ ?_
   refine zan rfl (fun ht=>?_) (fun ht=>?_)
   ·have hin:(nth n.ins k).i<s.regs.length:=by simpa using ht
    have hin2:(nth n.ins k).i.toNat<s.regs.length:=by omega
    refine zov zah hc mixed rfl (q:=0) (by kernel_rfl) (by kernel_rfl) fun K10 hK10=>?_
    refine juo ?_
    refine zbl (jub (nth s.regs (nth n.ins k).i.toNat) (nth n.ins k).bit b0) rfl ?_
    refine juo ?_
    refine hK10 _ _ (hK7 _ _ ?_)
    refine za1 hp zah hc rfl fun K11 hK11=>?_
    refine zm9 ?_
    refine hK11 _ _ ⟨_,_,_,?_,⟨k+1,by omega,rfl,rfl,rfl⟩,?_⟩
    ·first|omega|(simp only[List.length_cons];omega)|(dsimp only;omega)
    ·refine jl0 [0,1,2] ?_
     refine jl1 ?_
     refine jl2 ?_;rw[←hst];simp[inV,e1,hin,oD]
   ·have hin:¬(nth n.ins k).i<s.regs.length:=by simpa using ht
    have q2:((nth n.ins k).kind==2)=false:=by simp[e1]
    refine szq (zof q2 ·) ?_
    refine szf ?_
    have q3:((nth n.ins k).kind==3)=false:=by simp[e1]
    refine szq (zof q3 ·) ?_
    refine szf ?_
    have q4:((nth n.ins k).kind==4)=false:=by simp[e1]
    refine szq (zof q4 ·) ?_
    refine szf ?_
    refine zai (hK7 _ _ ?_)
    refine za1 hp zah hc rfl fun K15 hK15=>?_
    refine zm9 ?_
    refine hK15 _ _ ⟨_,_,_,?_,⟨k+1,by omega,rfl,rfl,rfl⟩,?_⟩
    ·first|omega|(simp only[List.length_cons];omega)|(dsimp only;omega)
    ·refine jl0 [0,1,2] ?_
     refine jl1 ?_
     refine jl2 ?_;rw[←hst,show inV s heads rooms (nth n.ins k)=false by simp[inV,e1,hin],jm7 (zb7 s heads rooms n.ins) hlt]
  ·have q1:((nth n.ins k).kind==1)=false:=by simp[e1]
   refine zof q1 ?_
   refine hK9 _ _ ?_
   refine szf ?_
   refine zaf hp zah hc rfl fun K16 hK16=>?_
   by_cases e2:(nth n.ins k).kind=2
   ·have q2:((nth n.ins k).kind==2)=true:=by simp[e2]
    refine zof q2 ?_
    refine hK16 _ _ ?_
    refine zan rfl (fun ht=>?_) (fun ht=>?_)
    ·have hin:(nth n.ins k).i<heads.length:=by simpa using ht
     have hin2:(nth n.ins k).i.toNat<heads.length:=by omega
     refine zov zah hc mixed rfl (q:=0) (by kernel_rfl) (by kernel_rfl) fun K17 hK17=>?_
     rcases tf (nth heads (nth n.ins k).i.toNat).has with e3|e3
     ·refine jup e3 ?_
      refine zbl (jub (nth heads (nth n.ins k).i.toNat).v (nth n.ins k).bit b0) rfl ?_
      refine jup e3 ?_
      refine hK17 _ _ (hK7 _ _ ?_)
      refine za1 hp zah hc rfl fun K18 hK18=>?_
      refine zm9 ?_
      refine hK18 _ _ ⟨_,_,_,?_,⟨k+1,by omega,rfl,rfl,rfl⟩,?_⟩
      ·first|omega|(simp only[List.length_cons];omega)|(dsimp only;omega)
      ·refine jl0 [0,1,2] ?_
       refine jl1 ?_
       refine jl2 ?_;rw[←hst];simp[inV,e2,hin,oD,e3]
     ·refine jup e3 ?_
      refine hK17 _ _ (hK7 _ _ ?_)
      refine za1 hp zah hc rfl fun K19 hK19=>?_
      refine zm9 ?_
      refine hK19 _ _ ⟨_,_,_,?_,⟨k+1,by omega,rfl,rfl,rfl⟩,?_⟩
      ·first|omega|(simp only[List.length_cons];omega)|(dsimp only;omega)
      ·refine jl0 [0,1,2] ?_
       refine jl1 ?_
       refine jl2 ?_;rw[←hst];simp[inV,e2,hin,oD,e3]
    ·have hin:¬(nth n.ins k).i<heads.length:=by simpa using ht
     have q3:((nth n.ins k).kind==3)=false:=by simp[e2]
     refine szq (zof q3 ·) ?_
     refine szf ?_
     have q4:((nth n.ins k).kind==4)=false:=by simp[e2]
     refine szq (zof q4 ·) ?_
     refine szf ?_
     refine zai (hK7 _ _ ?_)
     refine za1 hp zah hc rfl fun K22 hK22=>?_
     refine zm9 ?_
     refine hK22 _ _ ⟨_,_,_,?_,⟨k+1,by omega,rfl,rfl,rfl⟩,?_⟩
     ·first|omega|(simp only[List.length_cons];omega)|(dsimp only;omega)
     ·refine jl0 [0,1,2] ?_
      refine jl1 ?_
      refine jl2 ?_;rw[←hst,show inV s heads rooms (nth n.ins k)=false by simp[inV,e2,hin],jm7 (zb7 s heads rooms n.ins) hlt]
   ·have q2:((nth n.ins k).kind==2)=false:=by simp[e2]
    refine zof q2 ?_
    refine hK16 _ _ ?_
    refine szf ?_
    refine zaf hp zah hc rfl fun K23 hK23=>?_
    by_cases e3:(nth n.ins k).kind=3
    ·have q3:((nth n.ins k).kind==3)=true:=by simp[e3]
     refine zof q3 ?_
     refine hK23 _ _ ?_
     refine zan rfl (fun ht=>?_) (fun ht=>?_)
     ·have hin:(nth n.ins k).i<heads.length:=by simpa using ht
      have hin2:(nth n.ins k).i.toNat<heads.length:=by omega
      refine za1 hp zah hc rfl fun K24 hK24=>?_
      simp -dsimp -implicitDefEqProofs (disch:=first|assumption|omega|(simp only[r_z,zac,zab,zb7,zat]<;>omega)|decide) only[r_r,↓reduceIte,Nat.reduceEqDiff,Nat.reduceAdd,D.fix,Int.reduceToNat,Nat.reduceMul,Nat.reduceBNe,Nat.reduceBEq,zdj,zdu,zbf,zbj,zc5,za9,zcp,zb2,zb9,iD,oD,zlp,zlq,qae]
      refine hK24 _ _ (hK7 _ _ ?_)
      refine za1 hp zah hc rfl fun K25 hK25=>?_
      refine zm9 ?_
      refine hK25 _ _ ⟨_,_,_,?_,⟨k+1,by omega,rfl,rfl,rfl⟩,?_⟩
      ·first|omega|(simp only[List.length_cons];omega)|(dsimp only;omega)
      ·refine jl0 [0,1,2] ?_
       refine jl1 ?_
       refine jl2 ?_;rw[←hst];simp[inV,e3,hin,oD]
     ·have hin:¬(nth n.ins k).i<heads.length:=by simpa using ht
      have q4:((nth n.ins k).kind==4)=false:=by simp[e3]
      refine szq (zof q4 ·) ?_
      refine szf ?_
      refine zai (hK7 _ _ ?_)
      refine za1 hp zah hc rfl fun K27 hK27=>?_
      refine zm9 ?_
      refine hK27 _ _ ⟨_,_,_,?_,⟨k+1,by omega,rfl,rfl,rfl⟩,?_⟩
      ·first|omega|(simp only[List.length_cons];omega)|(dsimp only;omega)
      ·refine jl0 [0,1,2] ?_
       refine jl1 ?_
       refine jl2 ?_;rw[←hst,show inV s heads rooms (nth n.ins k)=false by simp[inV,e3,hin],jm7 (zb7 s heads rooms n.ins) hlt]
    ·have q3:((nth n.ins k).kind==3)=false:=by simp[e3]
     refine zof q3 ?_
     refine hK23 _ _ ?_
     refine szf ?_
     have e4:(nth n.ins k).kind=4:=by omega
     have q4:((nth n.ins k).kind==4)=true:=by simp[e4]
     refine szq (zof q4 ·) ?_
     refine zan rfl (fun ht=>?_) (fun ht=>?_)
     ·have hin:(nth n.ins k).i<rooms.length:=by simpa using ht
      have hin2:(nth n.ins k).i.toNat<rooms.length:=by omega
      refine szs (juo ·) (hK7 _ _ ?_)
      refine za1 hp zah hc rfl fun K30 hK30=>?_
      refine zm9 ?_
      refine hK30 _ _ ⟨_,_,_,?_,⟨k+1,by omega,rfl,rfl,rfl⟩,?_⟩
      ·first|omega|(simp only[List.length_cons];omega)|(dsimp only;omega)
      ·refine jl0 [0,1,2] ?_
       refine jl1 ?_
       refine jl2 ?_;rw[←hst];simp[inV,e4,hin,oD]
     ·have hin:¬(nth n.ins k).i<rooms.length:=by simpa using ht
      refine zai (hK7 _ _ ?_)
      refine za1 hp zah hc rfl fun K31 hK31=>?_
      refine zm9 ?_
      refine hK31 _ _ ⟨_,_,_,?_,⟨k+1,by omega,rfl,rfl,rfl⟩,?_⟩
      ·first|omega|(simp only[List.length_cons];omega)|(dsimp only;omega)
      ·refine jl0 [0,1,2] ?_
       refine jl1 ?_
       refine jl2 ?_;rw[←hst,show inV s heads rooms (nth n.ins k)=false by simp[inV,e4,hin],jm7 (zb7 s heads rooms n.ins) hlt]
 ·have hge:k=n.ins.length:=by simp at ht;omega
  refine zau (hK3 _ _ ?_)
  refine zaf hp zah hc rfl fun K32 hK32=>?_
  simp -dsimp -implicitDefEqProofs (disch:=first|assumption|omega|(simp only[r_z,zac,zab,zb7,zat]<;>omega)|decide) only[r_r,↓reduceIte,Nat.reduceEqDiff,Nat.reduceAdd,D.fix,Int.reduceToNat,Nat.reduceMul,Nat.reduceBNe,Nat.reduceBEq,zdj,zdu,zbf,zbj,zc5,za9,zcp,zb2,zb9,iD,oD]
  refine hK32 _ _ ?_
  refine zaj ?_
  show closeA _ _=_
  simp (disch:=first|assumption|omega|(simp only[r_z,zac,zab,zb7,zat]<;>omega)|decide) only[r_c,Nat.reduceAdd,D.fix,↓reduceIte,Nat.reduceEqDiff,zdj,zdu,zbf,zbj,zc5,za9,zcp,zb2,zb9,iD,oD]
  rw[hge,Nat.sub_self,qaw (by rw[zb7];exact qao _)];simp[zb7]
end
end Go.Proofs.YtapjobndmmkanaaGreat
