/- The library's sort, of a row of the caller's own. -/
import Derived.Test.YtapjobndmmkanaaGreatAZ
import Derived.Test.YtapjobndmmkanaaGreatSx
import Derived.Test.YtapjobndmmkanaaGreatTy
import Derived.Sort.OwnSortedInts
import Derived.Test.YtapjobndmmkanaaGreatQr
import Derived.Test.YtapjobndmmkanaaGreatDb
import Derived.Test.YtapjobndmmkanaaGreatOk
set_option linter.unusedVariables false
set_option linter.unusedSimpArgs false
namespace Go.Proofs.YtapjobndmmkanaaGreat
open Go.Proofs.Tryz
open Go Go.RowKit Go.Sort
section
abbrev wy:Int→Int→Bool:=fun x y=>decide (x≤y)
def yk(l:List Int):List Int:=l.mergeSort wy
theorem yb5:∀a b c:Int,wy a b=true→wy b c=true→wy a c=true:=fun a b c h1 h2=>by simp only[wy,oU]at *;omega
theorem yb6:∀a b:Int,(wy a b||wy b a)=true:=fun a b=>by simp only[wy,Bool.or_eq_true,oU];omega
theorem jkz(l:List Int):(yk l).length=l.length:=by simp[yk]
section
variable {c:Cx} {τ:Fr} {a:Act} {w w':World} {pl:List (Option (Nat × Nat))} {H:ak}
theorem aQ.Og(h:aQ c τ H [] pl a w){id b base:Nat}{cs cs':List AV}{arr arr':Array Value}{t:TypeId}(hid:H[id]? =some (.cells cs))(hp:pl[id]? =some (some (b,base)))(hg:w.heap[b]? =some (.cells arr t (0,0)))(hw:w.grownBy w' (some b))(rA:w'.heap[b]? =some (.cells arr' t (0,0)))
  (gu:arr'.size=arr.size) (hr:dM w pl (bu c.E H pl) arr' base cs'):aQ c τ (H.set id (.cells cs')) [] pl a w':=by
 have h2:=h.write hid hp hg (fun p hp=>by cases hp) gu hr
 have hs:(w.setRow b arr').heap.size=w.heap.size:=by simp
 refine h2.below ⟨hw.os,hw.tape,hw.output,by rw[hs];exact hw.size,fun k hk=>?_⟩
 rw[hs]at hk
 by_cases e:k=b
 ·subst e;rw[rA,setRow_heap w k arr arr' t _ hg]
 ·rw[setRow_other w b k arr' e];exact hw.block k hk fun e'=>e (by cases e';rfl)
end
theorem zxu{w:World}{g off n:Nat}{os:Array Obj}(d:Array Int):w.grownBy (grow (putRow (Value.int .i64) (Sort.ahead w n) g off d) os) (some g):=by
 refine⟨rfl,rfl,rfl,by simp,fun k hk cw=>?_⟩
 rw[heap_grow_old _ _ (by simpa using hk)]
 have:g≠k:=fun e=>cw (by rw[e])
 simp[putRow,mapBlock,Sort.ahead,Array.getElem?_modify,this]
theorem zxv{w:World}{g off n:Nat}{os:Array Obj}{cur:Array Value}{e:TypeId}{fr:Nat × Nat}(d:Array Int)(hb:w.heap[g]? =some (.cells cur e fr)):
  (grow (putRow (Value.int .i64) (Sort.ahead w n) g off d) os).heap[g]? =some (.cells (putCells (Value.int .i64) off d cur) e fr):=by
 have hg:g<w.heap.size:=(oq.1 hb).1
 rw[heap_grow_old _ _ (by simpa using hg)]
 simp[putRow,mapBlock,Sort.ahead,Array.getElem?_modify,hb,onCells]
theorem jvn{off:Nat}{d:List Int}{cur:Array Value}{j:Nat}(hj:j<d.length)(hc:off+d.length≤cur.size):(putCells (Value.int .i64) off d.toArray cur).getD (off+j) undef= .int .i64 (nth d j):=by
 unfold putCells
 rw[nF,Array.getElem?_mapIdx,Array.getElem?_eq_getElem (by omega)]
 simp only[Option.map_some,Option.getD_some]
 rw[if_pos (by simp;omega),show off+j - off=j by omega,getElem!_pos _ _ (by simpa using hj),mS hj]
 simp
theorem jvo{H:ak}{id:Nat}{l:List Int}(hid:H[id]? =some (.cells (au (l.map iD))))(h0:l≠[])(hl:l.length≤1000000):
  wU prog 203 [.os 1 id 0 l.length] H fun x H'=>x= .dc []∧H'=H.set id (.cells (au ((yk l).map iD))):=by
 refine⟨by kernel_rfl,fun E w pl vals H4 hx hh hE=>?_⟩
 have hpos:0<l.length:=List.length_pos_iff.2 h0
 obtain⟨v,rfl⟩:∃v,vals=#[v]:=⟨vals.getD 0 undef,by
  apply Array.ext
  ·simpa using H4
  ·intro i hi _
   have:i=0:=by simp at H4;omega
   subst this
   simp[Array.getD,H4]⟩
 have hv:Rd w pl (bu E H pl) (.os 1 id 0 l.length) v:=hx 0 _ rfl
 have hR:aQ ⟨E,w,fK H pl,0,pl,none,w.heap.size⟩ (fun _=>.any) H [] pl {tmps:=#[],defers:=[]} w:=
  ⟨hh,jw.refl _ _,fun id o p h1 h2 h3=>.inl ⟨id,o,p.2,h1,h2,h3⟩,hE,fun t=>.any _,rfl,sl.nil,fun i p hi=>hi⟩
 generalize lj:l.length=n at hv
 cases hv with
 |lJ=>omega
 |os _ _ _ _ cap b base sz t hp eD hn HW hz=>
  rcases hh.obj _ _ hid with⟨h1,h2⟩|⟨b',gz,arr,t',k1,k2,k3,k4⟩
  ·rw[hp]at h2;cases h2
  ·rw[hp]at k1;cases k1
   rw[og,List.length_map]at k3
   have Ip:∀j,j<l.length→arr.getD (base+j) undef= .int .i64 (nth l j):=fun j hj=>by
    have:=(k4 j (.d (iD (nth l j))) (by rw[B0,dm hj];rfl)).1
    exact this.Ci
   have hH:Holds (Value.int .i64) w b (base+0) l.toArray:=fun j hj=>by
    have kH:j<l.length:=by simpa using hj
    refine⟨?_,by simp[World.frozen?,k2]⟩
    rw[Nat.add_zero,cell_of_row _ _ _ _ _ _ k2]
    have h1:=Ip j kH
    rw[Array.getD,dif_pos (by omega)]at h1
    rw[Array.getElem?_eq_getElem (by omega),getElem!_pos _ _ (by simpa using kH)]
    rw[show arr[base+j]= .int .i64 (nth l j) from h1,mS kH];simp
   have pB:b<w.heap.size:=(oq.1 k2).1
   subst lj
   refine(Any.slices_Sort_int joo b (base+0) cap l w hH pB (by omega)).mono fun e w' ⟨he,m,os,QB⟩=>?_
   subst QB
   have uw:=jkz l
   have lW:(putCells (Value.int .i64) (base+0) (yk l).toArray arr).size=arr.size:=by simp[putCells]
   have h1:=hR.Og hid hp k2 (zxu (n:=m) (os:=os) (yk l).toArray) (zxv (n:=m) (os:=os) (yk l).toArray k2) lW (cs':=au ((yk l).map iD)) ⟨by rw[og,List.length_map,uw,lW];exact k3,fun j x hj=>by
    have o5:j<(yk l).length:=by have:=(dX.1 hj).1;simpa[og]using this
    rw[B0,dm o5]at hj
    cases hj
    have:=jvn (off:=base+0) (cur:=arr) o5 (by omega)
    rw[Nat.add_zero]at this ⊢
    rw[this]
    exact⟨.d _ _ (.val _),rfl⟩⟩
   exact⟨_,.dc [],_,pl,he,⟨rfl,rfl⟩,.dc _ _ rfl (fun j x hj=>by simp at hj),h1.h,h1.km,fun b' ⟨i,o,e,b1,b2,b3⟩=>h1.gZ i o (b',e) b1 b2 b3,h1.keep⟩
set_option maxRecDepth 100000
set_option maxHeartbeats 4000000
end
section
open Go Go.RowKit
theorem Zc{p q:Prop}(hq:q)(h:p=q:=by
 conv=>lhs;simp -dsimp -implicitDefEqProofs (disch:=first|assumption|omega|(simp only[aK]<;>omega)|decide) only[aP,↓reduceIte,Nat.reduceEqDiff,Nat.reduceAdd,D.fix,Int.reduceToNat,Nat.reduceMul,Nat.reduceBNe,Nat.reduceBEq,eF,eZ,cH,jf,bw]):p:=h.mpr hq
theorem jvp(n:Net)(hi:n.ins.length≤1000000)(hg:n.aO.length≤1000000):cC prog 64 [eF n] (.d (iD (2+n.ins.length+n.aO.length))):=by
 refine ez (fn:=f64) (by kernel_rfl) func64 rfl (bN rfl) fun c hc hp=>?_
 refine dG (τ':=aG [(0,.d (eF n))]) (by repeat (first|exact bT _|refine bM ?_ (by first|rfl|(simp[aR];done)|simp[aR, *]))) ?_
 refine aj (Zc ·) ?_
 refine aj (Zc ·) ?_
 refine bh ?_
 show aC _ _=_
 simp (disch:=first|assumption|omega|(simp only[aK]<;>omega)|decide) only[gF,Nat.reduceAdd,D.fix,↓reduceIte,Nat.reduceEqDiff,eF,eZ,cH,jf]
end
section
open Go Go.RowKit
theorem ypf:(type_of% @YV):=@YV
def Mu(m:Nat)(l:List Int):Prop:=∀k,k<l.length→0≤nth l k∧nth l k<m
structure nh (w:aB):Prop where
 k1:1≤w.kind
 k4:w.kind≤4
 i0:0≤w.i
 b0:0≤w.bit
 b7:w.bit≤7
 i2:w.i≤1000000
structure jJ (w:aB):Prop where
 k:w.kind=1∨(5≤w.kind∧w.kind≤10)
 i0:0≤w.i
 b0:0≤w.bit
 b7:w.bit≤7
 i2:w.i≤1000000
structure I1 (g:Gate):Prop where
 c:g.op≤4→g.c=0
 b:g.op=1→g.b=0
 n:g.op≠7→g.n=0
 m:g.n≤63
theorem MJ{α:Type}{P:α→Prop}{l:List α}{a:α}(h:∀x∈l,P x)(ha:P a):∀x∈l++[a],P x:=fun x hx=>by
 rcases pr.1 hx with hx|hx
 ·exact h x hx
 ·rw[sa.1 hx];exact ha
end
section
open Go Go.RowKit
theorem ypg:(type_of% @xe):=@xe
structure Head where
 has:Bool
 v:Int
instance:Inhabited Head:=⟨⟨false,0⟩⟩
def iG(h:Head):List D:=[oD h.has,iD h.v]
def eT(l:List Head):D:=.fs (l.flatMap iG) l.length
theorem Fv(h:Head):(iG h).length=2:=rfl
theorem jop{l:List Head}{k:Nat}(h:k<l.length):dJ (l.flatMap iG) (k*2) 2=some (iG (nth l k)):=zh Fv h
theorem yo{l:List Head}{k:Nat}(h:k<l.length):(l.flatMap iG)[k*2]? =some (oD (nth l k).has):=(nC (j:=0) Fv h (by omega)).trans rfl
theorem yn{l:List Head}{k:Nat}(h:k<l.length):(l.flatMap iG)[k*2+1]? =some (iD (nth l k).v):=(nC (j:=1) Fv h (by omega)).trans rfl
theorem ft{l:List Head}:(l.flatMap iG).length=l.length*2:=pq Fv l
theorem DM(l:List Head):(l.flatMap iG).map D.fix=l.flatMap iG:=MY (fun _=>rfl) l
structure im where
 ag:List Int
 mems:List (List Int)
 deriving Inhabited
def fG(s:im):List D:=[av s.ag,ai s.mems]
def zC(s:im)(heads:List Head)(rooms:List Bool)(w:aB):Bool:=
 if w.kind=1 then decide (w.i<s.ag.length)&&A7 (nth s.ag w.i.toNat) w.bit
 else if w.kind=2 then decide (w.i<heads.length)&&((nth heads w.i.toNat).has&&A7 (nth heads w.i.toNat).v w.bit)
 else if w.kind=3 then decide (w.i<heads.length)&&(nth heads w.i.toNat).has
 else decide (w.kind=4)&&(decide (w.i<rooms.length)&&nth rooms w.i.toNat)
def oF(s:im)(heads:List Head)(rooms:List Bool)(l:List aB):List Bool:=l.map (zC s heads rooms)
theorem uW(s:im)(heads:List Head)(rooms:List Bool)(l:List aB):(oF s heads rooms l).length=l.length:=by simp[oF]
end
end Go.Proofs.YtapjobndmmkanaaGreat
