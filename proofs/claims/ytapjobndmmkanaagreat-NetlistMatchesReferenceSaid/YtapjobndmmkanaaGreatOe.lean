/- The library's sort, of a row of the caller's own. -/
import Derived.Test.YtapjobndmmkanaaGreatAZ
import Derived.Test.YtapjobndmmkanaaGreatSx
import Derived.Test.YtapjobndmmkanaaGreatTy
import Derived.Sort.OwnSortedInts
import Derived.Test.YtapjobndmmkanaaGreatQr
import Derived.Test.YtapjobndmmkanaaGreatDb
import Derived.Test.YtapjobndmmkanaaGreatOk
set_option linter.unusedVariables false
set_option linter.unusedSimpArgs false
namespace Go.Proofs.YtapjobndmmkanaaGreat
open Go.Proofs.Tryz
open Go Go.RowKit Go.Sort
section
abbrev vm:Int→Int→Bool:=fun x y=>decide (x≤y)
def xy(l:List Int):List Int:=l.mergeSort vm
theorem jx8:∀a b c:Int,vm a b=true→vm b c=true→vm a c=true:=fun a b c h1 h2=>by simp only[vm,mZ]at *;omega
theorem jx9:∀a b:Int,(vm a b||vm b a)=true:=fun a b=>by simp only[vm,Bool.or_eq_true,mZ];omega
theorem jht(l:List Int):(xy l).length=l.length:=by simp[xy]
section
variable {c:Cx} {τ:Fr} {a:Act} {w w':World} {pl:List (Option (Nat × Nat))} {H:av}
theorem aV.Nw(h:aV c τ H [] pl a w){id b base:Nat}{cs cs':List AV}{arr arr':Array Value}{t:TypeId}(hid:H[id]? =some (.cells cs))(hp:pl[id]? =some (some (b,base)))(hg:w.heap[b]? =some (.cells arr t (0,0)))(hw:w.grownBy w' (some b))(mL:w'.heap[b]? =some (.cells arr' t (0,0)))
  (gy:arr'.size=arr.size) (hr:dV w pl (bF c.E H pl) arr' base cs'):aV c τ (H.set id (.cells cs')) [] pl a w':=by
 have h2:=h.write hid hp hg (fun p hp=>by cases hp) gy hr
 have hs:(w.setRow b arr').heap.size=w.heap.size:=by simp
 refine h2.below ⟨hw.os,hw.tape,hw.output,by rw[hs];exact hw.size,fun k hk=>?_⟩
 rw[hs]at hk
 by_cases e:k=b
 ·subst e;rw[mL,setRow_heap w k arr arr' t _ hg]
 ·rw[setRow_other w b k arr' e];exact hw.block k hk fun e'=>e (by cases e';rfl)
end
theorem zwu{w:World}{g off n:Nat}{os:Array Obj}(d:Array Int):w.grownBy (grow (putRow (Value.int .i64) (Sort.ahead w n) g off d) os) (some g):=by
 refine⟨rfl,rfl,rfl,by simp,fun k hk cR=>?_⟩
 rw[heap_grow_old _ _ (by simpa using hk)]
 have:g≠k:=fun e=>cR (by rw[e])
 simp[putRow,mapBlock,Sort.ahead,Array.getElem?_modify,this]
theorem zwv{w:World}{g off n:Nat}{os:Array Obj}{cur:Array Value}{e:TypeId}{fr:Nat × Nat}(d:Array Int)(hb:w.heap[g]? =some (.cells cur e fr)):
  (grow (putRow (Value.int .i64) (Sort.ahead w n) g off d) os).heap[g]? =some (.cells (putCells (Value.int .i64) off d cur) e fr):=by
 have hg:g<w.heap.size:=(oh.1 hb).1
 rw[heap_grow_old _ _ (by simpa using hg)]
 simp[putRow,mapBlock,Sort.ahead,Array.getElem?_modify,hb,onCells]
theorem jr1{off:Nat}{d:List Int}{cur:Array Value}{j:Nat}(hj:j<d.length)(hc:off+d.length≤cur.size):(putCells (Value.int .i64) off d.toArray cur).getD (off+j) undef= .int .i64 (nth d j):=by
 unfold putCells
 rw[nK,Array.getElem?_mapIdx,Array.getElem?_eq_getElem (by omega)]
 simp only[Option.map_some,Option.getD_some]
 rw[if_pos (by simp;omega),show off+j - off=j by omega,getElem!_pos _ _ (by simpa using hj),o7 hj]
 simp
theorem jr2{H:av}{id:Nat}{l:List Int}(hid:H[id]? =some (.cells (ak (l.map iD))))(h0:l≠[])(hl:l.length≤1000000):
  w6 prog 203 [.os 1 id 0 l.length] H fun x H'=>x= .dR []∧H'=H.set id (.cells (ak ((xy l).map iD))):=by
 refine⟨by kernel_rfl,fun E w pl vals PN hx hh hE=>?_⟩
 have hpos:0<l.length:=List.length_pos_iff.2 h0
 obtain⟨v,rfl⟩:∃v,vals=#[v]:=⟨vals.getD 0 undef,by
  apply Array.ext
  ·simpa using PN
  ·intro i hi _
   have:i=0:=by simp at PN;omega
   subst this
   simp[Array.getD,PN]⟩
 have hv:Rd w pl (bF E H pl) (.os 1 id 0 l.length) v:=hx 0 _ rfl
 have hR:aV ⟨E,w,gu H pl,0,pl,none,w.heap.size⟩ (fun _=>.any) H [] pl {tmps:=#[],defers:=[]} w:=
  ⟨hh,jK.refl _ _,fun id o p h1 h2 h3=>.inl ⟨id,o,p.2,h1,h2,h3⟩,hE,fun t=>.any _,rfl,sZ.nil,fun i p hi=>hi⟩
 generalize ke:l.length=n at hv
 cases hv with
 |lU=>omega
 |os _ _ _ _ cap b base sz t hp fl hn G9 hz=>
  rcases hh.obj _ _ hid with⟨h1,h2⟩|⟨b',gG,arr,t',k1,k2,k3,k4⟩
  ·rw[hp]at h2;cases h2
  ·rw[hp]at k1;cases k1
   rw[oe,List.length_map]at k3
   have Hs:∀j,j<l.length→arr.getD (base+j) undef= .int .i64 (nth l j):=fun j hj=>by
    have:=(k4 j (.d (iD (nth l j))) (by rw[BK,db hj];rfl)).1
    exact this.B2
   have hH:Holds (Value.int .i64) w b (base+0) l.toArray:=fun j hj=>by
    have kQ:j<l.length:=by simpa using hj
    refine⟨?_,by simp[World.frozen?,k2]⟩
    rw[Nat.add_zero,cell_of_row _ _ _ _ _ _ k2]
    have h1:=Hs j kQ
    rw[Array.getD,dif_pos (by omega)]at h1
    rw[Array.getElem?_eq_getElem (by omega),getElem!_pos _ _ (by simpa using kQ)]
    rw[show arr[base+j]= .int .i64 (nth l j) from h1,o7 kQ];simp
   have po:b<w.heap.size:=(oh.1 k2).1
   subst ke
   refine(Any.slices_Sort_int jlp b (base+0) cap l w hH po (by omega)).mono fun e w' ⟨he,m,os,Pl⟩=>?_
   subst Pl
   have Eo:=jht l
   have ze:(putCells (Value.int .i64) (base+0) (xy l).toArray arr).size=arr.size:=by simp[putCells]
   have h1:=hR.Nw hid hp k2 (zwu (n:=m) (os:=os) (xy l).toArray) (zwv (n:=m) (os:=os) (xy l).toArray k2) ze (cs':=ak ((xy l).map iD)) ⟨by rw[oe,List.length_map,Eo,ze];exact k3,fun j x hj=>by
    have oQ:j<(xy l).length:=by have:=(ew.1 hj).1;simpa[oe]using this
    rw[BK,db oQ]at hj
    cases hj
    have:=jr1 (off:=base+0) (cur:=arr) oQ (by omega)
    rw[Nat.add_zero]at this ⊢
    rw[this]
    exact⟨.d _ _ (.val _),rfl⟩⟩
   exact⟨_,.dR [],_,pl,he,⟨rfl,rfl⟩,.dR _ _ rfl (fun j x hj=>by simp at hj),h1.h,h1.lR,fun b' ⟨i,o,e,b1,b2,b3⟩=>h1.js i o (b',e) b1 b2 b3,h1.keep⟩
set_option maxRecDepth 100000
set_option maxHeartbeats 4000000
end
section
open Go Go.RowKit
theorem Yj{p q:Prop}(hq:q)(h:p=q:=by
 conv=>lhs;simp -dsimp -implicitDefEqProofs (disch:=first|assumption|omega|(simp only[aH]<;>omega)|decide) only[aN,↓reduceIte,Nat.reduceEqDiff,Nat.reduceAdd,D.fix,Int.reduceToNat,Nat.reduceMul,Nat.reduceBNe,Nat.reduceBEq,dt,dp,bQ,bt,bw]):p:=h.mpr hq
theorem jhu(n:Net)(hi:n.ins.length≤1000000)(hg:n.gates.length≤1000000):dq prog 64 [dt n] (.d (iD (2+n.ins.length+n.gates.length))):=by
 refine fh (fn:=f64) (by kernel_rfl) func64 rfl (cn rfl) fun c hc hp=>?_
 refine dY (τ':=aF [(0,.d (dt n))]) (by repeat (first|exact cw _|refine cg ?_ (by first|rfl|(simp[aX];done)|simp[aX, *]))) ?_
 refine ah (Yj ·) ?_
 refine ah (Yj ·) ?_
 refine aM ?_
 show ai _ _=_
 simp (disch:=first|assumption|omega|(simp only[aH]<;>omega)|decide) only[fA,Nat.reduceAdd,D.fix,↓reduceIte,Nat.reduceEqDiff,dt,dp,bQ,bt]
end
section
open Go Go.RowKit
theorem yjw:(type_of% @Yl):=@Yl
def Ly(m:Nat)(l:List Int):Prop:=∀k,k<l.length→0≤nth l k∧nth l k<m
structure nB (w:aT):Prop where
 k1:1≤w.kind
 k4:w.kind≤4
 i0:0≤w.i
 b0:0≤w.bit
 b7:w.bit≤7
 i2:w.i≤1000000
structure jQ (w:aT):Prop where
 k:w.kind=1∨(5≤w.kind∧w.kind≤10)
 i0:0≤w.i
 b0:0≤w.bit
 b7:w.bit≤7
 i2:w.i≤1000000
structure rh (g:Gate):Prop where
 c:g.op≤4→g.c=0
 b:g.op=1→g.b=0
 n:g.op≠7→g.n=0
 m:g.n≤63
theorem Mf{α:Type}{P:α→Prop}{l:List α}{a:α}(h:∀x∈l,P x)(ha:P a):∀x∈l++[a],P x:=fun x hx=>by
 rcases p6.1 hx with hx|hx
 ·exact h x hx
 ·rw[rN.1 hx];exact ha
end
section
open Go Go.RowKit
theorem yjx:(type_of% @vN):=@vN
structure Head where
 has:Bool
 v:Int
instance:Inhabited Head:=⟨⟨false,0⟩⟩
structure EF where
 aC:List Int
 au:List (List Int)
 deriving Inhabited
end
end Go.Proofs.YtapjobndmmkanaaGreat
