/- The library's sort, of a row of the caller's own. -/
import Derived.Test.YtfolbdkbpmgjgaaAZ
import Derived.Test.YtfolbdkbpmgjgaaSx
import Derived.Test.YtfolbdkbpmgjgaaTy
import Derived.Sort.OwnSortedInts
set_option linter.unusedVariables false
set_option linter.unusedSimpArgs false
namespace Go.Proofs.Ytfolbdkbpmgjgaa
open Go Go.RowKit Go.Sort
abbrev leI:Int→Int→Bool:=fun x y=>decide (x≤y)
def zcb(l:List Int):List Int:=l.mergeSort leI
theorem jdk:∀a b c:Int,leI a b=true→leI b c=true→leI a c=true:=fun a b c h1 h2=>by simp only[leI,decide_eq_true_eq]at *;omega
theorem jdl:∀a b:Int,(leI a b||leI b a)=true:=fun a b=>by simp only[leI,Bool.or_eq_true,decide_eq_true_eq];omega
theorem zbv(l:List Int):(zcb l).length=l.length:=by simp[zcb]
section
variable {c:Cx} {τ:Fr} {a:Act} {w w':World} {pl:List (Option (Nat × Nat))} {H:zaa}
theorem RelS.turn(h:RelS c τ H [] pl a w){id b base:Nat}{cs cs':List AV}{arr arr':Array Value}{t:TypeId}(hid:H[id]? =some (.cells cs))(hp:pl[id]? =some (some (b,base)))(hg:w.heap[b]? =some (.cells arr t (0,0)))(hw:w.grownBy w' (some b))(hg':w'.heap[b]? =some (.cells arr' t (0,0)))
  (hsz:arr'.size=arr.size) (hr:RowRd w pl (za4 c.E H pl) arr' base cs'):RelS c τ (H.set id (.cells cs')) [] pl a w':=by
 have h2:=h.write hid hp hg (fun p hp=>by cases hp) hsz hr
 have hs:(w.setRow b arr').heap.size=w.heap.size:=by simp
 refine h2.below ⟨hw.os,hw.tape,hw.output,by rw[hs];exact hw.size,fun k hk=>?_⟩
 rw[hs]at hk
 by_cases e:k=b
 ·subst e;rw[hg',setRow_heap w k arr arr' t _ hg]
 ·rw[setRow_other w b k arr' e];exact hw.block k hk fun e'=>e (by cases e';rfl)
end
theorem znt{w:World}{g off n:Nat}{os:Array Obj}(d:Array Int):w.grownBy (grow (putRow (Value.int .i64) (Sort.ahead w n) g off d) os) (some g):=by
 refine⟨rfl,rfl,rfl,by simp,fun k hk hne=>?_⟩
 rw[heap_grow_old _ _ (by simpa using hk)]
 have:g≠k:=fun e=>hne (by rw[e])
 simp[putRow,mapBlock,Sort.ahead,Array.getElem?_modify,this]
theorem znu{w:World}{g off n:Nat}{os:Array Obj}{cur:Array Value}{e:TypeId}{fr:Nat × Nat}(d:Array Int)(hb:w.heap[g]? =some (.cells cur e fr)):
  (grow (putRow (Value.int .i64) (Sort.ahead w n) g off d) os).heap[g]? =some (.cells (putCells (Value.int .i64) off d cur) e fr):=by
 have hg:g<w.heap.size:=(Array.getElem?_eq_some_iff.1 hb).1
 rw[heap_grow_old _ _ (by simpa using hg)]
 simp[putRow,mapBlock,Sort.ahead,Array.getElem?_modify,hb,onCells]
theorem zwr{off:Nat}{d:List Int}{cur:Array Value}{j:Nat}(hj:j<d.length)(hc:off+d.length≤cur.size):(putCells (Value.int .i64) off d.toArray cur).getD (off+j) undef= .int .i64 (nth d j):=by
 unfold putCells
 rw[Array.getD_eq_getD_getElem?,Array.getElem?_mapIdx,Array.getElem?_eq_getElem (by omega)]
 simp only[Option.map_some,Option.getD_some]
 rw[if_pos (by simp;omega),show off+j - off=j by omega,getElem!_pos _ _ (by simpa using hj),za5 hj]
 simp
theorem jfj{H:zaa}{id:Nat}{l:List Int}(hid:H[id]? =some (.cells (avs (l.map iD))))(h0:l≠[])(hl:l.length≤1000000):
  IcS Try.prog 45 [.os 1 id 0 l.length] H fun x H'=>x= .tup []∧H'=H.set id (.cells (avs ((zcb l).map iD))):=by
 refine⟨by kernel_rfl,fun E w pl vals hlv hx hh hE=>?_⟩
 have hpos:0<l.length:=List.length_pos_iff.2 h0
 obtain⟨v,rfl⟩:∃v,vals=#[v]:=⟨vals.getD 0 undef,by
  apply Array.ext
  ·simpa using hlv
  ·intro i hi _
   have:i=0:=by simp at hlv;omega
   subst this
   simp[Array.getD,hlv]⟩
 have hv:Rd w pl (za4 E H pl) (.os 1 id 0 l.length) v:=hx 0 _ rfl
 have hR:RelS ⟨E,w,zco H pl,0,pl,none,w.heap.size⟩ (fun _=>.any) H [] pl {tmps:=#[],defers:=[]} w:=
  ⟨hh,Stp.refl _ _,fun id o p h1 h2 h3=>.inl ⟨id,o,p.2,h1,h2,h3⟩,hE,fun t=>.any _,rfl,Dfk.nil,fun i p hi=>hi⟩
 generalize hll:l.length=n at hv
 cases hv with
 |os0=>omega
 |os _ _ _ _ cap b base sz t hp hsh hn hmx hz=>
  rcases hh.obj _ _ hid with⟨h1,h2⟩|⟨b',base',arr,t',k1,k2,k3,k4⟩
  ·rw[hp]at h2;cases h2
  ·rw[hp]at k1;cases k1
   rw[zcs,List.length_map]at k3
   have hcell:∀j,j<l.length→arr.getD (base+j) undef= .int .i64 (nth l j):=fun j hj=>by
    have:=(k4 j (.d (iD (nth l j))) (by rw[zeu,zbk hj];rfl)).1
    exact this.val_eq
   have hH:Holds (Value.int .i64) w b (base+0) l.toArray:=fun j hj=>by
    have hj':j<l.length:=by simpa using hj
    refine⟨?_,by simp[World.frozen?,k2]⟩
    rw[Nat.add_zero,cell_of_row _ _ _ _ _ _ k2]
    have h1:=hcell j hj'
    rw[Array.getD,dif_pos (by omega)]at h1
    rw[Array.getElem?_eq_getElem (by omega),getElem!_pos _ _ (by simpa using hj')]
    rw[show arr[base+j]= .int .i64 (nth l j) from h1,za5 hj'];simp
   have hblk:b<w.heap.size:=(Array.getElem?_eq_some_iff.1 k2).1
   subst hll
   refine(Any.slices_Sort_int zz6 b (base+0) cap l w hH hblk (by omega)).mono fun e w' ⟨he,m,os,hw'⟩=>?_
   subst hw'
   have hsl:=zbv l
   have hput:(putCells (Value.int .i64) (base+0) (zcb l).toArray arr).size=arr.size:=by simp[putCells]
   have h1:=hR.turn hid hp k2 (znt (n:=m) (os:=os) (zcb l).toArray) (znu (n:=m) (os:=os) (zcb l).toArray k2) hput (cs':=avs ((zcb l).map iD)) ⟨by rw[zcs,List.length_map,hsl,hput];exact k3,fun j x hj=>by
    have hjl:j<(zcb l).length:=by have:=(List.getElem?_eq_some_iff.1 hj).1;simpa[zcs]using this
    rw[zeu,zbk hjl]at hj
    cases hj
    have:=zwr (off:=base+0) (cur:=arr) hjl (by omega)
    rw[Nat.add_zero]at this ⊢
    rw[this]
    exact⟨.d _ _ (.val _),rfl⟩⟩
   exact⟨_,.tup [],_,pl,he,⟨rfl,rfl⟩,.tup _ _ rfl (fun j x hj=>by simp at hj),h1.h,h1.stp,fun b' ⟨i,o,e,b1,b2,b3⟩=>h1.own0 i o (b',e) b1 b2 b3,h1.keep⟩
end Go.Proofs.Ytfolbdkbpmgjgaa
