/- The library's sort and compact, of a row of the caller's own. -/
import Derived.Test.YtfolbdkbpmgjgaaSa
import Derived.Test.YtfolbdkbpmgjgaaSy
import Derived.Test.YtfolbdkbpmgjgaaKb
set_option linter.unusedVariables false
set_option linter.unusedSimpArgs false
namespace Go.Proofs.Ytfolbdkbpmgjgaa
open Go Go.RowKit Go.Sort
section
variable {P:Program} {H:zaa}
theorem jai{f:FuncId}{xs:List AV}{ds:List D}{r:AV}(hp:zas P f ds r)(hd:∀(w:World) (pl:List (Option (Nat × Nat))) (own:Nat→Prop) (vals:Array Value),vals.size=xs.length→(∀j x,xs[j]? =some x→Rd w pl own x (vals.getD j undef))→vals.size=ds.length∧∀j x,ds[j]? =some x→RdD w own x (vals.getD j undef)):IcS P f xs H fun x H'=>x=r∧H'=H:=by
 refine⟨hp.1,fun E w pl vals hl hx hh hE=>?_⟩
 have hR:RelS ⟨E,w,zco H pl,0,pl,none,w.heap.size⟩ (fun _=>.any) H [] pl {tmps:=#[],defers:=[]} w:=
  ⟨hh,Stp.refl _ _,fun id o p h1 h2 h3=>.inl ⟨id,o,p.2,h1,h2,h3⟩,hE,fun t=>.any _,rfl,Dfk.nil,fun i p hi=>hi⟩
 obtain⟨l1,l2⟩:=hd w pl (za4 E H pl) vals hl hx
 refine(hp.2 w (za4 E H pl) vals l1 l2 hR.own_lt).mono fun e w' ⟨v,he,hr,hb⟩=>?_
 have h1:=hR.below hb
 exact⟨v,_,H,pl,he,⟨rfl,rfl⟩,hr.mono (Nat.le_refl _) (fun _ _ _=>rfl) (fun _ _ h=>h) (fun _ _ h=>h) (fun i p hp=>by simp at hp),h1.h,h1.stp,fun b ⟨i,o,e,b1,b2,b3⟩=>h1.own0 i o (b,e) b1 b2 b3,h1.keep⟩
end
theorem jfo:zas Try.prog 45 [.fs [] 0] (.tup []):=zhk (n:=60) mixed zam (by kernel_rfl)
theorem sort0_ic{H:zaa}{id:Nat}:IcS Try.prog 45 [.os 1 id 0 0] H fun x H'=>x= .tup []∧H'=H:=
 jai jfo fun w pl own vals hl hx=>⟨hl,fun j x hj=>by
  match j,hj with
  |0,hj=>
   cases hj
   have h0:=hx 0 _ rfl
   generalize vals.getD 0 undef=v at h0 ⊢
   cases h0 with
   |os _ _ _ _ cap b base sz t hp hsh hn hm hz=>exact .f0 _ cap hm (fun e=>by cases e)
   |os0 _ _ _ a=>exact .f0 a 0 (Nat.zero_le _) (fun _=>rfl)⟩
theorem jaj{H:zaa}{id:Nat}{l:List Int}(hid:H[id]? =some (.cells (avs (l.map iD))))(hl:l.length≤1000000):IcS Try.prog 45 [.os 1 id 0 l.length] H fun x H'=>x= .tup []∧H'=H.set id (.cells (avs ((zcb l).map iD))):=by
 by_cases h0:l=[]
 ·subst h0
  refine sort0_ic.mono fun x H' ⟨h1,h2⟩=>⟨h1,?_⟩
  rw[h2]
  have:zcb []=[]:=by simp[zcb]
  rw[this]
  refine(List.ext_getElem? fun i=>?_).symm
  rw[List.getElem?_set]
  split
  ·rename_i e;subst e;rw[if_pos (List.getElem?_eq_some_iff.1 hid).1,hid]
  ·rfl
 ·exact jfj hid h0 hl

theorem zwt{w:World}{g off n:Nat}(d:Array Int):w.grownBy (putRow (Value.int .i64) (Sort.ahead w n) g off d) (some g):=by
 refine⟨rfl,rfl,rfl,by simp,fun k hk hne=>?_⟩
 have:g≠k:=fun e=>hne (by rw[e])
 simp[putRow,mapBlock,Sort.ahead,Array.getElem?_modify,this]
theorem jak{w:World}{g off n:Nat}{cur:Array Value}{e:TypeId}{fr:Nat × Nat}(d:Array Int)(hb:w.heap[g]? =some (.cells cur e fr)):
  (putRow (Value.int .i64) (Sort.ahead w n) g off d).heap[g]? =some (.cells (putCells (Value.int .i64) off d cur) e fr):=by
 simp[putRow,mapBlock,Sort.ahead,Array.getElem?_modify,hb,onCells]
def cpI(l:List Int):List Int:=Lib.compact l
theorem jkr(l:List Int):(cpI l).length≤l.length:=by
 unfold cpI Lib.compact Lib.compactUpTo
 rw[List.length_map]
 exact Nat.le_trans (List.length_filter_le _ _) (by simp)
theorem zs9{H:zaa}{id:Nat}{l:List Int}(hid:H[id]? =some (.cells (avs (l.map iD))))(hl:l.length≤1000000):
  IcS Try.prog 58 [.os 1 id 0 l.length] H fun x H'=>x= .os 1 id 0 (cpI l).length∧H'=H.set id (.cells (avs ((cpI l).map iD))):=by
 refine⟨by kernel_rfl,fun E w pl vals hlv hx hh hE=>?_⟩
 obtain⟨v,rfl⟩:∃v,vals=#[v]:=⟨vals.getD 0 undef,by
  apply Array.ext
  ·simpa using hlv
  ·intro i hi _
   have:i=0:=by simp at hlv;omega
   subst this
   simp[Array.getD,hlv]⟩
 have hv:Rd w pl (za4 E H pl) (.os 1 id 0 l.length) v:=hx 0 _ rfl
 have hR:RelS ⟨E,w,zco H pl,0,pl,none,w.heap.size⟩ (fun _=>.any) H [] pl {tmps:=#[],defers:=[]} w:=
  ⟨hh,Stp.refl _ _,fun id o p h1 h2 h3=>.inl ⟨id,o,p.2,h1,h2,h3⟩,hE,fun t=>.any _,rfl,Dfk.nil,fun i p hi=>hi⟩
 have hset0:l=[]→H.set id (.cells (avs ((cpI l).map iD)))=H:=fun e=>by
  subst e
  refine(List.ext_getElem? fun i=>?_)
  rw[List.getElem?_set]
  split
  ·rename_i e;subst e;rw[if_pos (List.getElem?_eq_some_iff.1 hid).1,hid];rfl
  ·rfl
 by_cases h0:l=[]
 ·rw[hset0 h0]
  subst h0
  have hv2:=hv
  cases hv with
  |os0 _ _ _ a=>
   refine(Any.slices_Compact_int_empty zgj a 0 w).mono fun e w' ⟨he,hw'⟩=>?_
   subst hw'
   exact⟨_,_,H,pl,he,⟨rfl,rfl⟩,hv2,hR.h,hR.stp,fun b ⟨i,o,e,b1,b2,b3⟩=>hR.own0 i o (b,e) b1 b2 b3,hR.keep⟩
  |os _ _ _ _ cap b base sz t hp hsh hn hmx hz=>
   refine(Any.slices_Compact_int_empty zgj _ cap w).mono fun e w' ⟨he,hw'⟩=>?_
   subst hw'
   exact⟨_,_,H,pl,he,⟨rfl,rfl⟩,hv2,hR.h,hR.stp,fun b ⟨i,o,e,b1,b2,b3⟩=>hR.own0 i o (b,e) b1 b2 b3,hR.keep⟩
 ·have hpos:0<l.length:=List.length_pos_iff.2 h0
  generalize hll:l.length=n at hv
  cases hv with
  |os0=>omega
  |os _ _ _ _ cap b base sz t hp hsh hn hmx hz=>
   rcases hh.obj _ _ hid with⟨h1,h2⟩|⟨b',base',arr,t',k1,k2,k3,k4⟩
   ·rw[hp]at h2;cases h2
   ·rw[hp]at k1;cases k1
    rw[zcs,List.length_map]at k3
    have hcell:∀j,j<l.length→arr.getD (base+j) undef= .int .i64 (nth l j):=fun j hj=>by
     have:=(k4 j (.d (iD (nth l j))) (by rw[zeu,zbk hj];rfl)).1
     exact this.val_eq
    have hH:Holds (Value.int .i64) w b (base+0) l.toArray:=fun j hj=>by
     have hj':j<l.length:=by simpa using hj
     refine⟨?_,by simp[World.frozen?,k2]⟩
     rw[Nat.add_zero,cell_of_row _ _ _ _ _ _ k2]
     have h1:=hcell j hj'
     rw[Array.getD,dif_pos (by omega)]at h1
     rw[Array.getElem?_eq_getElem (by omega),getElem!_pos _ _ (by simpa using hj')]
     rw[show arr[base+j]= .int .i64 (nth l j) from h1,za5 hj'];simp
    subst hll
    refine(Any.slices_Compact_int zgj b (base+0) cap l w hH (by omega) hn).mono fun e w' ⟨he,m,hw'⟩=>?_
    subst hw'
    have hle:=jkr l
    obtain⟨d,hd⟩:∃d:List Int,d=Lib.compact l++List.replicate (l.length - (Lib.compact l).length) 0:=⟨_,rfl⟩
    have hdl:d.length=l.length:=by rw[hd];simp;unfold cpI at hle;omega
    rw[←hd]
    rw[show(Lib.compact l).length=(cpI l).length from rfl]at he
    have hput:(putCells (Value.int .i64) (base+0) d.toArray arr).size=arr.size:=by simp[putCells]
    have h1:=hR.turn hid hp k2 (zwt (n:=m) d.toArray) (jak (n:=m) d.toArray k2) hput (cs':=avs ((cpI l).map iD)) ⟨by rw[zcs,List.length_map,hput];omega,fun j x hj=>by
     have hjl:j<(cpI l).length:=by have:=(List.getElem?_eq_some_iff.1 hj).1;simpa[zcs]using this
     rw[zeu,zbk hjl]at hj
     cases hj
     have:=zwr (off:=base+0) (cur:=arr) (d:=d) (j:=j) (by omega) (by omega)
     rw[Nat.add_zero]at this ⊢
     rw[this]
     have e2:nth d j=nth (cpI l) j:=by
      rw[za5 (by omega),za5 hjl]
      simp only[hd]
      exact List.getElem_append_left (show j<(Lib.compact l).length from hjl)
     rw[e2]
     exact⟨.d _ _ (.val _),rfl⟩⟩
    exact⟨_,_,_,pl,he,⟨rfl,rfl⟩,.os 1 id 0 (cpI l).length cap b base sz t hp (h1.stp.shape _ _ hsh) (by omega) hmx hz,h1.h,h1.stp,fun b' ⟨i,o,e,b1,b2,b3⟩=>h1.own0 i o (b',e) b1 b2 b3,h1.keep⟩
end Go.Proofs.Ytfolbdkbpmgjgaa
