/- The library's sort, laid at this program. -/
import Derived.Test.YtfolbdkbpmgjgaaProg
import Derived.Shelf.Slices.Clone
import Derived.Shelf.Lays2
import Derived.Shelf.Bodies2
import Derived.Test.YtfolbdkbpmgjgaaJa
import Derived.Test.YtfolbdkbpmgjgaaKk
import Derived.Test.YtfolbdkbpmgjgaaKj
namespace Go.Proofs.Ytfolbdkbpmgjgaa
open Go.Shelf
def ja6:Ren where
 f x:=match x with
  |15=>48
  |n=>n
 t x:=match x with
  |22=>26
  |3=>3
  |4=>4
  |n=>n
 g x:=x
theorem zxt:Lays2.n15 Try.prog ja6:=
{mixed:=by kernel_rfl,f15:=Eq.trans Try.func48 (congrArg some (by kernel_rfl)),
 t3:=Try.underlying3,a3:=Try.isAgg3,z3:=Try.sizeOf3,v3:=Try.zeroValue3,
 t4:=Try.underlying4,a4:=Try.isAgg4,z4:=Try.sizeOf4,v4:=Try.zeroValue4,
 t22:=Try.underlying26,a22:=Try.isAgg26,z22:=Try.sizeOf26,v22:=Try.zeroValue26,
 i3:=by kernel_rfl}
/- Clone of a part of an own row; a row cut short. -/
set_option linter.unusedVariables false
set_option linter.unusedSimpArgs false
section
open Go Go.RowKit
theorem ja7{H:zaa}{id id' off n:Nat}{R:List Nat}(hid:H[id]? =some (.cells (avs (nsD R))))(hn:H[id']? =some .free)(hl:off+n≤R.length)(h0:0<n)(hb:R.length≤1000000):
  IcS Try.prog 48 [.os 1 id off n] H fun x H'=>x= .os 1 id' 0 n∧H'=H.set id' (.cells (avs (nsD ((R.drop off).take n)))):=by
 refine⟨by kernel_rfl,fun E w pl vals hlv hx hh hE=>?_⟩
 obtain⟨v,rfl⟩:∃v,vals=#[v]:=⟨vals.getD 0 undef,by
  apply Array.ext
  ·simpa using hlv
  ·intro i hi _
   have:i=0:=by simp at hlv;omega
   subst this
   simp[Array.getD,hlv]⟩
 have hv:Rd w pl (za4 E H pl) (.os 1 id off n) v:=hx 0 _ rfl
 clear hx
 have hR:RelS ⟨E,w,zco H pl,0,pl,none,w.heap.size⟩ (fun _=>.any) H [] pl {tmps:=#[],defers:=[]} w:=
  ⟨hh,Stp.refl _ _,fun id o p h1 h2 h3=>.inl ⟨id,o,p.2,h1,h2,h3⟩,hE,fun t=>.any _,rfl,Dfk.nil,fun i p hi=>hi⟩
 cases hv with
 |os0=>omega
 |os _ _ _ _ cap b base sz te hp hsh hnc hmx hz=>
  rcases hh.obj _ _ hid with⟨h1,h2⟩|⟨b',base',arr,t',j1,j2,j3,j4⟩
  ·rw[hp]at h2;cases h2
  rw[hp]at j1;cases j1
  rw[zcs,zad]at j3
  have hzl:((zl R).drop off).length=R.length - off:=by rw[List.length_drop,zbe]
  have hcell:∀j,j<((zl R).drop off).length→w.cell? ⟨b,base+off+j,none⟩=some (.int .i64 (((zl R).drop off).getD j 0)):=fun j hj=>by
   rw[hzl]at hj
   have h4:=(j4 (off+j) (.d (iD ((nth R (off+j):Nat):Int))) (by rw[zeu,zbf (by omega)];rfl)).1
   have h5:arr.getD (base+(off+j)) undef= .int .i64 ((nth R (off+j):Nat):Int):=by cases h4 with|d _ _ h=>exact rdv h
   rw[cell_of_row _ _ _ _ _ _ j2,Array.getElem?_eq_getElem (by omega)]
   rw[Array.getD,dif_pos (by omega)]at h5
   have e2:((zl R).drop off).getD j 0=((nth R (off+j):Nat):Int):=by
    rw[←zjt,List.getD_eq_getElem?_getD,List.getElem?_drop,nth,List.getD_eq_getElem?_getD];rfl
   rw[e2,←h5]
   simp only[Nat.add_assoc];rfl
  refine(Any.slices_Clone_int zxt b (base+off) n cap ((zl R).drop off) w (by rw[hzl];omega) (by omega) hcell).mono fun e w' ⟨v',he,ho,hnn,hbw⟩=>?_
  obtain⟨hxl,ho⟩:=ho
  rcases ho with⟨h1,_⟩|⟨g,cp,cur,rfl,hg,hgh,hc1,hc2,hc3,hc4⟩
  ·exact(hnn h1).elim
  ·have hrow:(((zl R).drop off).take n).length=n:=by rw[List.length_take,hzl];omega
   have hns:nsD ((R.drop off).take n)=(((zl R).drop off).take n).map iD:=by unfold nsD zl;rw[List.map_take,List.map_drop]
   obtain⟨h1,_⟩:=hR.laid (n:=id') hn (fun p hp=>by cases hp) hbw (p:=some (g,0)) (fun q hq=>by cases hq;exact hg) (o:=.cells (avs (nsD ((R.drop off).take n)))) (fun own' _=>.inr ⟨g,0,cur,_,zbl hR hn _,hgh,by
    rw[hns]
    exact jpb (by rw[hrow];omega) (fun j hj=>by
     have:=congrArg (fun l=>l[j]?) hc4
     simp only[Nat.mul_one]at this
     rw[hrow]at hj
     rw[List.getElem?_take_of_lt hj,zbk (by rw[hrow];exact hj)]at this
     rw[Nat.zero_add,Array.getD_eq_getD_getElem?,←Array.getElem?_toList,this];rfl)⟩)
   refine⟨_,_,_,_,he,⟨rfl,rfl⟩,?_,h1.h,h1.stp,fun b ⟨i,o,e,b1,b2,b3⟩=>h1.own0 i o (b,e) b1 b2 b3,h1.keep⟩
   exact .os 1 id' 0 n cp g 0 cur.size _ (zbl hR hn _) (by unfold World.shape?;rw[hgh]) hc1 hc2 (by omega)
theorem Rt.trim{m:List Nat}{τ:Fr}{H:zaa}(id k:Nat){cs:List AV}(hid:H[id]? =some (.cells cs)):Rt m τ H τ (H.set id (.cells (cs.take k))):=fun c a w _ ⟨pl,h⟩=>by
 rcases h.h.obj _ _ hid with⟨h1,h2⟩|⟨b,base,arr,t,j1,j2,j3,j4⟩
 ·subst h1
  have:H.set id (.cells (([]:List AV).take k))=H:=by
   refine List.ext_getElem? fun i=>?_
   rw[List.getElem?_set]
   split
   ·rename_i e;subst e;rw[if_pos (List.getElem?_eq_some_iff.1 hid).1,hid];simp
   ·rfl
  rw[this]
  exact⟨pl,h⟩
 ·exact⟨pl,h.turn (w':=w) (cs':=cs.take k) hid j1 j2 ⟨rfl,rfl,rfl,Nat.le_refl _,fun _ _ _=>rfl⟩ j2 rfl ⟨by rw[List.length_take];omega,fun j x hj=>by
   rw[List.getElem?_take]at hj
   split at hj
   ·exact j4 j x hj
   ·cases hj⟩⟩
theorem jpg{R:List Nat}{v k:Nat}(hk:k<R.length)(he:nth R k=v)(hf:∀j,j<k→nth R j≠v)(hl:R.length≤1000000):zas Try.prog 47 [.fs (nsD R) R.length,iD (v:Int)] (.d (iD (k:Int))):=by
 have:=jlj (zl R) (v:Int) (by rw[zbe];exact hl)
 rw[zg8 (k:=k) (by rw[zbe];exact hk) (fun j hj=>by rw[zjt];have:=hf j hj;simp;omega) (by rw[zjt,he];simp)]at this
 unfold intsD at this
 rw[zbe]at this
 exact this
end
end Go.Proofs.Ytfolbdkbpmgjgaa
