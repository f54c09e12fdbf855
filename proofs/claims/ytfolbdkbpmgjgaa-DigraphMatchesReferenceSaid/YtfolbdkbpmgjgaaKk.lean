/- The library's sort, laid at this program. -/
import Derived.Test.YtfolbdkbpmgjgaaProg
import Derived.Shelf.Slices.SearchI
import Derived.Shelf.Lays2
import Derived.Shelf.Bodies2
import Derived.Shelf.Spec.SlicesInsertGrow
import Derived.Test.YtfolbdkbpmgjgaaKc
namespace Go.Proofs.Ytfolbdkbpmgjgaa
open Go.Shelf
def zxd:Ren where
 f x:=match x with
  |25=>51
  |31=>62
  |32=>63
  |37=>85
  |n=>n
 t x:=match x with
  |22=>26
  |3=>3
  |4=>4
  |40=>91
  |0=>0
  |n=>n
 g x:=x
theorem ztg:Lays2.n25 Try.prog zxd:=
{mixed:=by kernel_rfl,f25:=Eq.trans Try.func51 (congrArg some (by kernel_rfl)),
 f31:=Eq.trans Try.func62 (congrArg some (by kernel_rfl)),
 f32:=Eq.trans Try.func63 (congrArg some (by kernel_rfl)),
 f37:=Eq.trans Try.func85 (congrArg some (by kernel_rfl)),
 t0:=Try.underlying0,a0:=Try.isAgg0,z0:=Try.sizeOf0,v0:=Try.zeroValue0,
 t3:=Try.underlying3,a3:=Try.isAgg3,z3:=Try.sizeOf3,v3:=Try.zeroValue3,
 t4:=Try.underlying4,a4:=Try.isAgg4,z4:=Try.sizeOf4,v4:=Try.zeroValue4,
 t22:=Try.underlying26,a22:=Try.isAgg26,z22:=Try.sizeOf26,v22:=Try.zeroValue26,
 t40:=Try.underlying91,a40:=Try.isAgg91,z40:=Try.sizeOf91,v40:=Try.zeroValue91}
/- The library's sort, laid at this program. -/
def insertRen:Ren where
 f x:=match x with
  |21=>52
  |27=>64
  |28=>65
  |35=>86
  |39=>95
  |n=>n
 t x:=match x with
  |22=>26
  |3=>3
  |4=>4
  |0=>0
  |n=>n
 g x:=x
theorem zej:Lays2.n21 Try.prog insertRen:=
{mixed:=by kernel_rfl,f21:=Eq.trans Try.func52 (congrArg some (by kernel_rfl)),
 f27:=Eq.trans Try.func64 (congrArg some (by kernel_rfl)),
 f28:=Eq.trans Try.func65 (congrArg some (by kernel_rfl)),
 f35:=Eq.trans Try.func86 (congrArg some (by kernel_rfl)),
 f39:=Eq.trans Try.func95 (congrArg some (by kernel_rfl)),
 t0:=Try.underlying0,a0:=Try.isAgg0,z0:=Try.sizeOf0,v0:=Try.zeroValue0,
 t3:=Try.underlying3,a3:=Try.isAgg3,z3:=Try.sizeOf3,v3:=Try.zeroValue3,
 t4:=Try.underlying4,a4:=Try.isAgg4,z4:=Try.sizeOf4,v4:=Try.zeroValue4,
 t22:=Try.underlying26,a22:=Try.isAgg26,z22:=Try.sizeOf26,v22:=Try.zeroValue26,
 i3:=by kernel_rfl}
/- The library's BinarySearch and Insert at lists of ints. -/
set_option linter.unusedVariables false
set_option linter.unusedSimpArgs false
section
open Go Go.RowKit
theorem jas{vals:Array Value}(h:vals.size=2):∃v u,vals=#[v,u]:=⟨vals.getD 0 undef,vals.getD 1 undef,by
 apply Array.ext
 ·simpa using h
 ·intro i hi _
  have:i=0∨i=1:=by omega
  rcases this with rfl|rfl<;>simp[Array.getD,h]⟩
theorem zth{vals:Array Value}(h:vals.size=3):∃v u t,vals=#[v,u,t]:=⟨vals.getD 0 undef,vals.getD 1 undef,vals.getD 2 undef,by
 apply Array.ext
 ·simpa using h
 ·intro i hi _
  have:i=0∨i=1∨i=2:=by omega
  rcases this with rfl|rfl|rfl<;>simp[Array.getD,h]⟩
theorem rdv{w:World}{own:Nat→Prop}{v u:Value}(h:RdD w own (.val v) u):u=v:=by cases h;rfl
theorem zpn(w:World)(q B:Nat):Below B w (w.drewN q):=⟨rfl,rfl,rfl,Nat.le_refl _,fun _ _=>rfl⟩
theorem zxe{l:List Int}(x:Int)(hs:l.Pairwise (·≤·))(hl:l.length≤1000000):zas Try.prog 51 [intsD l,iD x] (.tup [.d (iD ((l.countP (·<x):Nat):Int)),.d (oD (l.contains x))]):=by
 rcases l with _|⟨y,l⟩
 ·exact zhk (n:=60) mixed zam (by kernel_rfl)
 ·refine⟨by kernel_rfl,fun w O vals hlv hx hO=>?_⟩
  obtain⟨v,u,rfl⟩:=jas hlv
  have h0:RdD w O (intsD (y::l)) v:=hx 0 _ rfl
  have h1:RdD w O (iD x) u:=hx 1 _ rfl
  clear hx
  have hu:=rdv h1
  subst hu
  unfold intsD at h0
  generalize hds:(y::l).map iD=ds at h0
  generalize hn':(y::l).length=n at h0
  cases h0 with
  |f0 a cap hm hn=>cases hds
  |fs _ _ cap b off f hb ho hn hm hc h1 hx=>
   subst hds hn'
   have hcell:∀j,j<(y::l).length→w.cell? ⟨b,off+j,none⟩=some (.int .i64 ((y::l).getD j 0)):=fun j hj=>by
    have e:((y::l).map iD)[j]? =some (iD (nth (y::l) j)):=zbk hj
    rw[hc j _ e,rdv (hx j _ e)]
    rw[za5 hj,List.getD_eq_getElem?_getD,List.getElem?_eq_getElem hj];rfl
   refine(Any.slices_BinarySearch_int ztg b off _ cap (y::l) x w (Nat.le_refl _) (by omega) hcell (by rw[List.take_of_length_le (Nat.le_refl _)];exact hs)).mono fun e w' ⟨he,q,hw'⟩=>?_
   subst hw'
   rw[List.take_of_length_le (Nat.le_refl _)]at he
   refine⟨_,he,.tup _ _ rfl fun j z hj=>?_,zpn _ _ _⟩
   match j,hj with
   |0,hj=>cases hj;exact .d _ _ (.val _)
   |1,hj=>cases hj;exact .d _ _ (.val _)
theorem zcx{b:Nat}{t:TypeId}:∀(vs:List Value) (o:Nat) (w:World) (arr:Array Value),w.heap[b]? =some (.cells arr t (0,0))→o+vs.length≤arr.size→
  ∃arr',(w.setCells b o vs).heap[b]? =some (.cells arr' t (0,0))∧arr'.size=arr.size∧(∀k,arr'.getD k undef=if o≤k∧k<o+vs.length then vs.getD (k - o) undef else arr.getD k undef)∧w.grownBy (w.setCells b o vs) (some b)
 |[],o,w,arr,h,_=>⟨arr,h,rfl,fun k=>by rw[if_neg (by rw[List.length_nil];omega)],rfl,rfl,rfl,Nat.le_refl _,fun _ _ _=>rfl⟩
 |v::vs,o,w,arr,h,hl=>by
  rw[List.length_cons]at hl
  have h1:(w.setCell ⟨b,o,none⟩ v).heap[b]? =some (.cells (arr.setIfInBounds o v) t (0,0)):=by
   simp[World.setCell,Array.getElem?_modify,h]
  obtain⟨arr',k1,k2,k3,k4⟩:=zcx vs (o+1) (w.setCell ⟨b,o,none⟩ v) _ h1 (by simp;omega)
  refine⟨arr',k1,by rw[k2];simp,fun k=>?_,k4.os,k4.tape,k4.output,Nat.le_trans (by simp[World.setCell]) k4.size,fun k hk hne=>?_⟩
  ·rw[k3,List.length_cons]
   by_cases h2:k=o
   ·subst h2
    rw[if_neg (by omega),if_pos (by omega)]
    simp[Array.getD_eq_getD_getElem?,Array.getElem?_setIfInBounds]
    rw[if_pos (by omega),Option.getD_some]
   ·by_cases h3:o+1≤k∧k<o+1+vs.length
    ·rw[if_pos h3,if_pos (by omega),show k - o=(k - (o+1))+1 by omega];rfl
    ·rw[if_neg h3,if_neg (by omega)]
     simp[Array.getD_eq_getD_getElem?,Array.getElem?_setIfInBounds,Ne.symm h2]
  ·have hb:k≠b:=fun e=>hne (by rw[e])
   refine(k4.block k (by simpa[World.setCell]using hk) hne).trans ?_
   simp[World.setCell,Array.getElem?_modify,Ne.symm hb]
section
variable {P:Program} {c:Cx} {τ:Fr} {a:Act} {w w':World} {pl:List (Option (Nat × Nat))} {H:zaa}
theorem RelS.moveTo(h:RelS c τ H [] pl a w){id id' b base:Nat}{cs cs':List AV}{arr arr':Array Value}{t:TypeId}(hid:H[id]? =some (.cells cs))(hn:H[id']? =some .free)(hp:pl[id]? =some (some (b,base)))(hg:w.heap[b]? =some (.cells arr t (0,0)))(hw:w.grownBy w' (some b))(hg':w'.heap[b]? =some (.cells arr' t (0,0)))
  (hsz:arr'.size=arr.size) (hk:∀k,k<base→arr'.getD k undef=arr.getD k undef) (hb:base≤arr.size) (hr:∀own,(∀b,own b→za4 c.E H pl b)→RowRd w pl own arr' base cs'):RelS c τ ((H.set id' (.cells cs')).set id .dead) [] (pl.set id' (some (b,base))) a w':=by
 have hne:id≠id':=fun e=>by rw[e,hn]at hid;cases hid
 have h1:RelS c τ (H.set id (.cells [])) [] pl a w:=h.turn (w':=w) (cs':=[]) hid hp hg ⟨rfl,rfl,rfl,Nat.le_refl _,fun _ _ _=>rfl⟩ hg rfl ⟨by simpa using hb,fun j x hj=>by simp at hj⟩
 have hidl:=(List.getElem?_eq_some_iff.1 hid).1
 have hown:∀k,za4 c.E (H.set id (.cells [])) pl k→za4 c.E H pl k:=fun k hk=>by
  rcases hk with hk|⟨i,o,e,h1,h2,h3⟩
  ·exact .inl hk
  ·rcases za2 h1 with⟨rfl,rfl,_⟩|⟨_,h1⟩
   ·exact .inr ⟨i,.cells cs,e,hid,rfl,h3⟩
   ·exact .inr ⟨i,o,e,h1,h2,h3⟩
 have h2:=h1.extend (n:=id') (id:=id) (cs:=[]) (cs':=cs') (base:=base) (off:=0) (arr:=arr) (arr':=arr') (t:=t) (b:=b) (by rw[List.getElem?_set_ne hne];exact hn) (fun p hp=>by cases hp) (by rw[List.getElem?_set_self hidl]) (fun p hp=>by cases hp) hp hg hsz (fun k hk'=>hk k (by simpa using hk')) (hr _ hown) (by simp)
 have h3:=h2.kill id (sh':=[]) (fun i j hm h1 h2=>by
  rcases zcp hm with⟨_,k⟩|⟨_,k⟩|k
  ·exact(h2 k).elim
  ·cases k
  ·cases k) (fun p hp=>by cases hp)
 have hs:(w.setRow b arr').heap.size=w.heap.size:=by simp
 have h4:=h3.below (w':=w') ⟨hw.os,hw.tape,hw.output,by rw[hs];exact hw.size,fun k hk=>?_⟩
 ·have e:(H.set id (.cells [])).set id' (.cells cs')=(H.set id' (.cells cs')).set id (.cells []):=List.set_comm _ _ hne
  rw[e,List.set_set]at h4
  simpa using h4
 ·rw[hs]at hk
  by_cases e:k=b
  ·subst e;rw[hg',setRow_heap w k arr arr' t _ hg]
  ·rw[setRow_other w b k arr' e];exact hw.block k hk fun e'=>e (by cases e';rfl)
end
def zfy(l:List Int)(i:Nat)(x:Int):List Int:=l.take i++x::l.drop i
theorem zg7{l:List Int}{i:Nat}(x:Int)(h:i≤l.length):(zfy l i x).length=l.length+1:=by
 unfold zfy;rw[List.length_append,List.length_cons,List.length_take,List.length_drop];omega
theorem zxf{l:List Int}{i:Nat}(x:Int)(h:i≤l.length){j:Nat}(hj:j<l.length+1):nth (zfy l i x) j=if j<i then nth l j else if j=i then x else nth l (j - 1):=by
 rw[za5 (by rw[zg7 x h];exact hj)]
 have e:(zfy l i x)[j]? =if j<i then l[j]? else if j=i then some x else l[j - 1]? :=by
  unfold zfy
  by_cases h1:j<i
  ·rw[if_pos h1,List.getElem?_append_left (by rw[List.length_take];omega),List.getElem?_take_of_lt h1]
  ·rw[if_neg h1,List.getElem?_append_right (by rw[List.length_take];omega),List.length_take,Nat.min_eq_left h]
   by_cases h2:j=i
   ·rw[if_pos h2,h2];simp
   ·rw[if_neg h2,show j - i=(j - i - 1)+1 by omega,List.getElem?_cons_succ,List.getElem?_drop,show i+(j - i - 1)=j - 1 by omega]
 rw[List.getElem?_eq_getElem (by rw[zg7 x h];exact hj)]at e
 split at e
 ·rw[List.getElem?_eq_getElem (by omega)]at e
  rw[if_pos (by assumption),za5 (by omega)];exact Option.some.inj e
 ·rw[if_neg (by assumption)]
  split at e
  ·rw[if_pos (by assumption)];exact Option.some.inj e
  ·rw[if_neg (by assumption)]
   rw[List.getElem?_eq_getElem (by omega)]at e
   rw[za5 (by omega)];exact Option.some.inj e
theorem jri(l:List Int):∀v∈l.map (Value.int .i64),v.oneCell'=true:=fun v hv=>by obtain⟨x,_,rfl⟩:=List.mem_map.1 hv;rfl
theorem jpa{l:List Int}{j:Nat}{v:Value}(h:(l.map (Value.int .i64))[j]? =some v):j<l.length∧v= .int .i64 (nth l j):=by
 have hj:j<l.length:=by have:=(List.getElem?_eq_some_iff.1 h).1;simpa using this
 rw[zbk hj]at h
 exact⟨hj,(Option.some.inj h).symm⟩
theorem jpb{w:World}{pl:List (Option (Nat × Nat))}{own:Nat→Prop}{arr:Array Value}{base:Nat}{l:List Int}(h1:base+l.length≤arr.size)(h2:∀j,j<l.length→arr.getD (base+j) undef= .int .i64 (nth l j)):RowRd w pl own arr base (avs (l.map iD)):=
 ⟨by rw[zcs,List.length_map];exact h1,fun j x hj=>by
  have hjl:j<l.length:=by have:=(List.getElem?_eq_some_iff.1 hj).1;simpa[zcs]using this
  rw[zeu,zbk hjl]at hj
  cases hj
  rw[h2 j hjl]
  exact⟨.d _ _ (.val _),rfl⟩⟩
theorem zd4{w w' w'':World}{b:Option Nat}(h:w.grownBy w' b)(h':w'.grownBy w'' b):w.grownBy w'' b:=
 ⟨h'.os.trans h.os,h'.tape.trans h.tape,h'.output.trans h.output,Nat.le_trans h.size h'.size,fun k hk hne=>(h'.block k (Nat.lt_of_lt_of_le hk h.size) hne).trans (h.block k hk hne)⟩
theorem zhu(w:World)(b:Option Nat):w.grownBy w.drew b:=⟨rfl,rfl,rfl,Nat.le_refl _,fun _ _ _=>rfl⟩
theorem jat{H:zaa}{id vid id':Nat}{l:List Int}{x:Int}{i:Nat}(hid:H[id]? =some (.cells (avs (l.map iD))))(hvid:H[vid]? =some (.cells (avs [iD x])))(hn:H[id']? =some .free)(hne:vid≠id)(hi:i≤l.length)(hl:l.length≤1000000):
  IcS Try.prog 52 [.os 1 id 0 l.length,.d (iD (i:Int)),.os 1 vid 0 1] H fun r H'=>r= .os 1 id' 0 (l.length+1)∧H'=(H.set id' (.cells (avs ((zfy l i x).map iD)))).set id .dead:=by
 refine⟨by kernel_rfl,fun E w pl vals hlv hx hh hE=>?_⟩
 obtain⟨v,u,t,rfl⟩:=zth hlv
 have hv:Rd w pl (za4 E H pl) (.os 1 id 0 l.length) v:=hx 0 _ rfl
 have hu:Rd w pl (za4 E H pl) (.d (iD (i:Int))) u:=hx 1 _ rfl
 have ht:Rd w pl (za4 E H pl) (.os 1 vid 0 1) t:=hx 2 _ rfl
 clear hx
 have hR:RelS ⟨E,w,zco H pl,0,pl,none,w.heap.size⟩ (fun _=>.any) H [] pl {tmps:=#[],defers:=[]} w:=
  ⟨hh,Stp.refl _ _,fun id o p h1 h2 h3=>.inl ⟨id,o,p.2,h1,h2,h3⟩,hE,fun t=>.any _,rfl,Dfk.nil,fun i p hi=>hi⟩
 have hu':u= .int .i64 (i:Int):=by cases hu with|d _ _ h=>exact rdv h
 subst hu'
 have hil:=zg7 x hi
 have hidn:id≠id':=fun e=>by rw[e,hn]at hid;cases hid
 -- the row that comes in
 cases ht with
 |os _ _ _ _ vc vb vbase vsz vt hvp hvsh hvn hvmx hvz=>
 rcases hh.obj _ _ hvid with⟨h1,_⟩|⟨b0,base0,varr,vt',k1,k2,k3,k4⟩
 ·cases h1
 rw[hvp]at k1;cases k1
 have hvcell:w.cell? ⟨vb,vbase,none⟩=some (.int .i64 x):=by
  have h4:=(k4 0 (.d (iD x)) rfl).1
  have h4':varr.getD vbase undef= .int .i64 x:=by cases h4 with|d _ _ h=>exact rdv h
  rw[zcs]at k3
  have hlt:vbase<varr.size:=by simp at k3;omega
  rw[cell_of_row _ _ _ _ _ _ k2,Array.getElem?_eq_getElem hlt]
  rw[Array.getD,dif_pos hlt]at h4'
  rw[←h4'];rfl
 have hvs:∀j v,([Value.int .i64 x])[j]? =some v→w.cell? ⟨vb,vbase+j,none⟩=some v:=fun j v hj=>by
  match j,hj with
  |0,hj=>cases hj;exact hvcell
 have h1v:∀v∈[Value.int .i64 x],v.oneCell'=true:=fun v hv=>by rw[List.mem_singleton.1 hv];rfl
 -- where a new row comes
 have hgrow:∀(w':World) (arr:Array Value) (te:TypeId) (cap:Nat) (e:Ending),Below w.heap.size w w'→w'.heap[w.heap.size]? =some (.cells arr te (0,0))→l.length+1≤arr.size→cap≤maxLen→l.length+1≤cap→cap≤arr.size→(∀j,j<l.length+1→arr.getD (0+j) undef= .int .i64 (nth (zfy l i x) j))→e= .returned (.slice (some ⟨w.heap.size,0,none⟩) (l.length+1) cap)→
   ∃v r H' pl',e= .returned v∧(r=AV.os 1 id' 0 (l.length+1)∧H'=(H.set id' (.cells (avs ((zfy l i x).map iD)))).set id .dead)∧Rd w' pl' (za4 E H' pl') r v∧RelH E w' pl' H' []∧Stp (zco H pl) w w'∧(∀b,zco H' pl' b→zco H pl b∨w.heap.size≤b)∧(∀(i:Nat) (p:Nat × Nat),pl[i]? =some (some p)→pl'[i]? =some (some p)):=by
  intro w' arr te cap e hb hg hsz hcm hc1 hc2 hcell he
  obtain⟨h1,_⟩:=hR.laid (n:=id') hn (fun p hp=>by cases hp) hb (p:=some (w.heap.size,0)) (fun q hq=>by cases hq;exact Nat.le_refl _) (o:=.cells (avs ((zfy l i x).map iD))) (fun own' _=>.inr ⟨w.heap.size,0,arr,te,zbl hR hn _,hg,jpb (by rw[hil];omega) (by rw[hil];exact hcell)⟩)
  have h2:=h1.kill id (sh':=[]) (fun i j hm=>by cases hm) (fun p hp=>by cases hp)
  refine⟨_,_,_,_,he,⟨rfl,rfl⟩,?_,h2.h,h2.stp,fun b ⟨i,o,e,b1,b2,b3⟩=>h2.own0 i o (b,e) b1 b2 b3,h2.keep⟩
  exact .os 1 id' 0 (l.length+1) cap w.heap.size 0 arr.size te (zbl hR hn _) (by unfold World.shape?;rw[hg]) hc1 hcm (by omega)
 have hzl:(Value.int .i64 0).cells.size=1:=rfl
 have hset:∀(j:Nat),j<l.length+1→nth (zfy l i x) j=if j<i then nth l j else if j=i then x else nth l (j - 1):=fun j hj=>zxf x hi hj
 simp only[Nat.add_zero]
 generalize hll:l.length=n at hv
 cases hv with
 |os0 _ _ _ ad=>
  have hl0:l=[]:=List.eq_nil_of_length_eq_zero hll
  subst hl0
  have hi0:i=0:=by simpa using hi
  subst hi0
  have hge:=grownCap_ge w (0+1) 0 (insertRen.t 3)
  have hle:=grownCap_le_maxLen w (0+1) 0 (insertRen.t 3) (by unfold maxLen;omega)
  refine(Any2.slices_Insert_int_end_grow zej ad 0 0 vb vbase 1 vc [] [.int .i64 x] w (by omega) (Nat.le_refl _) (by omega) (by omega) rfl rfl (fun _=>rfl) (fun _ _ j v hj=>by simp at hj) hvs h1v).mono fun e w' ⟨he,hw'⟩=>?_
  subst hw'
  refine hgrow _ _ _ _ e (by exact⟨rfl,rfl,rfl,by simp[World.alloc],fun k hk=>heap_alloc_old _ _ hk⟩) (by exact heap_alloc_new w.drew _) (by first|(simp;done)|(simp;omega)) hle hge (by rw[Array.size_append,size_zeroCells,hzl];first|(simp;done)|(simp;omega)) (fun j hj=>?_) he
  have hj0:j=0:=by simpa using hj
  subst hj0
  rw[hset 0 hj,Array.getD_eq_getD_getElem?,Nat.zero_add,Array.getElem?_append_left (by simp)];rfl
 |os _ _ _ _ cap b base sz te hp hsh hnc hmx hz=>
  subst hll
  simp only[Nat.add_zero]
  rcases hh.obj _ _ hid with⟨h1,h2⟩|⟨b',base',arr,t',j1,j2,j3,j4⟩
  ·rw[hp]at h2;cases h2
  rw[hp]at j1;cases j1
  rw[zcs,List.length_map]at j3
  have hszz:sz=arr.size:=by unfold World.shape? at hsh;rw[j2]at hsh;cases hsh;rfl
  subst hszz
  have hcell:∀j,j<l.length→arr.getD (base+j) undef= .int .i64 (nth l j):=fun j hj=>by
   have:=(j4 j (.d (iD (nth l j))) (by rw[zeu,zbk hj];rfl)).1
   exact this.val_eq
  have hat:∀k,k<arr.size→w.cell? ⟨b,k,none⟩=some (arr.getD k undef):=fun k hk=>by
   rw[cell_of_row _ _ _ _ _ _ j2,Array.getElem?_eq_getElem hk,Array.getD,dif_pos hk];rfl
  have hcs:∀j v,(l.map (Value.int .i64))[j]? =some v→w.cell? ⟨b,base+j,none⟩=some v:=fun j v hj=>by
   obtain⟨h1,rfl⟩:=jpa hj
   rw[hat _ (by omega),hcell j h1]
  have hfz:∀k,w.frozen? ⟨b,k,none⟩=false:=fun k=>by simp[World.frozen?,j2]
  have hvb:vb≠b:=hh.dis vid id _ _ _ _ hvid hid rfl rfl hne (by simp) (by simp) hvp hp
  have hmove:∀(w':World) (arr':Array Value) (e:Ending),w'.heap[b]? =some (.cells arr' t' (0,0))→arr'.size=arr.size→(∀k,k<base→arr'.getD k undef=arr.getD k undef)→w.grownBy w' (some b)→l.length+1≤cap→(∀j,j<l.length+1→arr'.getD (base+j) undef= .int .i64 (nth (zfy l i x) j))→e= .returned (.slice (some ⟨b,base,none⟩) (l.length+1) cap)→
    ∃v r H' pl',e= .returned v∧(r=AV.os 1 id' 0 (l.length+1)∧H'=(H.set id' (.cells (avs ((zfy l i x).map iD)))).set id .dead)∧Rd w' pl' (za4 E H' pl') r v∧RelH E w' pl' H' []∧Stp (zco H pl) w w'∧(∀b,zco H' pl' b→zco H pl b∨w.heap.size≤b)∧(∀(i:Nat) (p:Nat × Nat),pl[i]? =some (some p)→pl'[i]? =some (some p)):=by
   intro w' arr' e hg' hs hk hw hc hcell' he
   have h1:=hR.moveTo (id':=id') hid hn hp j2 hw hg' hs hk (by omega) (cs':=avs ((zfy l i x).map iD)) (fun own _=>jpb (by rw[hil];omega) (by rw[hil];exact hcell'))
   refine⟨_,_,_,_,he,⟨rfl,rfl⟩,?_,h1.h,h1.stp,fun b ⟨i,o,e,b1,b2,b3⟩=>h1.own0 i o (b,e) b1 b2 b3,h1.keep⟩
   exact .os 1 id' 0 (l.length+1) cap b base arr'.size t' (zbl hR hn _) (by unfold World.shape?;rw[hg']) hc hmx (by omega)
  by_cases hroom:l.length+1≤cap
  ·by_cases hin:i=l.length
   ·subst hin
    refine(Any2.slices_Insert_int_end_room zej b base l.length cap vb vbase 1 vc [.int .i64 x] w (by omega) hroom (by unfold maxLen at hmx;omega) rfl (fun j hj=>by rw[hat _ (by omega)];rfl) (fun j hj=>hfz _) hvs h1v).mono fun e w' ⟨he,hw'⟩=>?_
    subst hw'
    obtain⟨arr',r1,r2,r3,r4⟩:=zcx [Value.int .i64 x] (base+l.length) w arr j2 (by simp;omega)
    refine hmove _ arr' e r1 r2 (fun k hk=>by rw[r3,if_neg (by omega)]) r4 hroom (fun j hj=>?_) he
    rw[r3,hset j hj]
    by_cases hj':j<l.length
    ·rw[if_neg (by omega),if_pos hj',hcell j hj']
    ·rw[if_pos (by simp;omega),if_neg hj',if_pos (by omega),show base+j - (base+l.length)=0 by omega];rfl
   ·refine(Any2.slices_Insert_int_shift zej b base l.length cap i vb vbase 1 vc (l.map (Value.int .i64)) [.int .i64 x] w (by omega) (by omega) hroom (by unfold maxLen at hmx;omega) hvb (List.length_map _) rfl hcs (fun j hj=>by rw[hat _ (by omega)];rfl) (fun j hj=>hfz _) hvs (jri l) h1v _ _ _ _ hvsh hsh (by omega) (by simp[World.frozen?,k2]) (by simp[World.frozen?,k2])).mono fun e w' ⟨he,hw'⟩=>?_
    subst hw'
    obtain⟨arr1,q1,q2,q3,q4⟩:=zcx ((l.map (Value.int .i64)).drop i) (base+(i+1)) w.drew arr j2 (by simp;omega)
    obtain⟨arr',r1,r2,r3,r4⟩:=zcx [Value.int .i64 x] (base+i) _ arr1 q1 (by simp;omega)
    refine hmove _ arr' e r1 (by omega) (fun k hk=>by rw[r3,if_neg (by omega),q3,if_neg (by omega)]) (zd4 (zd4 (zhu w _) q4) r4) hroom (fun j hj=>?_) he
    rw[r3,hset j hj]
    by_cases hj':j<i
    ·rw[if_neg (by omega),if_pos hj',q3,if_neg (by omega),hcell j (by omega)]
    ·rw[if_neg hj']
     by_cases hji:j=i
     ·rw[if_pos (by simp;omega),if_pos hji,show base+j - (base+i)=0 by omega];rfl
     ·rw[if_neg (by simp;omega),if_neg hji,q3,if_pos (by simp;omega),List.getD_eq_getElem?_getD,List.getElem?_drop,show i+(base+j - (base+(i+1)))=j - 1 by omega,zbk (by omega)];rfl
  ·have hge:=grownCap_ge w (l.length+1) cap (insertRen.t 3)
   have hle:=grownCap_le_maxLen w (l.length+1) cap (insertRen.t 3) (by unfold maxLen;omega)
   by_cases hin:i=l.length
   ·subst hin
    refine(Any2.slices_Insert_int_end_grow zej (some ⟨b,base,none⟩) l.length cap vb vbase 1 vc (l.map (Value.int .i64)) [.int .i64 x] w (by omega) hnc (by omega) (by omega) (List.length_map _) rfl (fun h=>by cases h) (fun a ha j v hj=>by cases ha;rw[zey];exact hcs j v hj) hvs h1v).mono fun e w' ⟨he,hw'⟩=>?_
    subst hw'
    refine hgrow _ _ _ _ e (by exact⟨rfl,rfl,rfl,by simp[World.alloc],fun k hk=>heap_alloc_old _ _ hk⟩) (by exact heap_alloc_new w.drew _) (by first|(simp;done)|(simp;omega)) hle hge (by rw[Array.size_append,size_zeroCells,hzl];first|(simp;done)|(simp;omega)) (fun j hj=>?_) he
    rw[hset j hj,Nat.zero_add,Array.getD_eq_getD_getElem?,Array.getElem?_append_left (by simp;omega),List.getElem?_toArray]
    by_cases hj':j<l.length
    ·rw[if_pos hj',List.getElem?_append_left (by simpa using hj'),zbk hj'];rfl
    ·rw[if_neg hj',if_pos (by omega),List.getElem?_append_right (by simp;omega),List.length_map,show j - l.length=0 by omega];rfl
   ·refine(Any2.slices_Insert_int_grow zej b base l.length cap i vb vbase 1 vc (l.map (Value.int .i64)) [.int .i64 x] w (by omega) (by omega) hnc (by omega) (by omega) (List.length_map _) rfl hcs hvs (jri l) h1v).mono fun e w' ⟨he,hw'⟩=>?_
    generalize hA:(((l.map (Value.int .i64)).take i).toArray++Builtin.zeroCells (Value.int .i64 0).cells (l.length+1 - i)++Builtin.zeroCells (Value.int .i64 0).cells (grownCap w (l.length+1) cap (insertRen.t 3) - (l.length+1)))=A at hw'
    have hAs:A.size=grownCap w (l.length+1) cap (insertRen.t 3):=by rw[←hA,Array.size_append,Array.size_append,size_zeroCells,size_zeroCells,hzl];simp;omega
    have hAg:∀j,j<i→A.getD j undef= .int .i64 (nth l j):=fun j hj=>by
     rw[←hA,Array.getD_eq_getD_getElem?,Array.append_assoc,Array.getElem?_append_left (by simp;omega),List.getElem?_toArray,List.getElem?_take_of_lt hj,zbk (by omega)];rfl
    obtain⟨arr1,q1,q2,q3,q4⟩:=zcx [Value.int .i64 x] i (w.alloc (.cells A (insertRen.t 3))).drew A (heap_alloc_new w _) (by simp;omega)
    obtain⟨arr',r1,r2,r3,r4⟩:=zcx ((l.map (Value.int .i64)).drop i) (i+1) (((w.alloc (.cells A (insertRen.t 3))).drew.setCells w.heap.size i [.int .i64 x]).drew) arr1 q1 (by simp;omega)
    have hg1:(w.alloc (.cells A (insertRen.t 3))).grownBy w' (some w.heap.size):=by rw[hw'];exact zd4 (zd4 (zhu _ _) q4) (zd4 (zhu _ _) r4)
    have hb:Below w.heap.size w w':=⟨hg1.os,hg1.tape,hg1.output,Nat.le_trans ((Below.alloc (Below.refl w.heap.size w) (Nat.le_refl _) (.cells A (insertRen.t 3))).size) hg1.size,fun k hk=>(hg1.block k (by have:=(Below.alloc (Below.refl w.heap.size w) (Nat.le_refl _) (.cells A (insertRen.t 3))).size;omega) (fun e=>by cases e;omega)).trans (heap_alloc_old w _ hk)⟩
    refine hgrow _ arr' _ _ e hb (by rw[hw'];exact r1) (by omega) hle hge (by omega) (fun j hj=>?_) he
    rw[Nat.zero_add,r3,hset j hj]
    by_cases hj':j<i
    ·rw[if_neg (by omega),if_pos hj',q3,if_neg (by omega),hAg j hj']
    ·rw[if_neg hj']
     by_cases hji:j=i
     ·rw[if_neg (by omega),if_pos hji,q3,if_pos (by simp;omega),show j - i=0 by omega];rfl
     ·rw[if_pos (by simp;omega),if_neg hji,List.getD_eq_getElem?_getD,List.getElem?_drop,show i+(j - (i+1))=j - 1 by omega,zbk (by omega)];rfl
end
end Go.Proofs.Ytfolbdkbpmgjgaa
