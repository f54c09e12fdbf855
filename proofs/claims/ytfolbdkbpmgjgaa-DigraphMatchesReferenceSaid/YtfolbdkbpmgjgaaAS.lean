/- Of no program: what the reading of an input says: it reads as data. -/
import Derived.Test.YtfolbdkbpmgjgaaAR
import Derived.OpenShut
set_option linter.unusedVariables false
set_option linter.unusedSimpArgs false
namespace Go.Proofs.Ytfolbdkbpmgjgaa
open Go Go.RowKit Go.ChangeShapes
section
variable {H:Type} {enc:TypeId × Value→H} {P:Program} {w:World} {sp:Nat→Bool}
def Op(enc:TypeId × Value→H)(P:Program)(w:World)(sp:Nat→Bool)(t:TypeId){α:Type}(f:α→List D)(Ok:α→Prop):Prop:=
 ∀(fuel:Nat) (cs:List Value) (x:DataW H × List MemPlace),DataW.trod enc P w 0 sp true fuel t cs=some x→
  ∃a,Ok a∧(f a).length=cs.length∧(∀j y,(f a)[j]? =some y→RdD w (fun _=>False) y (cs.getD j undef))∧∀c∈cs,c.oneCell'=true
theorem Op.conv{t:TypeId}{α β:Type}{f:α→List D}{Ok:α→Prop}{f':β→List D}{Ok':β→Prop}(h:Op enc P w sp t f Ok)(hc:∀a,Ok a→∃b,Ok' b∧f a=f' b):Op enc P w sp t f' Ok':=fun fuel cs x hx=>by
 obtain⟨a,h1,h2,h3,h4⟩:=h fuel cs x hx
 obtain⟨b,k1,k2⟩:=hc a h1
 exact⟨b,k1,k2▸h2,k2▸h3,h4⟩
theorem zys{y:D}{c:Value}(h:RdD w (fun _=>False) y c):∀(j:Nat) (z:D),[y][j]? =some z→RdD w (fun _=>False) z ([c].getD j undef)
 |0,z,hz=>by cases hz;exact h
 |j+1,z,hz=>by simp at hz
theorem Op.int{t:TypeId}{k:IntKind}(ht:P.underlying t=some (.int k)):Op enc P w sp t (fun n:Int=>[.val (.int k n)]) (fun n=>(Lit.int k n).wf=true):=fun fuel cs x hx=>by
 obtain⟨n,rfl,_,hw⟩:=DataW.trod_int ht hx
 exact⟨n,hw,rfl,zys (.val _),fun c hc=>by rw[List.mem_singleton.1 hc];rfl⟩
theorem zyt{α:Type}{R:Nat→α→Prop}:∀(n:Nat),(∀i,i<n→∃a,R i a)→∃l:List α,l.length=n∧∀i (h:i<l.length),R i l[i]
 |0,_=>⟨[],rfl,fun i h=>by cases h⟩
 |n+1,h=>by
  obtain⟨l,h1,h2⟩:=zyt n fun i hi=>h i (by omega)
  obtain⟨a,ha⟩:=h n (by omega)
  refine⟨l++[a],by simp[h1],fun i hi=>?_⟩
  by_cases hl:i<l.length
  ·rw[List.getElem_append_left hl];exact h2 i hl
  ·have:i=n:=by simp at hi;omega
   subst this
   simpa[h1]using ha
theorem zyu{a:Addr}{c:Value}(h:w.cell? a=some c):a.spot=none∧a.block<w.heap.size:=by
 unfold World.cell? at h
 split at h
 ·rename_i hb
  split at h
  ·cases h
  ·rename_i hs
   exact⟨by simpa using hs,(Array.getElem?_eq_some_iff.1 hb).1⟩
 ·cases h
theorem Op.slice{t e:TypeId}{α:Type}[Inhabited α]{f:α→List D}{Ok:α→Prop}{wd:Nat}(ht:P.underlying t=some (.slice e))(hc:P.cellsOf e=wd)(h0:0<wd)(hw:∀a,(f a).length=wd)(he:Op enc P w sp e f Ok):
  Op enc P w sp t (fun l:List α=>[.fs (l.flatMap f) l.length]) (fun l=>l.length≤maxLen∧∀a∈l,Ok a):=fun fuel cs x hx=>by
 rcases DataW.trod_slice ht hx with⟨rfl,_⟩|⟨a,len,cap,elems,rest,n,_,rfl,_,_,hl,hm,hlen,hel,_,_⟩
 ·exact⟨[],⟨Nat.zero_le _,fun a ha=>by cases ha⟩,rfl,zys (.f0 none 0 (Nat.zero_le _) fun _=>rfl),fun c hc=>by rw[List.mem_singleton.1 hc];rfl⟩
 ·have each:∀i,i<len→∃b,Ok b∧∃cs':List Value,cs'.length=wd∧(∀r,r<wd→w.cell? ((a.add (i*wd)).add r)=cs'[r]?)∧(∀j y,(f b)[j]? =some y→RdD w (fun _=>False) y (cs'.getD j undef))∧∀c∈cs',c.oneCell'=true:=fun i hi=>by
   have h1:=hel i hi
   rw[List.getElem?_eq_getElem (by omega),hc]at h1
   obtain⟨cs',h2,h3⟩:=Option.bind_eq_some_iff.1 h1
   obtain⟨b,k1,k2,k3,k4⟩:=he n cs' _ h3
   obtain⟨_,k5,k6⟩:=World.cells?_some h2
   exact⟨b,k1,cs',k5,k6,k3,k4⟩
  obtain⟨l,hll,hR⟩:=zyt len each
  refine⟨l,⟨by omega,fun b hb=>?_⟩,rfl,zys ?_,fun c hc=>by rw[List.mem_singleton.1 hc];rfl⟩
  ·obtain⟨i,hi,rfl⟩:=List.getElem_of_mem hb
   exact(hR i hi).1
  ·by_cases hz:len=0
   ·subst hz
    have:l=[]:=List.eq_nil_of_length_eq_zero hll
    subst this
    exact .f0 (some a) cap hm (fun e=>by cases e)
   ·have hspot:a.spot=none∧a.block<w.heap.size:=by
     obtain⟨_,cs',k1,k2,_⟩:=hR 0 (by omega)
     have:=k2 0 h0
     rw[Nat.zero_mul,List.getElem?_eq_getElem (by omega)]at this
     exact zyu (by simpa[Addr.add]using this)
    obtain⟨bl,off,spt⟩:=a
    simp only at hspot
    obtain⟨rfl,hbl⟩:=hspot
    rw[←hll]
    have cellAt:∀j,j<l.length*wd→∃c,w.cell? ⟨bl,off+j,none⟩=some c∧c.oneCell'=true∧∀y,(l.flatMap f)[j]? =some y→RdD w (fun _=>False) y c:=fun j hj=>by
     have hi:j / wd<l.length:=(Nat.div_lt_iff_lt_mul h0).2 hj
     have hr:=Nat.mod_lt j h0
     obtain⟨_,cs',k1,k2,k3,k4⟩:=hR _ hi
     have hjj:j / wd*wd+j % wd=j:=by rw[Nat.mul_comm];exact Nat.div_add_mod j wd
     have k5:=k2 (j % wd) hr
     rw[List.getElem?_eq_getElem (by omega)]at k5
     refine⟨cs'[j % wd]'(by omega),?_,k4 _ (List.getElem_mem _),fun y hy=>?_⟩
     ·rw[←k5]
      congr 1
      unfold Addr.add
      split<;>split<;>simp_all<;>omega
     ·rw[←hjj,zz3 hw hi hr,za5 hi]at hy
      have:=k3 _ y hy
      rw[List.getD_eq_getElem?_getD,List.getElem?_eq_getElem (by omega)]at this
      exact this
    have hfl:=zin hw l
    refine .fs (l.flatMap f) l.length cap bl off (fun j=>(w.cell? ⟨bl,off+j,none⟩).getD undef) hbl (fun h=>h) (by omega) hm (fun j y hj=>?_) (fun j y hj=>?_) (fun j y hj=>?_)
    all_goals
     obtain⟨c,c1,c2,c3⟩:=cellAt j (by rw[←hfl];exact(List.getElem?_eq_some_iff.1 hj).1)
     simp only[c1,Option.getD_some]
    ·exact c2
    ·exact c3 y hj
def OpR(enc:TypeId × Value→H)(P:Program)(w:World)(sp:Nat→Bool)(fs:List Field)(o e:Nat){α:Type}(f:α→List D)(Ok:α→Prop):Prop:=
 ∀(fuel:Nat) (cs:List Value),cs.length=e→(∀fd∈fs,∃x,DataW.trod enc P w 0 sp true fuel fd.type ((cs.drop fd.offset).take (P.cellsOf fd.type))=some x)→
  ∃a,Ok a∧o+(f a).length=cs.length∧(∀j y,(f a)[j]? =some y→RdD w (fun _=>False) y (cs.getD (o+j) undef))∧∀j,o≤j→j<cs.length→(cs.getD j undef).oneCell'=true
theorem OpR.nil{o:Nat}:OpR enc P w sp [] o o (fun _:Unit=>[]) (fun _=>True):=fun _ cs hl _=>⟨(),trivial,by simp[hl],fun j y hj=>by simp at hj,fun j h1 h2=>by omega⟩
theorem OpR.cons{fd:Field}{fs:List Field}{o o' e wd:Nat}{α β:Type}{f:α→List D}{Ok:α→Prop}{g:β→List D}{Ok':β→Prop}(ho:fd.offset=o)(hw:P.cellsOf fd.type=wd)(h:Op enc P w sp fd.type f Ok)(hr:OpR enc P w sp fs o' e g Ok')(ho':o+wd=o'):
  OpR enc P w sp (fd::fs) o e (fun p:α × β=>f p.1++g p.2) (fun p=>Ok p.1∧Ok' p.2):=fun fuel cs hl hx=>by
 subst ho ho' hw
 obtain⟨x,hx0⟩:=hx fd (List.mem_cons_self ..)
 obtain⟨a,a1,a2,a3,a4⟩:=h fuel _ x hx0
 obtain⟨b,b1,b2,b3,b4⟩:=hr fuel cs hl fun fd' h'=>hx fd' (List.mem_cons_of_mem _ h')
 have hlen:(f a).length=P.cellsOf fd.type:=by rw[a2,List.length_take,List.length_drop];omega
 have get:∀j,j<P.cellsOf fd.type→((cs.drop fd.offset).take (P.cellsOf fd.type)).getD j undef=cs.getD (fd.offset+j) undef:=fun j hj=>by
  rw[List.getD_eq_getElem?_getD,List.getElem?_take_of_lt hj,List.getElem?_drop,List.getD_eq_getElem?_getD]
 refine⟨(a,b),⟨a1,b1⟩,by simp only[List.length_append];omega,fun j y hj=>?_,fun j h1 h2=>?_⟩
 ·simp only at hj
  by_cases hj1:j<(f a).length
  ·rw[List.getElem?_append_left hj1]at hj
   have:=a3 j y hj
   rwa[get j (by omega)]at this
  ·rw[List.getElem?_append_right (by omega)]at hj
   have:=b3 _ y hj
   rwa[show fd.offset+P.cellsOf fd.type+(j - (f a).length)=fd.offset+j by omega]at this
 ·by_cases hj1:j<fd.offset+P.cellsOf fd.type
  ·have:=get (j - fd.offset) (by omega)
   rw[show fd.offset+(j - fd.offset)=j by omega]at this
   rw[←this,List.getD_eq_getElem?_getD,List.getElem?_eq_getElem (by rw[List.length_take,List.length_drop];omega)]
   exact a4 _ (List.getElem_mem _)
  ·exact b4 j (by omega) h2
theorem Op.str{t:TypeId}{fs:Array Field}{e:Nat}{α:Type}{f:α→List D}{Ok:α→Prop}(ht:P.underlying t=some (.struct fs))(he:P.cellsOf t=e)(h:OpR enc P w sp fs.toList 0 e f Ok):Op enc P w sp t f Ok:=fun fuel cs x hx=>by
 obtain⟨xs,n,_,_,hl,hn,hall⟩:=DataW.trod_struct ht hx
 obtain⟨a,a1,a2,a3,a4⟩:=h n cs (by omega) fun fd hfd=>by
  obtain⟨i,hi,rfl⟩:=List.getElem_of_mem hfd
  have hi':i<fs.size:=by simpa using hi
  have:=hall i _ (by rw[Array.getElem?_eq_getElem hi'])
  rw[List.getElem?_eq_getElem (by omega)]at this
  exact⟨_,by simpa using this⟩
 exact⟨a,a1,by omega,fun j y hj=>by have:=a3 j y hj;rwa[Nat.zero_add]at this,fun c hc=>by
  obtain⟨i,hi,rfl⟩:=List.getElem_of_mem hc
  have:=a4 i (Nat.zero_le _) hi
  rwa[List.getD_eq_getElem?_getD,List.getElem?_eq_getElem hi]at this⟩
theorem Op.argS{t:TypeId}{α:Type}{f:α→List D}{Ok:α→Prop}(h:Op enc P w sp t f Ok){vs:Array Value}{d:DataW H}{ps:List MemPlace}(hd:DataW.Trod enc P w 0 sp true t (.agg vs) d ps):∃a,Ok a∧RdD w (fun _=>False) (.agg (f a)) (.agg vs):=by
 obtain⟨fuel,hd⟩:=hd
 obtain⟨a,h1,h2,h3,_⟩:=h fuel _ _ hd
 have e:(Value.agg vs).cells=vs:=rfl
 rw[e]at h2 h3
 exact⟨a,h1,.agg _ _ (by simpa using h2.symm) fun j y hj=>by simpa[List.getD_eq_getElem?_getD,Array.getD_eq_getD_getElem?]using h3 j y hj⟩
end
theorem zsh{α:Type}(f:α→D)(l:List α):l.flatMap (fun a=>[f a])=l.map f:=by induction l with|nil=>rfl|cons a l ih=>rw[List.flatMap_cons,ih];rfl
end Go.Proofs.Ytfolbdkbpmgjgaa
