/- The law DigraphCycles: walked. -/
import Derived.Test.YtfolbdkbpmgjgaaQr
import Derived.Test.YtfolbdkbpmgjgaaJl
set_option linter.unusedVariables false
set_option linter.unusedSimpArgs false
set_option maxRecDepth 100000
set_option maxHeartbeats 4000000
namespace Go.Proofs.Ytfolbdkbpmgjgaa
open Go Go.RowKit
theorem jss:(type_of% @zid):=@zid
structure CyO (n:Nat) (es:List Ed) (L:List Nat):Prop where
 l0:1≤L.length
 ln:L.length≤n
 lt:∀i,i<L.length→nth L i<n
 ed:∀i,i<L.length→(nth L i,nth L ((i+1) % L.length))∈es
 hd:∀i,i<L.length→nth L 0≤nth L i
 ne:∀i j,i<L.length→j<i→nth L j≠nth L i
 mn:∀v,v<n→∀d,1≤d→d<L.length→¬WayN (zav n es) v v d
theorem jqn{n:Nat}{es:List Ed}(h:Gr n es):((zh9 n es).2=0∧CyO n es (zh9 n es).1)∨(zh9 n es=([],4)∧∀v,v<n→∀d,1≤d→¬WayN (zav n es) v v d):=by
 have hni:∀u,u<(zav n es).length→∀x∈nth (zav n es) u,x<(zav n es).length:=fun u hu x hx=>by
  rw[zbb]at hu ⊢;exact h.two.ni u hu x hx
 by_cases hb:(bfS (zav n es) n).1=0
 ·refine .inr ⟨by rw[zh9,if_pos hb],fun v hv d hd hw=>?_⟩
  obtain⟨k,rfl⟩:∃k,d=k+1:=⟨d - 1,by omega⟩
  have:=(zn4 hni (by rw[zbb];exact hv) hw).1
  exact this ((jgf (zav n es) n).1 hb v hv)
 ·have hF:=jgg h hb
  have e:zh9 n es=(zgp (zav n es) (zay n es) (bfS (zav n es) n).2 (bfS (zav n es) n).1 ((bfS (zav n es) n).1 - 1),0):=by rw[zh9,if_neg hb]
  rw[e]
  have hi:=zr2 hF ((bfS (zav n es) n).1 - 1) (by omega)
  have hl:=zg9 (zav n es) (zay n es) (bfS (zav n es) n).2 (bfS (zav n es) n).1 ((bfS (zav n es) n).1 - 1)
  generalize hL:zgp (zav n es) (zay n es) (bfS (zav n es) n).2 (bfS (zav n es) n).1 ((bfS (zav n es) n).1 - 1)=L at hi hl
  have hll:L.length=(bfS (zav n es) n).1:=by omega
  obtain⟨k1,k2,k3⟩:=jk8 hF hi hll
  refine .inl ⟨rfl,?_⟩
  show CyO n es L
  refine⟨hi.p,?_,fun i hi'=>(k2 i hi').2,fun i hi'=>(zcn (k2 i hi').2).1 (k1 i hi'),fun i hi'=>by rw[hi.h0];exact(k2 i hi').1,k3,fun v hv d h1 h2 hw=>?_⟩
  ·refine zcr (List.pairwise_iff_getElem.2 fun i j hi' hj hij=>?_) fun x hx=>?_
   ·have:=k3 j i hj hij
    rwa[za5 hi',za5 hj]at this
   ·obtain⟨i,hi',rfl⟩:=zfn hx
    exact(k2 i hi').2
  ·obtain⟨k,rfl⟩:∃k,d=k+1:=⟨d - 1,by omega⟩
   obtain⟨g1,g2⟩:=zn4 hni (by rw[zbb];exact hv) hw
   have:=hF.mn v hv g1
   omega
theorem zyw(n:Nat):(List.replicate n false).map oD=List.replicate n (oD false):=List.map_replicate
theorem zbg(l:List Bool):(l.map oD).length=l.length:=List.length_map _
end Go.Proofs.Ytfolbdkbpmgjgaa
