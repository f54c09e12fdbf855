/- The law DigraphCycles: walked. -/
import Derived.Test.YtfolbdkbpmgjgaaQr
import Derived.Test.YtfolbdkbpmgjgaaJl
set_option linter.unusedVariables false
set_option linter.unusedSimpArgs false
set_option maxRecDepth 100000
set_option maxHeartbeats 4000000
namespace Go.Proofs.Ytfolbdkbpmgjgaa
open Go Go.RowKit
theorem jpd:(type_of% @zf5):=@zf5
structure CyO (n:Nat) (es:List Ed) (L:List Nat):Prop where
 l0:1≤L.length
 ln:L.length≤n
 lt:∀i,i<L.length→nth L i<n
 ed:∀i,i<L.length→(nth L i,nth L ((i+1) % L.length))∈es
 hd:∀i,i<L.length→nth L 0≤nth L i
 ne:∀i j,i<L.length→j<i→nth L j≠nth L i
 mn:∀v,v<n→∀d,1≤d→d<L.length→¬WayN (zat n es) v v d
theorem znk{n:Nat}{es:List Ed}(h:Gr n es):((zem n es).2=0∧CyO n es (zem n es).1)∨(zem n es=([],4)∧∀v,v<n→∀d,1≤d→¬WayN (zat n es) v v d):=by
 have hni:∀u,u<(zat n es).length→∀x∈nth (zat n es) u,x<(zat n es).length:=fun u hu x hx=>by
  rw[za7]at hu ⊢;exact h.two.ni u hu x hx
 by_cases hb:(bfS (zat n es) n).1=0
 ·refine .inr ⟨by rw[zem,if_pos hb],fun v hv d hd hw=>?_⟩
  obtain⟨k,rfl⟩:∃k,d=k+1:=⟨d - 1,by omega⟩
  have:=(zq6 hni (by rw[za7];exact hv) hw).1
  exact this ((jei (zat n es) n).1 hb v hv)
 ·have hF:=jej h hb
  have e:zem n es=(zhs (zat n es) (za9 n es) (bfS (zat n es) n).2 (bfS (zat n es) n).1 ((bfS (zat n es) n).1 - 1),0):=by rw[zem,if_neg hb]
  rw[e]
  have hi:=zwo hF ((bfS (zat n es) n).1 - 1) (by omega)
  have hl:=zgx (zat n es) (za9 n es) (bfS (zat n es) n).2 (bfS (zat n es) n).1 ((bfS (zat n es) n).1 - 1)
  generalize hL:zhs (zat n es) (za9 n es) (bfS (zat n es) n).2 (bfS (zat n es) n).1 ((bfS (zat n es) n).1 - 1)=L at hi hl
  have hll:L.length=(bfS (zat n es) n).1:=by omega
  obtain⟨k1,k2,k3⟩:=ji3 hF hi hll
  refine .inl ⟨rfl,?_⟩
  show CyO n es L
  refine⟨hi.p,?_,fun i hi'=>(k2 i hi').2,fun i hi'=>(zcc (k2 i hi').2).1 (k1 i hi'),fun i hi'=>by rw[hi.h0];exact(k2 i hi').1,k3,fun v hv d h1 h2 hw=>?_⟩
  ·refine zch (List.pairwise_iff_getElem.2 fun i j hi' hj hij=>?_) fun x hx=>?_
   ·have:=k3 j i hj hij
    rwa[za1 hi',za1 hj]at this
   ·obtain⟨i,hi',rfl⟩:=zf7 hx
    exact(k2 i hi').2
  ·obtain⟨k,rfl⟩:∃k,d=k+1:=⟨d - 1,by omega⟩
   obtain⟨g1,g2⟩:=zq6 hni (by rw[za7];exact hv) hw
   have:=hF.mn v hv g1
   omega
end Go.Proofs.Ytfolbdkbpmgjgaa
