/- The law DigraphCycles: walked. -/
import Derived.Test.YtfolbdkbpmgjgaaQr
import Derived.Test.YtfolbdkbpmgjgaaJl
set_option linter.unusedVariables false
set_option linter.unusedSimpArgs false
set_option maxRecDepth 100000
set_option maxHeartbeats 4000000
namespace Go.Proofs.Ytfolbdkbpmgjgaa
open Go Go.RowKit
theorem jpa:(type_of% @zgq):=@zgq
structure CyO (n:Nat) (es:List Ed) (L:List Nat):Prop where
 l0:1≤L.length
 ln:L.length≤n
 lt:∀i,i<L.length→nth L i<n
 ed:∀i,i<L.length→(nth L i,nth L ((i+1) % L.length))∈es
 hd:∀i,i<L.length→nth L 0≤nth L i
 ne:∀i j,i<L.length→j<i→nth L j≠nth L i
 mn:∀v,v<n→∀d,1≤d→d<L.length→¬WayN (za1 n es) v v d
theorem jkh{n:Nat}{es:List Ed}(h:Gr n es):((zjn n es).2=0∧CyO n es (zjn n es).1)∨(zjn n es=([],4)∧∀v,v<n→∀d,1≤d→¬WayN (za1 n es) v v d):=by
 have hni:∀u,u<(za1 n es).length→∀x∈nth (za1 n es) u,x<(za1 n es).length:=fun u hu x hx=>by
  rw[zba]at hu ⊢;exact h.two.ni u hu x hx
 by_cases hb:(bfS (za1 n es) n).1=0
 ·refine .inr ⟨by rw[zjn,if_pos hb],fun v hv d hd hw=>?_⟩
  obtain⟨k,rfl⟩:∃k,d=k+1:=⟨d - 1,by omega⟩
  have:=(zqx hni (by rw[zba];exact hv) hw).1
  exact this ((jef (za1 n es) n).1 hb v hv)
 ·have hF:=jeg h hb
  have e:zjn n es=(zhx (za1 n es) (za9 n es) (bfS (za1 n es) n).2 (bfS (za1 n es) n).1 ((bfS (za1 n es) n).1 - 1),0):=by rw[zjn,if_neg hb]
  rw[e]
  have hi:=zwg hF ((bfS (za1 n es) n).1 - 1) (by omega)
  have hl:=zgw (za1 n es) (za9 n es) (bfS (za1 n es) n).2 (bfS (za1 n es) n).1 ((bfS (za1 n es) n).1 - 1)
  generalize hL:zhx (za1 n es) (za9 n es) (bfS (za1 n es) n).2 (bfS (za1 n es) n).1 ((bfS (za1 n es) n).1 - 1)=L at hi hl
  have hll:L.length=(bfS (za1 n es) n).1:=by omega
  obtain⟨k1,k2,k3⟩:=jit hF hi hll
  refine .inl ⟨rfl,?_⟩
  show CyO n es L
  refine⟨hi.p,?_,fun i hi'=>(k2 i hi').2,fun i hi'=>(zia (k2 i hi').2).1 (k1 i hi'),fun i hi'=>by rw[hi.h0];exact(k2 i hi').1,k3,fun v hv d h1 h2 hw=>?_⟩
  ·refine zct (List.pairwise_iff_getElem.2 fun i j hi' hj hij=>?_) fun x hx=>?_
   ·have:=k3 j i hj hij
    rwa[za3 hi',za3 hj]at this
   ·obtain⟨i,hi',rfl⟩:=zd2 hx
    exact(k2 i hi').2
  ·obtain⟨k,rfl⟩:∃k,d=k+1:=⟨d - 1,by omega⟩
   obtain⟨g1,g2⟩:=zqx hni (by rw[zba];exact hv) hw
   have:=hF.mn v hv g1
   omega
end Go.Proofs.Ytfolbdkbpmgjgaa
