/- The law DigraphDepths: walked. -/
import Derived.Test.YtfolbdkbpmgjgaaQr
import Derived.Test.YtfolbdkbpmgjgaaJp
set_option linter.unusedVariables false
set_option linter.unusedSimpArgs false
set_option maxRecDepth 100000
set_option maxHeartbeats 4000000
namespace Go.Proofs.Ytfolbdkbpmgjgaa
open Go Go.RowKit
theorem jtc:(type_of% @zs0):=@zs0
structure DpS (n:Nat) (es:List Ed) (D:List Nat):Prop where
 l:D.length=n
 up:∀e∈es,nth D e.1+1≤nth D e.2
 ex:∀w,w<n→nth D w=0∨∃e∈es,e.2=w∧nth D w=nth D e.1+1
 lt:∀w,w<n→nth D w<n
theorem jsb{n:Nat}{es:List Ed}{L:List Nat}(h:Gr n es)(hT:TpO n es L)(hI:OrI n (zay n es) L):DpS n es (dpO n (zav n es) L):=by
 have hd:=jl9 h.two hI hT.sz
 have hex:∀w,w<n→nth (dpO n (zav n es) L) w=0∨∃e∈es,e.2=w∧nth (dpO n (zav n es) L) w=nth (dpO n (zav n es) L) e.1+1:=fun w hw=>by
  rcases hd.ex w hw with h0|⟨u,hu,_,h1⟩
  ·exact .inl h0
  ·exact .inr ⟨(u,w),(zc6 hw).1 hu,rfl,h1⟩
 have key:∀j,j<n→nth (dpO n (zav n es) L) (nth L j)≤j:=fun j=>by
  induction j using Nat.strongRecOn with
  |ind j ih=>
   intro hj
   have hjn:=hT.lt _ (za3 (l:=L) (k:=j) (by rw[hT.sz];exact hj))
   rcases hex _ hjn with h0|⟨e,he,h1,h2⟩
   ·omega
   ·obtain⟨i,hi,ei⟩:=zfn (zk3 hT.d hT.lt hT.sz (h.e e he).1)
    rw[hT.sz]at hi
    have hij:=hT.ed e he i j hi hj ei h1.symm
    have:=ih i hij hi
    rw[ei]at this
    omega
 refine⟨hd.l,fun e he=>?_,hex,fun w hw=>?_⟩
 ·have hge:=h.e e he
  exact hd.up e.2 hge.2 e.1 ((zc6 hge.2).2 he) trivial
 ·obtain⟨j,hj,ej⟩:=zfn (zk3 hT.d hT.lt hT.sz hw)
  rw[hT.sz]at hj
  have:=key j hj
  rw[ej]at this
  omega
def dmx(D:List Nat)(es:List Ed)(v:Nat):Nat→Nat
 |0=>0
 |k+1=>if(nth es k).2=v then max (dmx D es v k) (nth D (nth es k).1+1)else dmx D es v k
theorem zzc{D:List Nat}{es:List Ed}{v:Nat}{B:Nat}(h:∀e∈es,e.2=v→nth D e.1+1≤B):∀k,k≤es.length→dmx D es v k≤B
 |0,_=>Nat.zero_le _
 |k+1,hk=>by
  have ih:=zzc h k (by omega)
  rw[dmx]
  split
  ·rename_i hv;have:=h _ (za3 (l:=es) (k:=k) (by omega)) hv;omega
  ·exact ih
theorem jeo{D:List Nat}{es:List Ed}{v:Nat}:∀k j,j<k→(nth es j).2=v→nth D (nth es j).1+1≤dmx D es v k
 |0,j,hj,_=>absurd hj (Nat.not_lt_zero _)
 |k+1,j,hj,hv=>by
  rw[dmx]
  by_cases e:j=k
  ·subst e;rw[if_pos hv];omega
  ·have:=jeo (D:=D) k j (by omega) hv
   split<;>omega
theorem jnp{n:Nat}{es:List Ed}{D:List Nat}(hD:DpS n es D){v:Nat}(hv:v<n):dmx D es v es.length=nth D v:=by
 have h1:=zzc (D:=D) (v:=v) (B:=nth D v) (fun e he h=>by rw[←h];exact hD.up e he) es.length (Nat.le_refl _)
 rcases hD.ex v hv with h0|⟨e,he,h2,h3⟩
 ·omega
 ·obtain⟨j,hj,ej⟩:=List.getElem_of_mem he
  rw[←za5 hj]at ej
  have:=jeo (D:=D) (es:=es) (v:=v) es.length j hj (by rw[ej];exact h2)
  rw[ej]at this
  omega
end Go.Proofs.Ytfolbdkbpmgjgaa
