/- Reversed graphs, and one more edge: what changes (no program in sight). -/
import Derived.Test.YtfolbdkbpmgjgaaJp
set_option linter.unusedVariables false
set_option linter.unusedSimpArgs false
namespace Go.Proofs.Ytfolbdkbpmgjgaa
open Go Go.RowKit
theorem jbz{nx:List (List Nat)}{a b:Nat}(h:RT nx a b):∃k,WayN nx a b k:=by
 induction h with
 |here=>exact⟨0,.here⟩
 |go _ hc ih=>obtain⟨k,hk⟩:=ih;exact⟨k+1,hk.go hc⟩
def Acy(n:Nat)(es:List Ed):Prop:=∀v,v<n→∀d,1≤d→¬WayN (za5 n es) v v d
theorem jb0{n:Nat}{es:List Ed}(h:Gr n es):(zer n es).2=0↔Acy n es:=by
 rcases jmw h with⟨h1,h2,h3⟩|⟨h1,u,k,hu,hw⟩
 ·refine⟨fun _ v hv d hd hw=>?_,fun _=>h1⟩
  obtain⟨m,rfl⟩:∃m,d=m+1:=⟨d - 1,by omega⟩
  exact zyi h.two h3 h2.sz hv hw
 ·exact⟨fun h2=>by(rw[h1]at h2;cases h2),fun ha=>absurd hw (ha u hu (k+1) (by omega))⟩
end Go.Proofs.Ytfolbdkbpmgjgaa
