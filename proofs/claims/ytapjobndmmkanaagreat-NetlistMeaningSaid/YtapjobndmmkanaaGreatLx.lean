/- What the inputs of netlist's laws read as. -/
import Derived.Test.YtapjobndmmkanaaGreatAS
import Derived.Test.YtapjobndmmkanaaGreatRows
import Derived.Test.YtapjobndmmkanaaGreatVa
import Derived.Test.YtapjobndmmkanaaGreatPn
import Derived.ProofKit
import Derived.LaidMore
import Derived.Carry
import Derived.WalkKit
import Derived.OpenShut
import Derived.JoinedCond
set_option linter.unusedVariables false
set_option linter.unusedSimpArgs false
namespace Go.Proofs.YtapjobndmmkanaaGreat
open Go.Proofs.Tryz
open Go Go.RowKit Go.ChangeShapes
section
variable {H:Type} {enc:TypeId × Value→H} {w:World} {sp:Nat→Bool}
theorem yey{n:Int}(h:(Lit.int .u8 n).wf=true):0≤n∧n<256:=by
 have:=bounds_u8 h;omega
theorem yez:Op enc prog w sp 5 (fun n:Int=>[bD n]) (fun n=>0≤n∧n<256):=(Op.int underlying5).conv fun n h=>⟨n,yey h,rfl⟩
theorem Sl:Op enc prog w sp 22 (fun l:List Int=>[aE l]) (fun l=>l.length≤maxLen∧mR l):=
 (Op.slice underlying22 (wd:=1) (by kernel_rfl) (by omega) (fun _=>rfl) yez).conv fun l h=>⟨l,h,by rw[jcf];rfl⟩
theorem u9:Op enc prog w sp 24 (fun b:List Int=>[aE b]) (fun b=>b.length≤maxLen∧mR b):=
 (Op.str underlying24 (e:=1) (by kernel_rfl) (.cons (wd:=1) rfl (by kernel_rfl) Sl .nil rfl)).conv fun p h=>by
  obtain⟨a,u⟩:=p
  exact⟨a,h.1,rfl⟩
theorem yk4{l:List (List Int)}(h:l.length=2):l=[nth l 0,nth l 1]:=by
 match l,h with
 |[a,b],_=>rfl
theorem zo:Op enc prog w sp 48 (fun p:List Int × List Int=>[aE p.1,aE p.2]) (fun p=>(p.1.length≤maxLen∧mR p.1)∧(p.2.length≤maxLen∧mR p.2)):=
 (Op.arr underlying48 (wd:=1) (by kernel_rfl) (by kernel_rfl) (by omega) (fun _=>rfl) Sl).conv fun l h=>by
  have hm:∀k,k<2→(nth l k).length≤maxLen∧mR (nth l k):=fun k hk=>h.2 _ (my (by omega))
  refine⟨(nth l 0,nth l 1),⟨hm 0 (by omega),hm 1 (by omega)⟩,?_⟩
  rw[jcf]
  conv=>lhs;rw[yk4 h.1]
  rfl
theorem yp3:ownKnob prog.godebug=none:=by kernel_rfl
end
end Go.Proofs.YtapjobndmmkanaaGreat
