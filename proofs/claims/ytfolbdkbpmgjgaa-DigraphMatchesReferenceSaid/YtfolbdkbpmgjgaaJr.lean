/- Reversed graphs, and one more edge: what changes (no program in sight). -/
import Derived.Test.YtfolbdkbpmgjgaaJp
set_option linter.unusedVariables false
set_option linter.unusedSimpArgs false
namespace Go.Proofs.Ytfolbdkbpmgjgaa
open Go Go.RowKit
theorem jni{n:Nat}{es es':List Ed}(h:Gr n es)(h':Gr n es')(hs:∀e∈es,e∈es'){v x:Nat}(hv:v<n)(hr:RT (zav n es) v x):x<n∧RT (zav n es') v x:=by
 induction hr with
 |here=>exact⟨hv,.here⟩
 |@go b c hb hc ih=>
  have hm:=(zcn ih.1).1 hc
  exact⟨(h.e _ hm).2,ih.2.go ((zcn ih.1).2 (hs _ hm))⟩
theorem jnj{n:Nat}{es:List Ed}(h:Gr n es){v x:Nat}(hv:v<n)(hr:RT (zav n es) v x):x<n:=(jni h h (fun _ h=>h) hv hr).1
end Go.Proofs.Ytfolbdkbpmgjgaa
