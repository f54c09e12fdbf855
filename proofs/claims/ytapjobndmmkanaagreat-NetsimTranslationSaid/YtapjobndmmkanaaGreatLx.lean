/- What the inputs of netlist's laws read as. -/
import Derived.Test.YtapjobndmmkanaaGreatAS
import Derived.Test.YtapjobndmmkanaaGreatRows
import Derived.Test.YtapjobndmmkanaaGreatVa
import Derived.Test.YtapjobndmmkanaaGreatPn
import Derived.ProofKit
import Derived.LaidMore
import Derived.Carry
import Derived.WalkKit
import Derived.OpenShut
import Derived.JoinedCond
set_option linter.unusedVariables false
set_option linter.unusedSimpArgs false
namespace Go.Proofs.YtapjobndmmkanaaGreat
open Go.Proofs.Tryz
open Go Go.RowKit Go.ChangeShapes
section
variable {H:Type} {enc:TypeId × Value→H} {w:World} {sp:Nat→Bool}
theorem yef{n:Int}(h:(Lit.int .u8 n).wf=true):0≤n∧n<256:=by
 have:=bounds_u8 h;omega
theorem yeg:Op enc prog w sp 5 (fun n:Int=>[bD n]) (fun n=>0≤n∧n<256):=(Op.int underlying5).conv fun n h=>⟨n,yef h,rfl⟩
theorem lop_bytes:Op enc prog w sp 22 (fun l:List Int=>[bytesD l]) (fun l=>l.length≤maxLen∧zg1 l):=
 (Op.slice underlying22 (wd:=1) (by kernel_rfl) (by omega) (fun _=>rfl) yeg).conv fun l h=>⟨l,h,by rw[jbl];rfl⟩
theorem lop_raw12:Op enc prog w sp 24 (fun b:List Int=>[bytesD b]) (fun b=>b.length≤maxLen∧zg1 b):=
 (Op.str underlying24 (e:=1) (by kernel_rfl) (.cons (wd:=1) rfl (by kernel_rfl) lop_bytes .nil rfl)).conv fun p h=>by
  obtain⟨a,u⟩:=p
  exact⟨a,h.1,rfl⟩
theorem lop_bss:Op enc prog w sp 71 (fun l:List (List Int)=>[zzp l]) (fun l=>l.length≤maxLen∧∀x∈l,x.length≤maxLen∧zg1 x):=
 (Op.slice underlying71 (wd:=1) (by kernel_rfl) (by omega) (fun _=>rfl) lop_bytes).conv fun l h=>⟨l,h,by rw[jbl];rfl⟩
theorem ynm:ownKnob prog.godebug=none:=by kernel_rfl
end
end Go.Proofs.YtapjobndmmkanaaGreat
