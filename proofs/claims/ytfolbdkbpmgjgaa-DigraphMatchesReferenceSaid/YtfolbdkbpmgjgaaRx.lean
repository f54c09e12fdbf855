/- What the rows' inputs read as. -/
import Derived.Test.YtfolbdkbpmgjgaaJl
import Derived.Test.YtfolbdkbpmgjgaaAS
import Derived.Test.YtfolbdkbpmgjgaaRows
import Derived.ProofKit
import Derived.LaidMore
import Derived.Carry
set_option linter.unusedVariables false
set_option linter.unusedSimpArgs false
namespace Go.Proofs.Ytfolbdkbpmgjgaa
open Go Go.RowKit Go.ChangeShapes
section
variable {H:Type} {enc:TypeId × Value→H} {w:World} {sp:Nat→Bool}
theorem jqm{n:Int}(h:(Lit.int .u8 n).wf=true):Bt n:=by
 have:=bounds_u8 h;unfold Bt;omega
theorem jht:Op enc Try.prog w sp 5 (fun n:Int=>[bD n]) Bt:=(Op.int Try.underlying5).conv fun n h=>⟨n,jqm h,rfl⟩
theorem jbp:Op enc Try.prog w sp 22 (fun l:List Int=>[bytesD l]) (fun l=>l.length≤maxLen∧∀b∈l,Bt b):=
 (Op.slice Try.underlying22 (wd:=1) (by kernel_rfl) (by omega) (fun _=>rfl) jht).conv fun l h=>⟨l,h,by rw[zsh];rfl⟩
theorem op_rawG:Op enc Try.prog w sp 24 zk6 RwOk:=
 (Op.str Try.underlying24 (e:=3) (by kernel_rfl) (.cons (wd:=1) rfl (by kernel_rfl) jht
  (.cons (wd:=1) rfl (by kernel_rfl) jht (.cons (wd:=1) rfl (by kernel_rfl) jbp .nil rfl) rfl) rfl)).conv fun p h=>by
  obtain⟨a,b,c,u⟩:=p
  obtain⟨h1,h2,⟨_,h3⟩,_⟩:=h
  exact⟨⟨a,b,c⟩,⟨h1,h2,h3⟩,rfl⟩
end
theorem zyv:laidOutB Try.prog=true:=by kernel_rfl
theorem own:ownKnob Try.prog.godebug=none:=by kernel_rfl
end Go.Proofs.Ytfolbdkbpmgjgaa
