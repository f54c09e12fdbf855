/- What the input Odd reads as. -/
import Derived.Test.YtfolbdkbpmgjgaaRx
import Derived.Test.YtfolbdkbpmgjgaaIk
set_option linter.unusedVariables false
set_option linter.unusedSimpArgs false
namespace Go.Proofs.Ytfolbdkbpmgjgaa
open Go Go.RowKit Go.ChangeShapes
section
variable {H:Type} {enc:TypeId × Value→H} {w:World} {sp:Nat→Bool}
theorem zj6:Op enc Try.prog w sp 3 (fun n:Int=>[iD n]) (fun _=>True):=(Op.int Try.underlying3).conv fun n _=>⟨n,trivial,rfl⟩
theorem jcb:Op enc Try.prog w sp 26 (fun l:List Int=>[intsD l]) (fun _=>True):=
 (Op.slice Try.underlying26 (wd:=1) (by kernel_rfl) (by omega) (fun _=>rfl) zj6).conv fun l h=>⟨l,trivial,by rw[zsh];rfl⟩
theorem jih:Op enc Try.prog w sp 55 (fun e:Int × Int=>ezC e) (fun _=>True):=
 (Op.str Try.underlying55 (e:=2) (by kernel_rfl) (.cons (wd:=1) rfl (by kernel_rfl) zj6 (.cons (wd:=1) rfl (by kernel_rfl) zj6 .nil rfl) rfl)).conv fun p h=>by
  obtain⟨a,b,u⟩:=p
  exact⟨(a,b),trivial,rfl⟩
theorem jcc:Op enc Try.prog w sp 25 (fun l:List (Int × Int)=>[zbo l]) (fun _=>True):=
 (Op.slice Try.underlying25 (wd:=2) (by kernel_rfl) (by omega) jbm jih).conv fun l h=>⟨l,trivial,rfl⟩
theorem op_odd:Op enc Try.prog w sp 28 odC (fun _=>True):=
 (Op.str Try.underlying28 (e:=4) (by kernel_rfl) (.cons (wd:=1) rfl (by kernel_rfl) zj6
  (.cons (wd:=1) rfl (by kernel_rfl) jcc (.cons (wd:=1) rfl (by kernel_rfl) jcb (.cons (wd:=1) rfl (by kernel_rfl) zj6 .nil rfl) rfl) rfl) rfl)).conv fun p h=>by
  obtain⟨a,b,c,d,u⟩:=p
  exact⟨⟨a,b,c,d⟩,trivial,rfl⟩
end
end Go.Proofs.Ytfolbdkbpmgjgaa
