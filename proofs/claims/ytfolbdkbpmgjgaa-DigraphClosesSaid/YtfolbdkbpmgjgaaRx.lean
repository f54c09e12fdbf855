/- What the rows' inputs read as. -/
import Derived.Test.YtfolbdkbpmgjgaaJl
import Derived.Test.YtfolbdkbpmgjgaaAS
import Derived.Test.YtfolbdkbpmgjgaaRows
import Derived.ProofKit
import Derived.LaidMore
import Derived.Carry
set_option linter.unusedVariables false
set_option linter.unusedSimpArgs false
namespace Go.Proofs.Ytfolbdkbpmgjgaa
open Go Go.RowKit Go.ChangeShapes
section
variable {H:Type} {enc:TypeId × Value→H} {w:World} {sp:Nat→Bool}
theorem jnl{n:Int}(h:(Lit.int .u8 n).wf=true):Bt n:=by
 have:=bounds_u8 h;unfold Bt;omega
theorem jab:Op enc Try.prog w sp 5 (fun n:Int=>[bD n]) Bt:=(Op.int Try.underlying5).conv fun n h=>⟨n,jnl h,rfl⟩
theorem jac:Op enc Try.prog w sp 22 (fun l:List Int=>[bytesD l]) (fun l=>l.length≤maxLen∧∀b∈l,Bt b):=
 (Op.slice Try.underlying22 (wd:=1) (by kernel_rfl) (by omega) (fun _=>rfl) jab).conv fun l h=>⟨l,h,by rw[zrr];rfl⟩
theorem op_rawG:Op enc Try.prog w sp 24 zjo RwOk:=
 (Op.str Try.underlying24 (e:=3) (by kernel_rfl) (.cons (wd:=1) rfl (by kernel_rfl) jab
  (.cons (wd:=1) rfl (by kernel_rfl) jab (.cons (wd:=1) rfl (by kernel_rfl) jac .nil rfl) rfl) rfl)).conv fun p h=>by
  obtain⟨a,b,c,u⟩:=p
  obtain⟨h1,h2,⟨_,h3⟩,_⟩:=h
  exact⟨⟨a,b,c⟩,⟨h1,h2,h3⟩,rfl⟩
theorem jkp{l:List Int}(h:l.length=2):l=[nth l 0,nth l 1]:=by
 match l,h with
 |[a,b],_=>rfl
theorem op_z2:Op enc Try.prog w sp 58 (fun p:Int × Int=>[bD p.1,bD p.2]) (fun p=>Bt p.1∧Bt p.2):=
 (Op.arr Try.underlying58 (wd:=1) (by kernel_rfl) (by kernel_rfl) (by omega) (fun _=>rfl) jab).conv fun l h=>by
  have hm:∀k,k<2→Bt (nth l k):=fun k hk=>h.2 _ (zbe (by omega))
  refine⟨(nth l 0,nth l 1),⟨hm 0 (by omega),hm 1 (by omega)⟩,?_⟩
  rw[zrr]
  conv=>lhs;rw[jkp h.1]
  rfl
end
theorem zxq:laidOutB Try.prog=true:=by kernel_rfl
theorem own:ownKnob Try.prog.godebug=none:=by kernel_rfl
end Go.Proofs.Ytfolbdkbpmgjgaa
