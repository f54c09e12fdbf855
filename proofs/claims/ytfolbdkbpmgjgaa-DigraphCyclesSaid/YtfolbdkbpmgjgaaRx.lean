/- What the rows' inputs read as. -/
import Derived.Test.YtfolbdkbpmgjgaaJl
import Derived.Test.YtfolbdkbpmgjgaaAS
import Derived.Test.YtfolbdkbpmgjgaaRows
import Derived.ProofKit
import Derived.LaidMore
import Derived.Carry
set_option linter.unusedVariables false
set_option linter.unusedSimpArgs false
namespace Go.Proofs.Ytfolbdkbpmgjgaa
open Go Go.RowKit Go.ChangeShapes
section
variable {H:Type} {enc:TypeId × Value→H} {w:World} {sp:Nat→Bool}
theorem jne{n:Int}(h:(Lit.int .u8 n).wf=true):Bt n:=by
 have:=bounds_u8 h;unfold Bt;omega
theorem jah:Op enc Try.prog w sp 5 (fun n:Int=>[bD n]) Bt:=(Op.int Try.underlying5).conv fun n h=>⟨n,jne h,rfl⟩
theorem jai:Op enc Try.prog w sp 22 (fun l:List Int=>[bytesD l]) (fun l=>l.length≤maxLen∧∀b∈l,Bt b):=
 (Op.slice Try.underlying22 (wd:=1) (by kernel_rfl) (by omega) (fun _=>rfl) jah).conv fun l h=>⟨l,h,by rw[zri];rfl⟩
theorem op_rawG:Op enc Try.prog w sp 24 zhk RwOk:=
 (Op.str Try.underlying24 (e:=3) (by kernel_rfl) (.cons (wd:=1) rfl (by kernel_rfl) jah
  (.cons (wd:=1) rfl (by kernel_rfl) jah (.cons (wd:=1) rfl (by kernel_rfl) jai .nil rfl) rfl) rfl)).conv fun p h=>by
  obtain⟨a,b,c,u⟩:=p
  obtain⟨h1,h2,⟨_,h3⟩,_⟩:=h
  exact⟨⟨a,b,c⟩,⟨h1,h2,h3⟩,rfl⟩
theorem jkf{l:List Int}(h:l.length=3):l=[nth l 0,nth l 1,nth l 2]:=by
 match l,h with
 |[a,b,c],_=>rfl
theorem op_z3:Op enc Try.prog w sp 52 (fun p:Int × Int × Int=>[bD p.1,bD p.2.1,bD p.2.2]) (fun p=>Bt p.1∧Bt p.2.1∧Bt p.2.2):=
 (Op.arr Try.underlying52 (wd:=1) (by kernel_rfl) (by kernel_rfl) (by omega) (fun _=>rfl) jah).conv fun l h=>by
  have hm:∀k,k<3→Bt (nth l k):=fun k hk=>h.2 _ (za7 (by omega))
  refine⟨(nth l 0,nth l 1,nth l 2),⟨hm 0 (by omega),hm 1 (by omega),hm 2 (by omega)⟩,?_⟩
  rw[zri]
  conv=>lhs;rw[jkf h.1]
  rfl
end
theorem zox:laidOutB Try.prog=true:=by kernel_rfl
theorem own:ownKnob Try.prog.godebug=none:=by kernel_rfl
end Go.Proofs.Ytfolbdkbpmgjgaa
