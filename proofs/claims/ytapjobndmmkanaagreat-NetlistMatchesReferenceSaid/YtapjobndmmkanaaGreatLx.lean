/- What the inputs of netlist's laws read as. -/
import Derived.Test.YtapjobndmmkanaaGreatAS
import Derived.Test.YtapjobndmmkanaaGreatRows
import Derived.Test.YtapjobndmmkanaaGreatVa
import Derived.Test.YtapjobndmmkanaaGreatPn
import Derived.ProofKit
import Derived.LaidMore
import Derived.Carry
import Derived.WalkKit
import Derived.OpenShut
import Derived.JoinedCond
set_option linter.unusedVariables false
set_option linter.unusedSimpArgs false
namespace Go.Proofs.YtapjobndmmkanaaGreat
open Go.Proofs.Tryz
open Go Go.RowKit Go.ChangeShapes
section
variable {H:Type} {enc:TypeId × Value→H} {w:World} {sp:Nat→Bool}
theorem yac{n:Int}(h:(Lit.int .u8 n).wf=true):0≤n∧n<256:=by
 have:=bounds_u8 h;omega
theorem v7:Op enc prog w sp 5 (fun n:Int=>[bD n]) (fun n=>0≤n∧n<256):=(Op.int underlying5).conv fun n h=>⟨n,yac h,rfl⟩
theorem js4:Op enc prog w sp 5 (fun n:Nat=>[.val (.int .u8 n)]) (fun n=>n<256):=v7.conv fun n h=>⟨n.toNat,by omega,by rw[show((n.toNat:Nat):Int)=n by omega];rfl⟩
theorem jiu:Op enc prog w sp 22 (fun l:List Int=>[aI l]) (fun l=>l.length≤maxLen∧rJ l):=
 (Op.slice underlying22 (wd:=1) (by kernel_rfl) (by omega) (fun _=>rfl) v7).conv fun l h=>⟨l,h,by rw[L8];rfl⟩
theorem yad{l:List Nat}(h:l.length=2):l=[nth l 0,nth l 1]:=by
 match l,h with
 |[a,b],_=>rfl
theorem um:Op enc prog w sp 24 (fun b:List Int=>[aI b]) (fun b=>b.length≤maxLen∧rJ b):=
 (Op.str underlying24 (e:=1) (by kernel_rfl) (.cons (wd:=1) rfl (by kernel_rfl) jiu .nil rfl)).conv fun p h=>by
  obtain⟨a,u⟩:=p
  exact⟨a,h.1,rfl⟩
theorem js5{n:Int}(h:(Lit.int .i64 n).wf=true):kJ n:=by
 simp[Lit.wf]at h
 obtain⟨h1,h2⟩:=h
 exact⟨h1,by omega⟩
theorem yD:Op enc prog w sp 3 (fun n:Int=>[iD n]) kJ:=(Op.int underlying3).conv fun n h=>⟨n,js5 h,rfl⟩
theorem B3:Op enc prog w sp 25 (fun p:Nat × Nat=>[.val (.int .u8 p.1),.val (.int .u8 p.2)]) (fun p=>p.1<256∧p.2<256):=
 (Op.arr underlying25 (wd:=1) (by kernel_rfl) (by kernel_rfl) (by omega) (fun _=>rfl) js4).conv fun l h=>by
  have hm:∀k,k<2→nth l k<256:=fun k hk=>h.2 _ (ll (by omega))
  refine⟨(nth l 0,nth l 1),⟨hm 0 (by omega),hm 1 (by omega)⟩,?_⟩
  rw[L8]
  conv=>lhs;rw[yad h.1]
  rfl
theorem jc5:Op enc prog w sp 121 cr (fun _=>True):=by
 refine(Op.str underlying121 (e:=3) (by kernel_rfl) (.cons (wd:=1) rfl (by kernel_rfl) yD (.cons (wd:=1) rfl (by kernel_rfl) yD (.cons (wd:=1) rfl (by kernel_rfl) yD .nil rfl) rfl) rfl)).conv ?_
 exact fun p _=>⟨⟨p.1,p.2.1,p.2.2.1⟩,trivial,rfl⟩
theorem jmd:Op enc prog w sp 123 aY (fun g=>kJ g.op):=by
 refine(Op.str underlying123 (e:=5) (by kernel_rfl) (.cons (wd:=1) rfl (by kernel_rfl) yD (.cons (wd:=1) rfl (by kernel_rfl) yD (.cons (wd:=1) rfl (by kernel_rfl) yD (.cons (wd:=1) rfl (by kernel_rfl) yD (.cons (wd:=1) rfl (by kernel_rfl) yD .nil rfl) rfl) rfl) rfl) rfl)).conv ?_
 exact fun p h=>⟨⟨p.1,p.2.1,p.2.2.1,p.2.2.2.1,p.2.2.2.2.1⟩,h.1,rfl⟩
structure QT (z:Net):Prop where
 i:z.ins.length≤maxLen
 g:z.gates.length≤maxLen
 o:z.out.length≤maxLen
 d:z.aP.length≤maxLen
 p:∀k,k<z.gates.length→kJ (nth z.gates k).op
theorem yL:Op enc prog w sp 30 dp QT:=by
 refine(Op.str underlying30 (e:=4) (by kernel_rfl) (.cons (wd:=1) rfl (by kernel_rfl) (Op.slice underlying26 (wd:=3) (by kernel_rfl) (by omega) rL jc5)
  (.cons (wd:=1) rfl (by kernel_rfl) (Op.slice underlying27 (wd:=5) (by kernel_rfl) (by omega) qA jmd)
  (.cons (wd:=1) rfl (by kernel_rfl) (Op.slice underlying26 (wd:=3) (by kernel_rfl) (by omega) rL jc5)
  (.cons (wd:=1) rfl (by kernel_rfl) (Op.slice underlying28 (wd:=1) (by kernel_rfl) (by omega) (fun _=>rfl) yD) .nil rfl) rfl) rfl) rfl)).conv ?_
 intro p h
 obtain⟨a,b,c,d,u⟩:=p
 obtain⟨⟨h1,_⟩,⟨h2,h2'⟩,⟨h3,_⟩,⟨h4,_⟩,_⟩:=h
 refine⟨⟨a,b,c,d⟩,⟨h1,h2,h3,h4,fun k hk=>h2' _ (ll hk)⟩,?_⟩
 show _=[bQ a,bt b,bQ c,ae d]
 unfold ae
 rw[←L8]
 rfl
theorem ykc:ownKnob prog.godebug=none:=by kernel_rfl
end
end Go.Proofs.YtapjobndmmkanaaGreat
