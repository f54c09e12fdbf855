/- The library's sort, laid at this program. -/
import Derived.Test.YtfolbdkbpmgjgaaProg
import Derived.Shelf.Slices.CompactI
import Derived.Shelf.Lays2
import Derived.Shelf.Bodies2
namespace Go.Proofs.Ytfolbdkbpmgjgaa
open Go.Shelf
def zs6:Ren where
 f x:=match x with
  |20=>58
  |n=>n
 t x:=match x with
  |22=>26
  |3=>3
  |4=>4
  |0=>0
  |n=>n
 g x:=x
theorem zgj:Lays2.n20 Try.prog zs6:=
{mixed:=by kernel_rfl,f20:=Eq.trans Try.func58 (congrArg some (by kernel_rfl)),
 t0:=Try.underlying0,a0:=Try.isAgg0,z0:=Try.sizeOf0,v0:=Try.zeroValue0,
 t3:=Try.underlying3,a3:=Try.isAgg3,z3:=Try.sizeOf3,v3:=Try.zeroValue3,
 t4:=Try.underlying4,a4:=Try.isAgg4,z4:=Try.sizeOf4,v4:=Try.zeroValue4,
 t22:=Try.underlying26,a22:=Try.isAgg26,z22:=Try.sizeOf26,v22:=Try.zeroValue26,
 i3:=by kernel_rfl}
end Go.Proofs.Ytfolbdkbpmgjgaa
