/- The law DigraphOrders: walked. -/
import Derived.Test.YtfolbdkbpmgjgaaQr
import Derived.Test.YtfolbdkbpmgjgaaJo
set_option linter.unusedVariables false
set_option linter.unusedSimpArgs false
set_option maxRecDepth 100000
set_option maxHeartbeats 4000000
namespace Go.Proofs.Ytfolbdkbpmgjgaa
open Go Go.RowKit
theorem jpe:(type_of% @zyp):=@zyp
theorem jcn{b:Int}{n:Nat}(h0:0≤b)(hn:0<n):∃v:Nat,b % (n:Int)=(v:Int)∧v<n:=by
 have h1:=Int.emod_nonneg b (show(n:Int)≠0 by omega)
 have h2:=Int.emod_lt_of_pos b (show(0:Int)<n by omega)
 exact⟨(b % (n:Int)).toNat,by omega,by omega⟩
theorem jpf:(true==false)=false:=rfl
theorem jpg:(false==true)=false:=rfl
theorem jf5{n:Nat}{es:List Ed}(h:Gr n es)(M:List Nat)(hl:M.length≤100000){r:Int}(hr:ckR n es (zl M)=r):zaq Try.prog 21 [iD (n:Int),zal es,.fs (nsD M) M.length] (.d (iD r)):=by
 have:=zo2 n es (zl M) h (by rw[za5];exact hl)
 rwa[zjl,hr]at this
end Go.Proofs.Ytfolbdkbpmgjgaa
