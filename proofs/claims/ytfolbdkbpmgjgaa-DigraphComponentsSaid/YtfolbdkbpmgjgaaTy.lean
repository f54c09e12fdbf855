/- Facts of types, and of the settings. -/
import Derived.Test.YtfolbdkbpmgjgaaAR
import Derived.Test.YtfolbdkbpmgjgaaProg
import Derived.DeepKeys4
set_option linter.unusedVariables false
set_option linter.unusedSimpArgs false
namespace Go.Proofs.Ytfolbdkbpmgjgaa
open Go Go.RowKit
theorem mixed:Try.prog.follows .mixedOrders=true:=by kernel_rfl
theorem zg1:szO Try.prog 3=(some 1):=by kernel_rfl
theorem zg2:agO Try.prog 3=(some false):=by kernel_rfl
theorem jfq:zaO Try.prog 3=(some [(.val (.int .i64 0))]):=by kernel_rfl
theorem jkd:zga Try.prog 3=(some .i64):=by kernel_rfl
theorem jne:szO Try.prog 4=(some 1):=by kernel_rfl
theorem jnf:agO Try.prog 4=(some false):=by kernel_rfl
theorem jng:zfv Try.prog 4=true:=by kernel_rfl
theorem jnh:szO Try.prog 5=(some 1):=by kernel_rfl
theorem jni:agO Try.prog 5=(some false):=by kernel_rfl
theorem jnj:zga Try.prog 5=(some .u8):=by kernel_rfl
theorem jhd:szO Try.prog 22=(some 1):=by kernel_rfl
theorem jhe:agO Try.prog 22=(some false):=by kernel_rfl
theorem jhf:elO Try.prog 22=(some (none,(5,1))):=by kernel_rfl
theorem zx1:szO Try.prog 24=(some 3):=by kernel_rfl
theorem jhg:agO Try.prog 24=(some true):=by kernel_rfl
theorem zun:foO Try.prog 24 0=(some 0):=by kernel_rfl
theorem zuo:foO Try.prog 24 1=(some 1):=by kernel_rfl
theorem zup:foO Try.prog 24 2=(some 2):=by kernel_rfl
theorem zmm:szO Try.prog 25=(some 1):=by kernel_rfl
theorem zmn:agO Try.prog 25=(some false):=by kernel_rfl
theorem zrk:elO Try.prog 25=(some (none,(55,2))):=by kernel_rfl
theorem zmo:mkO Try.prog 25=(some (2,([(.val (.int .i64 0)),(.val (.int .i64 0))],16))):=by kernel_rfl
theorem zc5:szO Try.prog 26=(some 1):=by kernel_rfl
theorem zc6:agO Try.prog 26=(some false):=by kernel_rfl
theorem zdg:elO Try.prog 26=(some (none,(3,1))):=by kernel_rfl
theorem zdv:mkO Try.prog 26=(some (1,([(.val (.int .i64 0))],8))):=by kernel_rfl
theorem zmp:zaO Try.prog 26=(some [(.val (.slice none 0 0))]):=by kernel_rfl
theorem zhp:szO Try.prog 31=(some 2):=by kernel_rfl
theorem zmq:agO Try.prog 31=(some true):=by kernel_rfl
theorem zmr:zcO Try.prog 31=(some [(.val (.int .i64 0)),(.val (.slice none 0 0))]):=by kernel_rfl
theorem zms:zaO Try.prog 31=(some [(.val (.int .i64 0)),(.val (.slice none 0 0))]):=by kernel_rfl
theorem zmt:znm Try.prog 31=true:=by kernel_rfl
theorem zkw:foO Try.prog 31 0=(some 0):=by kernel_rfl
theorem ze0:plO Try.prog 31 0=(some (0,1)):=by kernel_rfl
theorem ze1:foO Try.prog 31 1=(some 1):=by kernel_rfl
theorem zkx:plO Try.prog 31 1=(some (1,1)):=by kernel_rfl
theorem jhh:szO Try.prog 35=(some 1):=by kernel_rfl
theorem jhi:agO Try.prog 35=(some false):=by kernel_rfl
theorem jcv:szO Try.prog 37=(some 2):=by kernel_rfl
theorem jle:agO Try.prog 37=(some true):=by kernel_rfl
theorem zx2:zcO Try.prog 37=(some [(.val (.slice none 0 0)),(.val (.int .i64 0))]):=by kernel_rfl
theorem jhj:zaO Try.prog 37=(some [(.val (.slice none 0 0)),(.val (.int .i64 0))]):=by kernel_rfl
theorem zx3:znm Try.prog 37=true:=by kernel_rfl
theorem zuq:foO Try.prog 37 0=(some 0):=by kernel_rfl
theorem zky:plO Try.prog 37 0=(some (0,1)):=by kernel_rfl
theorem zur:foO Try.prog 37 1=(some 1):=by kernel_rfl
theorem zkz:ftO Try.prog 37 1=(some (1,(1,false))):=by kernel_rfl
theorem zus:plO Try.prog 37 1=(some (1,1)):=by kernel_rfl
theorem zeo:szO Try.prog 44=(some 1):=by kernel_rfl
theorem zfj:agO Try.prog 44=(some false):=by kernel_rfl
theorem zd4:elO Try.prog 44=(some (none,(26,1))):=by kernel_rfl
theorem zrl:mkO Try.prog 44=(some (1,([(.val (.slice none 0 0))],24))):=by kernel_rfl
theorem jhk:zaO Try.prog 44=(some [(.val (.slice none 0 0))]):=by kernel_rfl
theorem zx4:szO Try.prog 49=(some 1):=by kernel_rfl
theorem jhl:agO Try.prog 49=(some false):=by kernel_rfl
theorem jhm:elO Try.prog 49=(some (none,(4,1))):=by kernel_rfl
theorem jhn:mkO Try.prog 49=(some (1,([(.val (.bool false))],1))):=by kernel_rfl
theorem jho:zaO Try.prog 49=(some [(.val (.slice none 0 0))]):=by kernel_rfl
theorem zx5:szO Try.prog 55=(some 2):=by kernel_rfl
theorem zx6:agO Try.prog 55=(some true):=by kernel_rfl
theorem zmu:zcO Try.prog 55=(some [(.val (.int .i64 0)),(.val (.int .i64 0))]):=by kernel_rfl
theorem zx7:zaO Try.prog 55=(some [(.val (.int .i64 0)),(.val (.int .i64 0))]):=by kernel_rfl
theorem zmv:znm Try.prog 55=true:=by kernel_rfl
theorem zg3:foO Try.prog 55 0=(some 0):=by kernel_rfl
theorem ze2:plO Try.prog 55 0=(some (0,1)):=by kernel_rfl
theorem zg4:foO Try.prog 55 1=(some 1):=by kernel_rfl
theorem ze3:plO Try.prog 55 1=(some (1,1)):=by kernel_rfl
theorem zit:szO Try.prog 73=(some 2):=by kernel_rfl
theorem zut:agO Try.prog 73=(some true):=by kernel_rfl
theorem jhp:zcO Try.prog 73=(some [(.val (.slice none 0 0)),(.val (.slice none 0 0))]):=by kernel_rfl
theorem zji:zaO Try.prog 73=(some [(.val (.slice none 0 0)),(.val (.slice none 0 0))]):=by kernel_rfl
theorem jhq:znm Try.prog 73=true:=by kernel_rfl
theorem zda:foO Try.prog 73 0=(some 0):=by kernel_rfl
theorem zuu:ftO Try.prog 73 0=(some (0,(1,false))):=by kernel_rfl
theorem zuv:plO Try.prog 73 0=(some (0,1)):=by kernel_rfl
theorem zg5:foO Try.prog 73 1=(some 1):=by kernel_rfl
theorem zuw:plO Try.prog 73 1=(some (1,1)):=by kernel_rfl
theorem zx8:szO Try.prog 76=(some 1):=by kernel_rfl
theorem zx9:agO Try.prog 76=(some false):=by kernel_rfl
theorem jhr:zaO Try.prog 76=(some [(.val .nilFunc)]):=by kernel_rfl
theorem jhs:zga Try.prog 91=(some .u64):=by kernel_rfl
def KT(_:TypeId):Bool:=false
theorem zam(k:TypeId)(h:KT k=true):Maps.Keyed Try.prog k:=by cases h
theorem sza{a b:Prop}(x:a)(y:b):a∧b:=⟨x,y⟩
section
variable {c:Cx} {sm:List Nat} {Q:Exit→Fr→zaa→Prop} {id:Nat} {l:List Oper} {n:Nat} {τ τ':Fr} {H H':zaa}
theorem szq{y:Code}(hp:Kp c sm)(h:∀K:Fr→zaa→Prop,K τ' H'→sT Try.prog KT sm l l τ H K)(hq:AWp Try.prog c y Q τ' H')(hn:c.nt=n:=by exact hc)(hd:zc8 n l=true:=by rfl):AWp Try.prog c (.seq (.region id l.toArray false) y) Q τ H:=zag hp zam hn hd fun K hK=>h K (hK _ _ hq)
theorem szt{o:Operand}{x y:Code}(h:AWp Try.prog c x Q τ H)(ht:zak τ o= .d (.val (.bool true)):=by rfl):AWp Try.prog c (.cond o x y) Q τ H:=zal ht (fun _=>h) fun e=>nomatch e
theorem szf{o:Operand}{x y:Code}(h:AWp Try.prog c y Q τ H)(ht:zak τ o= .d (.val (.bool false)):=by rfl):AWp Try.prog c (.cond o x y) Q τ H:=zal ht (fun e=>nomatch e) fun _=>h
theorem szs(hp:Kp c sm)(h:∀K:Fr→zaa→Prop,K τ' H'→sT Try.prog KT sm l l τ H K)(hq:Q .normal τ' H')(hn:c.nt=n:=by exact hc)(hd:zc8 n l=true:=by rfl):AWp Try.prog c (.region id l.toArray false) Q τ H:=zbc hp zam hn hd fun K hK=>h K (hK _ _ hq)
end
end Go.Proofs.Ytfolbdkbpmgjgaa
