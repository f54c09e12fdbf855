/- Facts of types, and of the settings. -/
import Derived.Test.YtfolbdkbpmgjgaaAR
import Derived.Test.YtfolbdkbpmgjgaaProg
import Derived.DeepKeys4
set_option linter.unusedVariables false
set_option linter.unusedSimpArgs false
namespace Go.Proofs.Ytfolbdkbpmgjgaa
open Go Go.RowKit
theorem mixed:Try.prog.follows .mixedOrders=true:=by kernel_rfl
theorem zgp:szO Try.prog 3=(some 1):=by kernel_rfl
theorem zgq:agO Try.prog 3=(some false):=by kernel_rfl
theorem jgg:zaO Try.prog 3=(some [(.val (.int .i64 0))]):=by kernel_rfl
theorem jgh:zgd Try.prog 3=(some .i64):=by kernel_rfl
theorem jn0:szO Try.prog 4=(some 1):=by kernel_rfl
theorem jn1:agO Try.prog 4=(some false):=by kernel_rfl
theorem jn2:zfv Try.prog 4=true:=by kernel_rfl
theorem jk1:szO Try.prog 5=(some 1):=by kernel_rfl
theorem jk2:agO Try.prog 5=(some false):=by kernel_rfl
theorem jk3:zgd Try.prog 5=(some .u8):=by kernel_rfl
theorem jh4:szO Try.prog 22=(some 1):=by kernel_rfl
theorem jh5:agO Try.prog 22=(some false):=by kernel_rfl
theorem jh6:elO Try.prog 22=(some (none,(5,1))):=by kernel_rfl
theorem zyp:szO Try.prog 24=(some 3):=by kernel_rfl
theorem jh7:agO Try.prog 24=(some true):=by kernel_rfl
theorem zvb:foO Try.prog 24 0=(some 0):=by kernel_rfl
theorem zvc:foO Try.prog 24 1=(some 1):=by kernel_rfl
theorem zvd:foO Try.prog 24 2=(some 2):=by kernel_rfl
theorem zjt:szO Try.prog 25=(some 1):=by kernel_rfl
theorem zju:agO Try.prog 25=(some false):=by kernel_rfl
theorem zr8:elO Try.prog 25=(some (none,(55,2))):=by kernel_rfl
theorem zmu:mkO Try.prog 25=(some (2,([(.val (.int .i64 0)),(.val (.int .i64 0))],16))):=by kernel_rfl
theorem zc7:szO Try.prog 26=(some 1):=by kernel_rfl
theorem zc8:agO Try.prog 26=(some false):=by kernel_rfl
theorem zdj:elO Try.prog 26=(some (none,(3,1))):=by kernel_rfl
theorem zdv:mkO Try.prog 26=(some (1,([(.val (.int .i64 0))],8))):=by kernel_rfl
theorem zmv:zaO Try.prog 26=(some [(.val (.slice none 0 0))]):=by kernel_rfl
theorem zf5:szO Try.prog 31=(some 2):=by kernel_rfl
theorem zi1:agO Try.prog 31=(some true):=by kernel_rfl
theorem zmw:zcO Try.prog 31=(some [(.val (.int .i64 0)),(.val (.slice none 0 0))]):=by kernel_rfl
theorem zjv:zaO Try.prog 31=(some [(.val (.int .i64 0)),(.val (.slice none 0 0))]):=by kernel_rfl
theorem zmx:znu Try.prog 31=true:=by kernel_rfl
theorem zg8:foO Try.prog 31 0=(some 0):=by kernel_rfl
theorem ze3:plO Try.prog 31 0=(some (0,1)):=by kernel_rfl
theorem zd2:foO Try.prog 31 1=(some 1):=by kernel_rfl
theorem zk9:plO Try.prog 31 1=(some (1,1)):=by kernel_rfl
theorem zyq:szO Try.prog 35=(some 1):=by kernel_rfl
theorem zyr:agO Try.prog 35=(some false):=by kernel_rfl
theorem zve:szO Try.prog 37=(some 2):=by kernel_rfl
theorem jl5:agO Try.prog 37=(some true):=by kernel_rfl
theorem zys:zcO Try.prog 37=(some [(.val (.slice none 0 0)),(.val (.int .i64 0))]):=by kernel_rfl
theorem zyt:zaO Try.prog 37=(some [(.val (.slice none 0 0)),(.val (.int .i64 0))]):=by kernel_rfl
theorem zyu:znu Try.prog 37=true:=by kernel_rfl
theorem zla:foO Try.prog 37 0=(some 0):=by kernel_rfl
theorem zvf:ftO Try.prog 37 0=(some (0,(1,false))):=by kernel_rfl
theorem zlb:plO Try.prog 37 0=(some (0,1)):=by kernel_rfl
theorem zlc:foO Try.prog 37 1=(some 1):=by kernel_rfl
theorem zld:ftO Try.prog 37 1=(some (1,(1,false))):=by kernel_rfl
theorem zvg:plO Try.prog 37 1=(some (1,1)):=by kernel_rfl
theorem zer:szO Try.prog 44=(some 1):=by kernel_rfl
theorem zfj:agO Try.prog 44=(some false):=by kernel_rfl
theorem zes:elO Try.prog 44=(some (none,(26,1))):=by kernel_rfl
theorem zr9:mkO Try.prog 44=(some (1,([(.val (.slice none 0 0))],24))):=by kernel_rfl
theorem jh8:zaO Try.prog 44=(some [(.val (.slice none 0 0))]):=by kernel_rfl
theorem zyv:szO Try.prog 49=(some 1):=by kernel_rfl
theorem jh9:agO Try.prog 49=(some false):=by kernel_rfl
theorem jia:elO Try.prog 49=(some (none,(4,1))):=by kernel_rfl
theorem jib:mkO Try.prog 49=(some (1,([(.val (.bool false))],1))):=by kernel_rfl
theorem jic:zaO Try.prog 49=(some [(.val (.slice none 0 0))]):=by kernel_rfl
theorem zyw:szO Try.prog 55=(some 2):=by kernel_rfl
theorem zyx:agO Try.prog 55=(some true):=by kernel_rfl
theorem zmy:zcO Try.prog 55=(some [(.val (.int .i64 0)),(.val (.int .i64 0))]):=by kernel_rfl
theorem zyy:zaO Try.prog 55=(some [(.val (.int .i64 0)),(.val (.int .i64 0))]):=by kernel_rfl
theorem zmz:znu Try.prog 55=true:=by kernel_rfl
theorem zg9:foO Try.prog 55 0=(some 0):=by kernel_rfl
theorem ze4:plO Try.prog 55 0=(some (0,1)):=by kernel_rfl
theorem zha:foO Try.prog 55 1=(some 1):=by kernel_rfl
theorem ze5:plO Try.prog 55 1=(some (1,1)):=by kernel_rfl
theorem jid:elO Try.prog 58=(some ((some 2),(5,1))):=by kernel_rfl
theorem zi2:szO Try.prog 73=(some 2):=by kernel_rfl
theorem zvh:agO Try.prog 73=(some true):=by kernel_rfl
theorem jie:zcO Try.prog 73=(some [(.val (.slice none 0 0)),(.val (.slice none 0 0))]):=by kernel_rfl
theorem zjw:zaO Try.prog 73=(some [(.val (.slice none 0 0)),(.val (.slice none 0 0))]):=by kernel_rfl
theorem jif:znu Try.prog 73=true:=by kernel_rfl
theorem zdc:foO Try.prog 73 0=(some 0):=by kernel_rfl
theorem zvi:ftO Try.prog 73 0=(some (0,(1,false))):=by kernel_rfl
theorem zvj:plO Try.prog 73 0=(some (0,1)):=by kernel_rfl
theorem zhb:foO Try.prog 73 1=(some 1):=by kernel_rfl
theorem zvk:plO Try.prog 73 1=(some (1,1)):=by kernel_rfl
theorem zyz:szO Try.prog 76=(some 1):=by kernel_rfl
theorem zy0:agO Try.prog 76=(some false):=by kernel_rfl
theorem jig:zaO Try.prog 76=(some [(.val .nilFunc)]):=by kernel_rfl
theorem jih:zgd Try.prog 91=(some .u64):=by kernel_rfl
def KT(_:TypeId):Bool:=false
theorem zao(k:TypeId)(h:KT k=true):Maps.Keyed Try.prog k:=by cases h
theorem sza{a b:Prop}(x:a)(y:b):a∧b:=⟨x,y⟩
section
variable {c:Cx} {sm:List Nat} {Q:Exit→Fr→zaa→Prop} {id:Nat} {l:List Oper} {n:Nat} {τ τ':Fr} {H H':zaa}
theorem szq{y:Code}(hp:Kp c sm)(h:∀K:Fr→zaa→Prop,K τ' H'→sT Try.prog KT sm l l τ H K)(hq:AWp Try.prog c y Q τ' H')(hn:c.nt=n:=by exact hc)(hd:zda n l=true:=by rfl):AWp Try.prog c (.seq (.region id l.toArray false) y) Q τ H:=zad hp zao hn hd fun K hK=>h K (hK _ _ hq)
theorem szt{o:Operand}{x y:Code}(h:AWp Try.prog c x Q τ H)(ht:zaj τ o= .d (.val (.bool true)):=by rfl):AWp Try.prog c (.cond o x y) Q τ H:=zam ht (fun _=>h) fun e=>nomatch e
theorem szf{o:Operand}{x y:Code}(h:AWp Try.prog c y Q τ H)(ht:zaj τ o= .d (.val (.bool false)):=by rfl):AWp Try.prog c (.cond o x y) Q τ H:=zam ht (fun e=>nomatch e) fun _=>h
theorem szs(hp:Kp c sm)(h:∀K:Fr→zaa→Prop,K τ' H'→sT Try.prog KT sm l l τ H K)(hq:Q .normal τ' H')(hn:c.nt=n:=by exact hc)(hd:zda n l=true:=by rfl):AWp Try.prog c (.region id l.toArray false) Q τ H:=zbj hp zao hn hd fun K hK=>h K (hK _ _ hq)
end
end Go.Proofs.Ytfolbdkbpmgjgaa
