/- Facts of types, and of the settings. -/
import Derived.Test.YtfolbdkbpmgjgaaAR
import Derived.Test.YtfolbdkbpmgjgaaProg
import Derived.DeepKeys4
set_option linter.unusedVariables false
set_option linter.unusedSimpArgs false
namespace Go.Proofs.Ytfolbdkbpmgjgaa
open Go Go.RowKit
theorem mixed:Try.prog.follows .mixedOrders=true:=by kernel_rfl
theorem zea:szO Try.prog 3=(some 1):=by kernel_rfl
theorem zeb:agO Try.prog 3=(some false):=by kernel_rfl
theorem jim:zaO Try.prog 3=(some [(.val (.int .i64 0))]):=by kernel_rfl
theorem jn1:zgs Try.prog 3=(some .i64):=by kernel_rfl
theorem jdi:szO Try.prog 4=(some 1):=by kernel_rfl
theorem jdj:agO Try.prog 4=(some false):=by kernel_rfl
theorem jra:zhd Try.prog 4=true:=by kernel_rfl
theorem jrb:szO Try.prog 5=(some 1):=by kernel_rfl
theorem jrc:agO Try.prog 5=(some false):=by kernel_rfl
theorem jrd:zgs Try.prog 5=(some .u8):=by kernel_rfl
theorem jj9:szO Try.prog 22=(some 1):=by kernel_rfl
theorem jka:agO Try.prog 22=(some false):=by kernel_rfl
theorem jkb:elO Try.prog 22=(some (none,(5,1))):=by kernel_rfl
theorem zs0:szO Try.prog 24=(some 3):=by kernel_rfl
theorem jkc:agO Try.prog 24=(some true):=by kernel_rfl
theorem zwd:foO Try.prog 24 0=(some 0):=by kernel_rfl
theorem zwe:foO Try.prog 24 1=(some 1):=by kernel_rfl
theorem zwf:foO Try.prog 24 2=(some 2):=by kernel_rfl
theorem znk:szO Try.prog 25=(some 1):=by kernel_rfl
theorem znl:agO Try.prog 25=(some false):=by kernel_rfl
theorem zeg:elO Try.prog 25=(some (none,(55,2))):=by kernel_rfl
theorem zs1:mkO Try.prog 25=(some (2,([(.val (.int .i64 0)),(.val (.int .i64 0))],16))):=by kernel_rfl
theorem zcy:szO Try.prog 26=(some 1):=by kernel_rfl
theorem zcz:agO Try.prog 26=(some false):=by kernel_rfl
theorem zb8:elO Try.prog 26=(some (none,(3,1))):=by kernel_rfl
theorem zcl:mkO Try.prog 26=(some (1,([(.val (.int .i64 0))],8))):=by kernel_rfl
theorem znm:zaO Try.prog 26=(some [(.val (.slice none 0 0))]):=by kernel_rfl
theorem zwg:foO Try.prog 28 0=(some 0):=by kernel_rfl
theorem zwh:foO Try.prog 28 1=(some 1):=by kernel_rfl
theorem zwi:foO Try.prog 28 2=(some 2):=by kernel_rfl
theorem zwj:foO Try.prog 28 3=(some 3):=by kernel_rfl
theorem zid:szO Try.prog 31=(some 2):=by kernel_rfl
theorem znn:agO Try.prog 31=(some true):=by kernel_rfl
theorem zs2:zcO Try.prog 31=(some [(.val (.int .i64 0)),(.val (.slice none 0 0))]):=by kernel_rfl
theorem zno:zaO Try.prog 31=(some [(.val (.int .i64 0)),(.val (.slice none 0 0))]):=by kernel_rfl
theorem zs3:zmq Try.prog 31=true:=by kernel_rfl
theorem zlt:foO Try.prog 31 0=(some 0):=by kernel_rfl
theorem zhn:plO Try.prog 31 0=(some (0,1)):=by kernel_rfl
theorem zfg:foO Try.prog 31 1=(some 1):=by kernel_rfl
theorem zlu:plO Try.prog 31 1=(some (1,1)):=by kernel_rfl
theorem zz7:szO Try.prog 35=(some 1):=by kernel_rfl
theorem zz8:agO Try.prog 35=(some false):=by kernel_rfl
theorem zie:szO Try.prog 37=(some 2):=by kernel_rfl
theorem zz9:agO Try.prog 37=(some true):=by kernel_rfl
theorem zkc:zcO Try.prog 37=(some [(.val (.slice none 0 0)),(.val (.int .i64 0))]):=by kernel_rfl
theorem znp:zaO Try.prog 37=(some [(.val (.slice none 0 0)),(.val (.int .i64 0))]):=by kernel_rfl
theorem zkd:zmq Try.prog 37=true:=by kernel_rfl
theorem zlv:foO Try.prog 37 0=(some 0):=by kernel_rfl
theorem zec:plO Try.prog 37 0=(some (0,1)):=by kernel_rfl
theorem zlw:foO Try.prog 37 1=(some 1):=by kernel_rfl
theorem zwk:ftO Try.prog 37 1=(some (1,(1,false))):=by kernel_rfl
theorem zfh:plO Try.prog 37 1=(some (1,1)):=by kernel_rfl
theorem ze3:szO Try.prog 44=(some 1):=by kernel_rfl
theorem zfx:agO Try.prog 44=(some false):=by kernel_rfl
theorem zeh:elO Try.prog 44=(some (none,(26,1))):=by kernel_rfl
theorem znq:mkO Try.prog 44=(some (1,([(.val (.slice none 0 0))],24))):=by kernel_rfl
theorem jkd:zaO Try.prog 44=(some [(.val (.slice none 0 0))]):=by kernel_rfl
theorem jaa:szO Try.prog 49=(some 1):=by kernel_rfl
theorem jke:agO Try.prog 49=(some false):=by kernel_rfl
theorem znr:elO Try.prog 49=(some (none,(4,1))):=by kernel_rfl
theorem zns:mkO Try.prog 49=(some (1,([(.val (.bool false))],1))):=by kernel_rfl
theorem jkf:zaO Try.prog 49=(some [(.val (.slice none 0 0))]):=by kernel_rfl
theorem jab:szO Try.prog 55=(some 2):=by kernel_rfl
theorem jac:agO Try.prog 55=(some true):=by kernel_rfl
theorem zs4:zcO Try.prog 55=(some [(.val (.int .i64 0)),(.val (.int .i64 0))]):=by kernel_rfl
theorem jad:zaO Try.prog 55=(some [(.val (.int .i64 0)),(.val (.int .i64 0))]):=by kernel_rfl
theorem zs5:zmq Try.prog 55=true:=by kernel_rfl
theorem zb9:foO Try.prog 55 0=(some 0):=by kernel_rfl
theorem zho:plO Try.prog 55 0=(some (0,1)):=by kernel_rfl
theorem zca:foO Try.prog 55 1=(some 1):=by kernel_rfl
theorem zhp:plO Try.prog 55 1=(some (1,1)):=by kernel_rfl
theorem jkg:elO Try.prog 66=(some ((some 2),(3,1))):=by kernel_rfl
theorem jkh:zcO Try.prog 66=(some [(.val (.int .i64 0)),(.val (.int .i64 0))]):=by kernel_rfl
theorem jki:zmq Try.prog 66=true:=by kernel_rfl
theorem zwl:plO Try.prog 66 0=(some (0,1)):=by kernel_rfl
theorem zwm:plO Try.prog 66 1=(some (1,1)):=by kernel_rfl
theorem zjk:szO Try.prog 73=(some 2):=by kernel_rfl
theorem zwn:agO Try.prog 73=(some true):=by kernel_rfl
theorem jkj:zcO Try.prog 73=(some [(.val (.slice none 0 0)),(.val (.slice none 0 0))]):=by kernel_rfl
theorem zke:zaO Try.prog 73=(some [(.val (.slice none 0 0)),(.val (.slice none 0 0))]):=by kernel_rfl
theorem jkk:zmq Try.prog 73=true:=by kernel_rfl
theorem zdn:foO Try.prog 73 0=(some 0):=by kernel_rfl
theorem zwo:ftO Try.prog 73 0=(some (0,(1,false))):=by kernel_rfl
theorem zwp:plO Try.prog 73 0=(some (0,1)):=by kernel_rfl
theorem zhq:foO Try.prog 73 1=(some 1):=by kernel_rfl
theorem zwq:plO Try.prog 73 1=(some (1,1)):=by kernel_rfl
theorem jae:szO Try.prog 76=(some 1):=by kernel_rfl
theorem jaf:agO Try.prog 76=(some false):=by kernel_rfl
theorem jkl:zaO Try.prog 76=(some [(.val .nilFunc)]):=by kernel_rfl
theorem jkm:zgs Try.prog 91=(some .u64):=by kernel_rfl
def KT(_:TypeId):Bool:=false
theorem zam(k:TypeId)(h:KT k=true):Maps.Keyed Try.prog k:=by cases h
theorem sza{a b:Prop}(x:a)(y:b):a∧b:=⟨x,y⟩
section
variable {c:Cx} {sm:List Nat} {Q:Exit→Fr→zaa→Prop} {id:Nat} {l:List Oper} {n:Nat} {τ τ':Fr} {H H':zaa}
theorem szq{y:Code}(hp:Kp c sm)(h:∀K:Fr→zaa→Prop,K τ' H'→sT Try.prog KT sm l l τ H K)(hq:AWp Try.prog c y Q τ' H')(hn:c.nt=n:=by exact hc)(hd:zdl n l=true:=by rfl):AWp Try.prog c (.seq (.region id l.toArray false) y) Q τ H:=zaj hp zam hn hd fun K hK=>h K (hK _ _ hq)
theorem szt{o:Operand}{x y:Code}(h:AWp Try.prog c x Q τ H)(ht:zap τ o= .d (.val (.bool true)):=by rfl):AWp Try.prog c (.cond o x y) Q τ H:=zai ht (fun _=>h) fun e=>nomatch e
theorem szf{o:Operand}{x y:Code}(h:AWp Try.prog c y Q τ H)(ht:zap τ o= .d (.val (.bool false)):=by rfl):AWp Try.prog c (.cond o x y) Q τ H:=zai ht (fun e=>nomatch e) fun _=>h
theorem szs(hp:Kp c sm)(h:∀K:Fr→zaa→Prop,K τ' H'→sT Try.prog KT sm l l τ H K)(hq:Q .normal τ' H')(hn:c.nt=n:=by exact hc)(hd:zdl n l=true:=by rfl):AWp Try.prog c (.region id l.toArray false) Q τ H:=za6 hp zam hn hd fun K hK=>h K (hK _ _ hq)
end
end Go.Proofs.Ytfolbdkbpmgjgaa
