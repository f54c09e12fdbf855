/- Facts of types, and of the settings. -/
import Derived.Test.YtfolbdkbpmgjgaaAR
import Derived.Test.YtfolbdkbpmgjgaaProg
import Derived.DeepKeys4
set_option linter.unusedVariables false
set_option linter.unusedSimpArgs false
namespace Go.Proofs.Ytfolbdkbpmgjgaa
open Go Go.RowKit
theorem mixed:Try.prog.follows .mixedOrders=true:=by kernel_rfl
theorem zgp:szO Try.prog 3=(some 1):=by kernel_rfl
theorem zgq:agO Try.prog 3=(some false):=by kernel_rfl
theorem jgb:zaO Try.prog 3=(some [(.val (.int .i64 0))]):=by kernel_rfl
theorem jgc:zge Try.prog 3=(some .i64):=by kernel_rfl
theorem jkq:szO Try.prog 4=(some 1):=by kernel_rfl
theorem jkr:agO Try.prog 4=(some false):=by kernel_rfl
theorem jks:szO Try.prog 5=(some 1):=by kernel_rfl
theorem jkt:agO Try.prog 5=(some false):=by kernel_rfl
theorem jku:zge Try.prog 5=(some .u8):=by kernel_rfl
theorem jhx:szO Try.prog 22=(some 1):=by kernel_rfl
theorem jhy:agO Try.prog 22=(some false):=by kernel_rfl
theorem jhz:elO Try.prog 22=(some (none,(5,1))):=by kernel_rfl
theorem zyo:szO Try.prog 24=(some 3):=by kernel_rfl
theorem zyp:agO Try.prog 24=(some true):=by kernel_rfl
theorem zu4:foO Try.prog 24 0=(some 0):=by kernel_rfl
theorem zu5:foO Try.prog 24 1=(some 1):=by kernel_rfl
theorem zu6:foO Try.prog 24 2=(some 2):=by kernel_rfl
theorem zjn:szO Try.prog 25=(some 1):=by kernel_rfl
theorem zjo:agO Try.prog 25=(some false):=by kernel_rfl
theorem zjp:elO Try.prog 25=(some (none,(55,2))):=by kernel_rfl
theorem zrx:mkO Try.prog 25=(some (2,([(.val (.int .i64 0)),(.val (.int .i64 0))],16))):=by kernel_rfl
theorem zc6:szO Try.prog 26=(some 1):=by kernel_rfl
theorem zc7:agO Try.prog 26=(some false):=by kernel_rfl
theorem zc8:elO Try.prog 26=(some (none,(3,1))):=by kernel_rfl
theorem zd8:mkO Try.prog 26=(some (1,([(.val (.int .i64 0))],8))):=by kernel_rfl
theorem zmv:zaO Try.prog 26=(some [(.val (.slice none 0 0))]):=by kernel_rfl
theorem zhz:szO Try.prog 31=(some 2):=by kernel_rfl
theorem zjq:agO Try.prog 31=(some true):=by kernel_rfl
theorem zry:zcO Try.prog 31=(some [(.val (.int .i64 0)),(.val (.slice none 0 0))]):=by kernel_rfl
theorem zjr:zaO Try.prog 31=(some [(.val (.int .i64 0)),(.val (.slice none 0 0))]):=by kernel_rfl
theorem zrz:zno Try.prog 31=true:=by kernel_rfl
theorem zg8:foO Try.prog 31 0=(some 0):=by kernel_rfl
theorem zg9:plO Try.prog 31 0=(some (0,1)):=by kernel_rfl
theorem zd3:foO Try.prog 31 1=(some 1):=by kernel_rfl
theorem zk9:plO Try.prog 31 1=(some (1,1)):=by kernel_rfl
theorem zyq:szO Try.prog 35=(some 1):=by kernel_rfl
theorem zyr:agO Try.prog 35=(some false):=by kernel_rfl
theorem zu7:szO Try.prog 37=(some 2):=by kernel_rfl
theorem jlx:agO Try.prog 37=(some true):=by kernel_rfl
theorem zys:zcO Try.prog 37=(some [(.val (.slice none 0 0)),(.val (.int .i64 0))]):=by kernel_rfl
theorem zyt:zaO Try.prog 37=(some [(.val (.slice none 0 0)),(.val (.int .i64 0))]):=by kernel_rfl
theorem zyu:zno Try.prog 37=true:=by kernel_rfl
theorem zla:foO Try.prog 37 0=(some 0):=by kernel_rfl
theorem zlb:plO Try.prog 37 0=(some (0,1)):=by kernel_rfl
theorem zlc:foO Try.prog 37 1=(some 1):=by kernel_rfl
theorem zu8:ftO Try.prog 37 1=(some (1,(1,false))):=by kernel_rfl
theorem zu9:plO Try.prog 37 1=(some (1,1)):=by kernel_rfl
theorem zet:szO Try.prog 44=(some 1):=by kernel_rfl
theorem zfm:agO Try.prog 44=(some false):=by kernel_rfl
theorem zeu:elO Try.prog 44=(some (none,(26,1))):=by kernel_rfl
theorem zr0:mkO Try.prog 44=(some (1,([(.val (.slice none 0 0))],24))):=by kernel_rfl
theorem jh0:zaO Try.prog 44=(some [(.val (.slice none 0 0))]):=by kernel_rfl
theorem zyv:szO Try.prog 49=(some 1):=by kernel_rfl
theorem jh1:agO Try.prog 49=(some false):=by kernel_rfl
theorem zyw:elO Try.prog 49=(some (none,(4,1))):=by kernel_rfl
theorem zyx:mkO Try.prog 49=(some (1,([(.val (.bool false))],1))):=by kernel_rfl
theorem jh2:zaO Try.prog 49=(some [(.val (.slice none 0 0))]):=by kernel_rfl
theorem jh3:elO Try.prog 52=(some ((some 3),(5,1))):=by kernel_rfl
theorem zyy:szO Try.prog 55=(some 2):=by kernel_rfl
theorem zyz:agO Try.prog 55=(some true):=by kernel_rfl
theorem zr1:zcO Try.prog 55=(some [(.val (.int .i64 0)),(.val (.int .i64 0))]):=by kernel_rfl
theorem zy0:zaO Try.prog 55=(some [(.val (.int .i64 0)),(.val (.int .i64 0))]):=by kernel_rfl
theorem zr2:zno Try.prog 55=true:=by kernel_rfl
theorem zd4:foO Try.prog 55 0=(some 0):=by kernel_rfl
theorem zha:plO Try.prog 55 0=(some (0,1)):=by kernel_rfl
theorem zd5:foO Try.prog 55 1=(some 1):=by kernel_rfl
theorem zhb:plO Try.prog 55 1=(some (1,1)):=by kernel_rfl
theorem zi1:szO Try.prog 73=(some 2):=by kernel_rfl
theorem zva:agO Try.prog 73=(some true):=by kernel_rfl
theorem jh4:zcO Try.prog 73=(some [(.val (.slice none 0 0)),(.val (.slice none 0 0))]):=by kernel_rfl
theorem zjs:zaO Try.prog 73=(some [(.val (.slice none 0 0)),(.val (.slice none 0 0))]):=by kernel_rfl
theorem jh5:zno Try.prog 73=true:=by kernel_rfl
theorem zdc:foO Try.prog 73 0=(some 0):=by kernel_rfl
theorem zvb:ftO Try.prog 73 0=(some (0,(1,false))):=by kernel_rfl
theorem zvc:plO Try.prog 73 0=(some (0,1)):=by kernel_rfl
theorem zhc:foO Try.prog 73 1=(some 1):=by kernel_rfl
theorem zvd:plO Try.prog 73 1=(some (1,1)):=by kernel_rfl
theorem zy1:szO Try.prog 76=(some 1):=by kernel_rfl
theorem zy2:agO Try.prog 76=(some false):=by kernel_rfl
theorem jh6:zaO Try.prog 76=(some [(.val .nilFunc)]):=by kernel_rfl
theorem jh7:zge Try.prog 91=(some .u64):=by kernel_rfl
def KT(_:TypeId):Bool:=false
theorem zao(k:TypeId)(h:KT k=true):Maps.Keyed Try.prog k:=by cases h
theorem sza{a b:Prop}(x:a)(y:b):a∧b:=⟨x,y⟩
section
variable {c:Cx} {sm:List Nat} {Q:Exit→Fr→zaa→Prop} {id:Nat} {l:List Oper} {n:Nat} {τ τ':Fr} {H H':zaa}
theorem szq{y:Code}(hp:Kp c sm)(h:∀K:Fr→zaa→Prop,K τ' H'→sT Try.prog KT sm l l τ H K)(hq:AWp Try.prog c y Q τ' H')(hn:c.nt=n:=by exact hc)(hd:zda n l=true:=by rfl):AWp Try.prog c (.seq (.region id l.toArray false) y) Q τ H:=zae hp zao hn hd fun K hK=>h K (hK _ _ hq)
theorem szt{o:Operand}{x y:Code}(h:AWp Try.prog c x Q τ H)(ht:zam τ o= .d (.val (.bool true)):=by rfl):AWp Try.prog c (.cond o x y) Q τ H:=zak ht (fun _=>h) fun e=>nomatch e
theorem szf{o:Operand}{x y:Code}(h:AWp Try.prog c y Q τ H)(ht:zam τ o= .d (.val (.bool false)):=by rfl):AWp Try.prog c (.cond o x y) Q τ H:=zak ht (fun e=>nomatch e) fun _=>h
theorem szs(hp:Kp c sm)(h:∀K:Fr→zaa→Prop,K τ' H'→sT Try.prog KT sm l l τ H K)(hq:Q .normal τ' H')(hn:c.nt=n:=by exact hc)(hd:zda n l=true:=by rfl):AWp Try.prog c (.region id l.toArray false) Q τ H:=za6 hp zao hn hd fun K hK=>h K (hK _ _ hq)
end
end Go.Proofs.Ytfolbdkbpmgjgaa
