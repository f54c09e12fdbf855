/- Facts of types, and of the settings. -/
import Derived.Test.YtfolbdkbpmgjgaaAR
import Derived.Test.YtfolbdkbpmgjgaaProg
import Derived.DeepKeys4
set_option linter.unusedVariables false
set_option linter.unusedSimpArgs false
namespace Go.Proofs.Ytfolbdkbpmgjgaa
open Go Go.RowKit
theorem mixed:Try.prog.follows .mixedOrders=true:=by kernel_rfl
theorem zgo:szO Try.prog 3=(some 1):=by kernel_rfl
theorem zgp:agO Try.prog 3=(some false):=by kernel_rfl
theorem jga:zaO Try.prog 3=(some [(.val (.int .i64 0))]):=by kernel_rfl
theorem jgb:zgd Try.prog 3=(some .i64):=by kernel_rfl
theorem jnw:szO Try.prog 4=(some 1):=by kernel_rfl
theorem jnx:agO Try.prog 4=(some false):=by kernel_rfl
theorem jky:zfw Try.prog 4=true:=by kernel_rfl
theorem jny:szO Try.prog 5=(some 1):=by kernel_rfl
theorem jnz:agO Try.prog 5=(some false):=by kernel_rfl
theorem jkz:zgd Try.prog 5=(some .u8):=by kernel_rfl
theorem jhw:szO Try.prog 22=(some 1):=by kernel_rfl
theorem jhx:agO Try.prog 22=(some false):=by kernel_rfl
theorem jhy:elO Try.prog 22=(some (none,(5,1))):=by kernel_rfl
theorem zym:szO Try.prog 24=(some 3):=by kernel_rfl
theorem zyn:agO Try.prog 24=(some true):=by kernel_rfl
theorem zu3:foO Try.prog 24 0=(some 0):=by kernel_rfl
theorem zu4:foO Try.prog 24 1=(some 1):=by kernel_rfl
theorem zu5:foO Try.prog 24 2=(some 2):=by kernel_rfl
theorem zjs:szO Try.prog 25=(some 1):=by kernel_rfl
theorem zjt:agO Try.prog 25=(some false):=by kernel_rfl
theorem zmy:elO Try.prog 25=(some (none,(55,2))):=by kernel_rfl
theorem zrv:mkO Try.prog 25=(some (2,([(.val (.int .i64 0)),(.val (.int .i64 0))],16))):=by kernel_rfl
theorem zcw:szO Try.prog 26=(some 1):=by kernel_rfl
theorem zcx:agO Try.prog 26=(some false):=by kernel_rfl
theorem zc9:elO Try.prog 26=(some (none,(3,1))):=by kernel_rfl
theorem zdk:mkO Try.prog 26=(some (1,([(.val (.int .i64 0))],8))):=by kernel_rfl
theorem zmz:zaO Try.prog 26=(some [(.val (.slice none 0 0))]):=by kernel_rfl
theorem zgq:szO Try.prog 31=(some 2):=by kernel_rfl
theorem zju:agO Try.prog 31=(some true):=by kernel_rfl
theorem zrw:zcO Try.prog 31=(some [(.val (.int .i64 0)),(.val (.slice none 0 0))]):=by kernel_rfl
theorem zjv:zaO Try.prog 31=(some [(.val (.int .i64 0)),(.val (.slice none 0 0))]):=by kernel_rfl
theorem zrx:znt Try.prog 31=true:=by kernel_rfl
theorem zg9:foO Try.prog 31 0=(some 0):=by kernel_rfl
theorem zha:plO Try.prog 31 0=(some (0,1)):=by kernel_rfl
theorem zd0:foO Try.prog 31 1=(some 1):=by kernel_rfl
theorem zlb:plO Try.prog 31 1=(some (1,1)):=by kernel_rfl
theorem zry:szO Try.prog 35=(some 1):=by kernel_rfl
theorem zrz:agO Try.prog 35=(some false):=by kernel_rfl
theorem zoe:szO Try.prog 37=(some 2):=by kernel_rfl
theorem jl0:agO Try.prog 37=(some true):=by kernel_rfl
theorem zyo:zcO Try.prog 37=(some [(.val (.slice none 0 0)),(.val (.int .i64 0))]):=by kernel_rfl
theorem zr0:zaO Try.prog 37=(some [(.val (.slice none 0 0)),(.val (.int .i64 0))]):=by kernel_rfl
theorem zyp:znt Try.prog 37=true:=by kernel_rfl
theorem zhb:foO Try.prog 37 0=(some 0):=by kernel_rfl
theorem zlc:plO Try.prog 37 0=(some (0,1)):=by kernel_rfl
theorem zhc:foO Try.prog 37 1=(some 1):=by kernel_rfl
theorem zld:ftO Try.prog 37 1=(some (1,(1,false))):=by kernel_rfl
theorem zu6:plO Try.prog 37 1=(some (1,1)):=by kernel_rfl
theorem zep:szO Try.prog 44=(some 1):=by kernel_rfl
theorem zfk:agO Try.prog 44=(some false):=by kernel_rfl
theorem zeq:elO Try.prog 44=(some (none,(26,1))):=by kernel_rfl
theorem zr1:mkO Try.prog 44=(some (1,([(.val (.slice none 0 0))],24))):=by kernel_rfl
theorem jhz:zaO Try.prog 44=(some [(.val (.slice none 0 0))]):=by kernel_rfl
theorem zyq:szO Try.prog 49=(some 1):=by kernel_rfl
theorem jh0:agO Try.prog 49=(some false):=by kernel_rfl
theorem jh1:elO Try.prog 49=(some (none,(4,1))):=by kernel_rfl
theorem jh2:mkO Try.prog 49=(some (1,([(.val (.bool false))],1))):=by kernel_rfl
theorem jh3:zaO Try.prog 49=(some [(.val (.slice none 0 0))]):=by kernel_rfl
theorem zyr:szO Try.prog 55=(some 2):=by kernel_rfl
theorem zys:agO Try.prog 55=(some true):=by kernel_rfl
theorem zr2:zcO Try.prog 55=(some [(.val (.int .i64 0)),(.val (.int .i64 0))]):=by kernel_rfl
theorem zyt:zaO Try.prog 55=(some [(.val (.int .i64 0)),(.val (.int .i64 0))]):=by kernel_rfl
theorem zr3:znt Try.prog 55=true:=by kernel_rfl
theorem ze2:foO Try.prog 55 0=(some 0):=by kernel_rfl
theorem zhd:plO Try.prog 55 0=(some (0,1)):=by kernel_rfl
theorem ze3:foO Try.prog 55 1=(some 1):=by kernel_rfl
theorem zhe:plO Try.prog 55 1=(some (1,1)):=by kernel_rfl
theorem zi4:szO Try.prog 73=(some 2):=by kernel_rfl
theorem zu7:agO Try.prog 73=(some true):=by kernel_rfl
theorem jh4:zcO Try.prog 73=(some [(.val (.slice none 0 0)),(.val (.slice none 0 0))]):=by kernel_rfl
theorem zjw:zaO Try.prog 73=(some [(.val (.slice none 0 0)),(.val (.slice none 0 0))]):=by kernel_rfl
theorem jh5:znt Try.prog 73=true:=by kernel_rfl
theorem zdd:foO Try.prog 73 0=(some 0):=by kernel_rfl
theorem zu8:ftO Try.prog 73 0=(some (0,(1,false))):=by kernel_rfl
theorem zu9:plO Try.prog 73 0=(some (0,1)):=by kernel_rfl
theorem zhf:foO Try.prog 73 1=(some 1):=by kernel_rfl
theorem zva:plO Try.prog 73 1=(some (1,1)):=by kernel_rfl
theorem zyu:szO Try.prog 76=(some 1):=by kernel_rfl
theorem zyv:agO Try.prog 76=(some false):=by kernel_rfl
theorem jh6:zaO Try.prog 76=(some [(.val .nilFunc)]):=by kernel_rfl
theorem jh7:zgd Try.prog 91=(some .u64):=by kernel_rfl
def KT(_:TypeId):Bool:=false
theorem zao(k:TypeId)(h:KT k=true):Maps.Keyed Try.prog k:=by cases h
theorem sza{a b:Prop}(x:a)(y:b):a∧b:=⟨x,y⟩
section
variable {c:Cx} {sm:List Nat} {Q:Exit→Fr→zaa→Prop} {id:Nat} {l:List Oper} {n:Nat} {τ τ':Fr} {H H':zaa}
theorem szq{y:Code}(hp:Kp c sm)(h:∀K:Fr→zaa→Prop,K τ' H'→sT Try.prog KT sm l l τ H K)(hq:AWp Try.prog c y Q τ' H')(hn:c.nt=n:=by exact hc)(hd:zdb n l=true:=by rfl):AWp Try.prog c (.seq (.region id l.toArray false) y) Q τ H:=zaf hp zao hn hd fun K hK=>h K (hK _ _ hq)
theorem szt{o:Operand}{x y:Code}(h:AWp Try.prog c x Q τ H)(ht:zal τ o= .d (.val (.bool true)):=by rfl):AWp Try.prog c (.cond o x y) Q τ H:=zai ht (fun _=>h) fun e=>nomatch e
theorem szf{o:Operand}{x y:Code}(h:AWp Try.prog c y Q τ H)(ht:zal τ o= .d (.val (.bool false)):=by rfl):AWp Try.prog c (.cond o x y) Q τ H:=zai ht (fun e=>nomatch e) fun _=>h
theorem szs(hp:Kp c sm)(h:∀K:Fr→zaa→Prop,K τ' H'→sT Try.prog KT sm l l τ H K)(hq:Q .normal τ' H')(hn:c.nt=n:=by exact hc)(hd:zdb n l=true:=by rfl):AWp Try.prog c (.region id l.toArray false) Q τ H:=zbd hp zao hn hd fun K hK=>h K (hK _ _ hq)
end
end Go.Proofs.Ytfolbdkbpmgjgaa
