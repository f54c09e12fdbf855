/- Facts of types, and of the settings. -/
import Derived.Test.YtapjobndmmkanaaGreatAR
import Derived.Test.YtapjobndmmkanaaGreatProg
import Derived.DeepKeys4
set_option linter.unusedVariables false
set_option linter.unusedSimpArgs false
namespace Go.Proofs.YtapjobndmmkanaaGreat
open Go.Proofs.Tryz
open Go Go.RowKit
theorem mixed:prog.follows .mixedOrders=true:=by kernel_rfl
theorem zeb:szO prog 3=(some 1):=by kernel_rfl
theorem zec:agO prog 3=(some false):=by kernel_rfl
theorem ygr:zaO prog 3=(some [(.val (.int .i64 0))]):=by kernel_rfl
theorem jxe:zmd prog 3=(some .i64):=by kernel_rfl
theorem zx4:szO prog 4=(some 1):=by kernel_rfl
theorem jby:agO prog 4=(some false):=by kernel_rfl
theorem ykp:znu prog 4=true:=by kernel_rfl
theorem ykq:szO prog 5=(some 1):=by kernel_rfl
theorem ykr:agO prog 5=(some false):=by kernel_rfl
theorem yks:zmd prog 5=(some .u8):=by kernel_rfl
theorem ykt:szO prog 9=(some 1):=by kernel_rfl
theorem yku:agO prog 9=(some false):=by kernel_rfl
theorem je7:szO prog 22=(some 1):=by kernel_rfl
theorem je8:agO prog 22=(some false):=by kernel_rfl
theorem jmv:elO prog 22=(some (none,(5,1))):=by kernel_rfl
theorem jz5:szO prog 24=(some 1):=by kernel_rfl
theorem jz6:agO prog 24=(some true):=by kernel_rfl
theorem ji7:foO prog 24 0=(some 0):=by kernel_rfl
theorem zi1:szO prog 26=(some 1):=by kernel_rfl
theorem zk9:agO prog 26=(some false):=by kernel_rfl
theorem zla:elO prog 26=(some (none,(121,3))):=by kernel_rfl
theorem jz7:mkO prog 26=(some (3,([(.val (.int .i64 0)),(.val (.int .i64 0)),(.val (.int .i64 0))],24))):=by kernel_rfl
theorem zpm:szO prog 27=(some 1):=by kernel_rfl
theorem zpn:agO prog 27=(some false):=by kernel_rfl
theorem zpo:elO prog 27=(some (none,(123,5))):=by kernel_rfl
theorem jz8:mkO prog 27=(some (5,([(.val (.int .i64 0)),(.val (.int .i64 0)),(.val (.int .i64 0)),(.val (.int .i64 0)),(.val (.int .i64 0))],40))):=by kernel_rfl
theorem zdc:szO prog 28=(some 1):=by kernel_rfl
theorem zdh:agO prog 28=(some false):=by kernel_rfl
theorem zck:elO prog 28=(some (none,(3,1))):=by kernel_rfl
theorem zd1:mkO prog 28=(some (1,([(.val (.int .i64 0))],8))):=by kernel_rfl
theorem zuz:szO prog 30=(some 4):=by kernel_rfl
theorem zu0:agO prog 30=(some true):=by kernel_rfl
theorem jz9:zcO prog 30=(some [(.val (.slice none 0 0)),(.val (.slice none 0 0)),(.val (.slice none 0 0)),(.val (.slice none 0 0))]):=by kernel_rfl
theorem jmw:zaO prog 30=(some [(.val (.slice none 0 0)),(.val (.slice none 0 0)),(.val (.slice none 0 0)),(.val (.slice none 0 0))]):=by kernel_rfl
theorem yaa:ze9 prog 30=true:=by kernel_rfl
theorem zey:foO prog 30 0=(some 0):=by kernel_rfl
theorem zf9:foO prog 30 1=(some 1):=by kernel_rfl
theorem zn4:foO prog 30 2=(some 2):=by kernel_rfl
theorem zn5:foO prog 30 3=(some 3):=by kernel_rfl
theorem zlb:szO prog 32=(some 1):=by kernel_rfl
theorem zlc:agO prog 32=(some false):=by kernel_rfl
theorem zmw:elO prog 32=(some (none,(117,13))):=by kernel_rfl
theorem yab:mkO prog 32=(some (13,([(.val (.string ⟨#[]⟩)),(.val (.int .i64 0)),(.val (.int .i64 0)),(.val (.int .i64 0)),(.val (.string ⟨#[]⟩)),(.val (.int .i64 0)),(.val (.string ⟨#[]⟩)),(.val (.int .i64 0)),(.val (.string ⟨#[]⟩)),(.val (.slice none 0 0)),(.val (.int .i64 0)),(.val (.string ⟨#[]⟩)),(.val (.int .i64 0))],160))):=by kernel_rfl
theorem zld:szO prog 33=(some 1):=by kernel_rfl
theorem zle:agO prog 33=(some false):=by kernel_rfl
theorem zmx:elO prog 33=(some (none,(138,27))):=by kernel_rfl
theorem yac:mkO prog 33=(some (27,([(.val (.string ⟨#[]⟩)),(.val (.int .i64 0)),(.val (.int .i64 0)),(.val (.int .i64 0)),(.val (.string ⟨#[]⟩)),(.val (.int .i64 0)),(.val (.string ⟨#[]⟩)),(.val (.int .i64 0)),(.val (.string ⟨#[]⟩)),(.val (.slice none 0 0)),(.val (.int .i64 0)),(.val (.string ⟨#[]⟩)),(.val (.int .i64 0)),(.val (.string ⟨#[]⟩)),(.val (.int .i64 0)),(.val (.string ⟨#[]⟩)),(.val (.slice none 0 0)),(.val (.int .i64 0)),(.val (.string ⟨#[]⟩)),(.val (.int .i64 0)),(.val (.string ⟨#[]⟩)),(.val (.int .i64 0)),(.val (.string ⟨#[]⟩)),(.val (.slice none 0 0)),(.val (.int .i64 0)),(.val (.string ⟨#[]⟩)),(.val (.int .i64 0))],352))):=by kernel_rfl
theorem zmy:szO prog 34=(some 1):=by kernel_rfl
theorem zmz:agO prog 34=(some false):=by kernel_rfl
theorem zm0:elO prog 34=(some (none,(119,9))):=by kernel_rfl
theorem yad:mkO prog 34=(some (9,([(.val (.int .i64 0)),(.val (.int .i64 0)),(.val (.int .i64 0)),(.val (.string ⟨#[]⟩)),(.val (.int .i64 0)),(.val (.string ⟨#[]⟩)),(.val (.int .i64 0)),(.val (.string ⟨#[]⟩)),(.val (.slice none 0 0))],112))):=by kernel_rfl
theorem zm1:szO prog 35=(some 1):=by kernel_rfl
theorem zm2:agO prog 35=(some false):=by kernel_rfl
theorem zpp:elO prog 35=(some (none,(136,16))):=by kernel_rfl
theorem yae:mkO prog 35=(some (16,([(.val (.int .i64 0)),(.val (.int .i64 0)),(.val (.int .i64 0)),(.val (.string ⟨#[]⟩)),(.val (.int .i64 0)),(.val (.string ⟨#[]⟩)),(.val (.int .i64 0)),(.val (.string ⟨#[]⟩)),(.val (.slice none 0 0)),(.val (.int .i64 0)),(.val (.string ⟨#[]⟩)),(.val (.int .i64 0)),(.val (.string ⟨#[]⟩)),(.val (.int .i64 0)),(.val (.string ⟨#[]⟩)),(.val (.slice none 0 0))],208))):=by kernel_rfl
theorem zi2:szO prog 37=(some 6):=by kernel_rfl
theorem zpq:agO prog 37=(some true):=by kernel_rfl
theorem yaf:zcO prog 37=(some [(.val (.string ⟨#[]⟩)),(.val (.string ⟨#[]⟩)),(.val (.slice none 0 0)),(.val (.slice none 0 0)),(.val (.slice none 0 0)),(.val (.slice none 0 0))]):=by kernel_rfl
theorem je9:zaO prog 37=(some [(.val (.string ⟨#[]⟩)),(.val (.string ⟨#[]⟩)),(.val (.slice none 0 0)),(.val (.slice none 0 0)),(.val (.slice none 0 0)),(.val (.slice none 0 0))]):=by kernel_rfl
theorem yag:ze9 prog 37=true:=by kernel_rfl
theorem ji8:plO prog 37 0=(some (0,1)):=by kernel_rfl
theorem ji9:plO prog 37 1=(some (1,1)):=by kernel_rfl
theorem zd3:foO prog 37 2=(some 2):=by kernel_rfl
theorem zez:foO prog 37 3=(some 3):=by kernel_rfl
theorem ze0:foO prog 37 4=(some 4):=by kernel_rfl
theorem ze1:foO prog 37 5=(some 5):=by kernel_rfl
theorem zi3:szO prog 49=(some 1):=by kernel_rfl
theorem zi4:agO prog 49=(some false):=by kernel_rfl
theorem zi5:elO prog 49=(some (none,(28,1))):=by kernel_rfl
theorem zsh:mkO prog 49=(some (1,([(.val (.slice none 0 0))],24))):=by kernel_rfl
theorem yah:zaO prog 49=(some [(.val (.slice none 0 0))]):=by kernel_rfl
theorem zm3:szO prog 51=(some 2):=by kernel_rfl
theorem zm4:agO prog 51=(some true):=by kernel_rfl
theorem yai:zcO prog 51=(some [(.val (.slice none 0 0)),(.val (.slice none 0 0))]):=by kernel_rfl
theorem jfa:zaO prog 51=(some [(.val (.slice none 0 0)),(.val (.slice none 0 0))]):=by kernel_rfl
theorem yaj:ze9 prog 51=true:=by kernel_rfl
theorem zga:foO prog 51 0=(some 0):=by kernel_rfl
theorem zgb:foO prog 51 1=(some 1):=by kernel_rfl
theorem zpr:szO prog 53=(some 1):=by kernel_rfl
theorem zsi:agO prog 53=(some false):=by kernel_rfl
theorem zwv:elO prog 53=(some (none,(171,2))):=by kernel_rfl
theorem jfb:mkO prog 53=(some (2,([(.val (.bool false)),(.val (.int .i64 0))],16))):=by kernel_rfl
theorem zm5:szO prog 54=(some 1):=by kernel_rfl
theorem zsj:agO prog 54=(some false):=by kernel_rfl
theorem zps:elO prog 54=(some (none,(4,1))):=by kernel_rfl
theorem zpt:mkO prog 54=(some (1,([(.val (.bool false))],1))):=by kernel_rfl
theorem jja:szO prog 56=(some 2):=by kernel_rfl
theorem jjb:agO prog 56=(some true):=by kernel_rfl
theorem yak:zcO prog 56=(some [(.val (.slice none 0 0)),(.val (.slice none 0 0))]):=by kernel_rfl
theorem jmx:zaO prog 56=(some [(.val (.slice none 0 0)),(.val (.slice none 0 0))]):=by kernel_rfl
theorem yal:ze9 prog 56=true:=by kernel_rfl
theorem zn6:foO prog 56 0=(some 0):=by kernel_rfl
theorem zn7:foO prog 56 1=(some 1):=by kernel_rfl
theorem zn8:szO prog 63=(some 5):=by kernel_rfl
theorem zrq:agO prog 63=(some true):=by kernel_rfl
theorem yam:zcO prog 63=(some [(.val (.bool false)),(.val (.slice none 0 0)),(.val (.slice none 0 0)),(.val (.slice none 0 0)),(.val (.slice none 0 0))]):=by kernel_rfl
theorem zww:zaO prog 63=(some [(.val (.bool false)),(.val (.slice none 0 0)),(.val (.slice none 0 0)),(.val (.slice none 0 0)),(.val (.slice none 0 0))]):=by kernel_rfl
theorem yan:ze9 prog 63=true:=by kernel_rfl
theorem zn9:foO prog 63 0=(some 0):=by kernel_rfl
theorem jjc:plO prog 63 0=(some (0,1)):=by kernel_rfl
theorem zjn:foO prog 63 1=(some 1):=by kernel_rfl
theorem jjd:plO prog 63 1=(some (1,2)):=by kernel_rfl
theorem zoa:foO prog 63 2=(some 3):=by kernel_rfl
theorem jje:plO prog 63 2=(some (3,1)):=by kernel_rfl
theorem zob:foO prog 63 3=(some 4):=by kernel_rfl
theorem jjf:plO prog 63 3=(some (4,1)):=by kernel_rfl
theorem yao:elO prog 71=(some (none,(22,1))):=by kernel_rfl
theorem yap:szO prog 81=(some 3):=by kernel_rfl
theorem zte:zcO prog 110=(some [(.val (.int .i64 0)),(.val (.string ⟨#[]⟩))]):=by kernel_rfl
theorem ztf:ze9 prog 110=true:=by kernel_rfl
theorem zp9:foO prog 110 0=(some 0):=by kernel_rfl
theorem zkc:plO prog 110 0=(some (0,1)):=by kernel_rfl
theorem ztg:szO prog 111=(some 1):=by kernel_rfl
theorem zth:agO prog 111=(some false):=by kernel_rfl
theorem zti:elO prog 111=(some (none,(113,7))):=by kernel_rfl
theorem ztj:mkO prog 111=(some (7,([(.val (.int .i64 0)),(.val (.string ⟨#[]⟩)),(.val (.int .i64 0)),(.val (.string ⟨#[]⟩)),(.val (.int .i64 0)),(.val (.string ⟨#[]⟩)),(.val (.slice none 0 0))],96))):=by kernel_rfl
theorem zdb:szO prog 113=(some 7):=by kernel_rfl
theorem zdi:agO prog 113=(some true):=by kernel_rfl
theorem zox:zcO prog 113=(some [(.val (.int .i64 0)),(.val (.string ⟨#[]⟩)),(.val (.int .i64 0)),(.val (.string ⟨#[]⟩)),(.val (.int .i64 0)),(.val (.string ⟨#[]⟩)),(.val (.slice none 0 0))]):=by kernel_rfl
theorem zlk:zaO prog 113=(some [(.val (.int .i64 0)),(.val (.string ⟨#[]⟩)),(.val (.int .i64 0)),(.val (.string ⟨#[]⟩)),(.val (.int .i64 0)),(.val (.string ⟨#[]⟩)),(.val (.slice none 0 0))]):=by kernel_rfl
theorem zoy:ze9 prog 113=true:=by kernel_rfl
theorem zkd:foO prog 113 0=(some 0):=by kernel_rfl
theorem zhb:plO prog 113 0=(some (0,1)):=by kernel_rfl
theorem zqa:foO prog 113 2=(some 2):=by kernel_rfl
theorem zke:plO prog 113 2=(some (2,2)):=by kernel_rfl
theorem zqb:foO prog 113 3=(some 4):=by kernel_rfl
theorem zqc:plO prog 113 3=(some (4,2)):=by kernel_rfl
theorem zkf:foO prog 113 4=(some 6):=by kernel_rfl
theorem jbz:plO prog 113 4=(some (6,1)):=by kernel_rfl
theorem jjg:szO prog 115=(some 3):=by kernel_rfl
theorem yaq:agO prog 115=(some true):=by kernel_rfl
theorem jqn:zcO prog 115=(some [(.val (.int .i64 0)),(.val (.string ⟨#[]⟩)),(.val (.int .i64 0))]):=by kernel_rfl
theorem jqo:zaO prog 115=(some [(.val (.int .i64 0)),(.val (.string ⟨#[]⟩)),(.val (.int .i64 0))]):=by kernel_rfl
theorem jqp:ze9 prog 115=true:=by kernel_rfl
theorem jb0:plO prog 115 0=(some (0,1)):=by kernel_rfl
theorem jb1:plO prog 115 1=(some (1,1)):=by kernel_rfl
theorem jb2:plO prog 115 2=(some (2,1)):=by kernel_rfl
theorem ztk:szO prog 117=(some 13):=by kernel_rfl
theorem ztl:agO prog 117=(some true):=by kernel_rfl
theorem jqq:zcO prog 117=(some [(.val (.string ⟨#[]⟩)),(.val (.int .i64 0)),(.val (.int .i64 0)),(.val (.int .i64 0)),(.val (.string ⟨#[]⟩)),(.val (.int .i64 0)),(.val (.string ⟨#[]⟩)),(.val (.int .i64 0)),(.val (.string ⟨#[]⟩)),(.val (.slice none 0 0)),(.val (.int .i64 0)),(.val (.string ⟨#[]⟩)),(.val (.int .i64 0))]):=by kernel_rfl
theorem ztm:zaO prog 117=(some [(.val (.string ⟨#[]⟩)),(.val (.int .i64 0)),(.val (.int .i64 0)),(.val (.int .i64 0)),(.val (.string ⟨#[]⟩)),(.val (.int .i64 0)),(.val (.string ⟨#[]⟩)),(.val (.int .i64 0)),(.val (.string ⟨#[]⟩)),(.val (.slice none 0 0)),(.val (.int .i64 0)),(.val (.string ⟨#[]⟩)),(.val (.int .i64 0))]):=by kernel_rfl
theorem jqr:ze9 prog 117=true:=by kernel_rfl
theorem jb3:plO prog 117 0=(some (0,1)):=by kernel_rfl
theorem zfk:foO prog 117 1=(some 1):=by kernel_rfl
theorem jb4:plO prog 117 1=(some (1,1)):=by kernel_rfl
theorem jb5:plO prog 117 2=(some (2,1)):=by kernel_rfl
theorem zkg:foO prog 117 3=(some 3):=by kernel_rfl
theorem jb6:plO prog 117 4=(some (10,3)):=by kernel_rfl
theorem ztn:szO prog 119=(some 9):=by kernel_rfl
theorem zto:agO prog 119=(some true):=by kernel_rfl
theorem jqs:zcO prog 119=(some [(.val (.int .i64 0)),(.val (.int .i64 0)),(.val (.int .i64 0)),(.val (.string ⟨#[]⟩)),(.val (.int .i64 0)),(.val (.string ⟨#[]⟩)),(.val (.int .i64 0)),(.val (.string ⟨#[]⟩)),(.val (.slice none 0 0))]):=by kernel_rfl
theorem ztp:zaO prog 119=(some [(.val (.int .i64 0)),(.val (.int .i64 0)),(.val (.int .i64 0)),(.val (.string ⟨#[]⟩)),(.val (.int .i64 0)),(.val (.string ⟨#[]⟩)),(.val (.int .i64 0)),(.val (.string ⟨#[]⟩)),(.val (.slice none 0 0))]):=by kernel_rfl
theorem jqt:ze9 prog 119=true:=by kernel_rfl
theorem jb7:plO prog 119 0=(some (0,1)):=by kernel_rfl
theorem zfl:foO prog 119 1=(some 1):=by kernel_rfl
theorem jb8:plO prog 119 1=(some (1,1)):=by kernel_rfl
theorem zkh:foO prog 119 2=(some 2):=by kernel_rfl
theorem zll:szO prog 121=(some 3):=by kernel_rfl
theorem zoz:agO prog 121=(some true):=by kernel_rfl
theorem zo0:zcO prog 121=(some [(.val (.int .i64 0)),(.val (.int .i64 0)),(.val (.int .i64 0))]):=by kernel_rfl
theorem zo1:zaO prog 121=(some [(.val (.int .i64 0)),(.val (.int .i64 0)),(.val (.int .i64 0))]):=by kernel_rfl
theorem zo2:ze9 prog 121=true:=by kernel_rfl
theorem zki:foO prog 121 0=(some 0):=by kernel_rfl
theorem zhc:plO prog 121 0=(some (0,1)):=by kernel_rfl
theorem zkj:foO prog 121 1=(some 1):=by kernel_rfl
theorem zhd:plO prog 121 1=(some (1,1)):=by kernel_rfl
theorem zkk:foO prog 121 2=(some 2):=by kernel_rfl
theorem zhe:plO prog 121 2=(some (2,1)):=by kernel_rfl
theorem ztq:szO prog 123=(some 5):=by kernel_rfl
theorem ztr:agO prog 123=(some true):=by kernel_rfl
theorem zlm:zcO prog 123=(some [(.val (.int .i64 0)),(.val (.int .i64 0)),(.val (.int .i64 0)),(.val (.int .i64 0)),(.val (.int .i64 0))]):=by kernel_rfl
theorem jb9:zaO prog 123=(some [(.val (.int .i64 0)),(.val (.int .i64 0)),(.val (.int .i64 0)),(.val (.int .i64 0)),(.val (.int .i64 0))]):=by kernel_rfl
theorem zln:ze9 prog 123=true:=by kernel_rfl
theorem zkl:foO prog 123 0=(some 0):=by kernel_rfl
theorem zfm:plO prog 123 0=(some (0,1)):=by kernel_rfl
theorem zkm:foO prog 123 1=(some 1):=by kernel_rfl
theorem zfn:plO prog 123 1=(some (1,1)):=by kernel_rfl
theorem zqd:foO prog 123 2=(some 2):=by kernel_rfl
theorem zhf:plO prog 123 2=(some (2,1)):=by kernel_rfl
theorem zqe:foO prog 123 3=(some 3):=by kernel_rfl
theorem zkn:plO prog 123 3=(some (3,1)):=by kernel_rfl
theorem zqf:foO prog 123 4=(some 4):=by kernel_rfl
theorem jca:plO prog 123 4=(some (4,1)):=by kernel_rfl
theorem zhy:szO prog 125=(some 4):=by kernel_rfl
theorem zhz:agO prog 125=(some true):=by kernel_rfl
theorem jcb:zcO prog 125=(some [(.val (.slice none 0 0)),(.val (.slice none 0 0)),(.val (.slice none 0 0)),(.val (.bool false))]):=by kernel_rfl
theorem jcc:zaO prog 125=(some [(.val (.slice none 0 0)),(.val (.slice none 0 0)),(.val (.slice none 0 0)),(.val (.bool false))]):=by kernel_rfl
theorem jcd:ze9 prog 125=true:=by kernel_rfl
theorem zko:foO prog 125 0=(some 0):=by kernel_rfl
theorem jce:plO prog 125 0=(some (0,1)):=by kernel_rfl
theorem zqg:foO prog 125 1=(some 1):=by kernel_rfl
theorem zkp:foO prog 125 2=(some 2):=by kernel_rfl
theorem jcf:plO prog 125 2=(some (2,1)):=by kernel_rfl
theorem jcg:foO prog 125 3=(some 3):=by kernel_rfl
theorem jch:plO prog 125 3=(some (3,1)):=by kernel_rfl
theorem zgf:szO prog 127=(some 2):=by kernel_rfl
theorem zgg:agO prog 127=(some true):=by kernel_rfl
theorem jci:zcO prog 127=(some [(.val (.slice none 0 0)),(.val (.int .i64 0))]):=by kernel_rfl
theorem zo3:zaO prog 127=(some [(.val (.slice none 0 0)),(.val (.int .i64 0))]):=by kernel_rfl
theorem jcj:ze9 prog 127=true:=by kernel_rfl
theorem jck:foO prog 127 0=(some 0):=by kernel_rfl
theorem zqh:plO prog 127 0=(some (0,1)):=by kernel_rfl
theorem jcl:foO prog 127 1=(some 1):=by kernel_rfl
theorem zjo:szO prog 131=(some 9):=by kernel_rfl
theorem jjh:agO prog 131=(some true):=by kernel_rfl
theorem zts:zcO prog 131=(some [(.val (.int .i64 0)),(.val (.string ⟨#[]⟩)),(.val (.int .i64 0)),(.val (.string ⟨#[]⟩)),(.val (.int .i64 0)),(.val (.string ⟨#[]⟩)),(.val (.slice none 0 0)),(.val (.slice none 0 0)),(.val (.int .i64 0))]):=by kernel_rfl
theorem zo4:zaO prog 131=(some [(.val (.int .i64 0)),(.val (.string ⟨#[]⟩)),(.val (.int .i64 0)),(.val (.string ⟨#[]⟩)),(.val (.int .i64 0)),(.val (.string ⟨#[]⟩)),(.val (.slice none 0 0)),(.val (.slice none 0 0)),(.val (.int .i64 0))]):=by kernel_rfl
theorem ztt:ze9 prog 131=true:=by kernel_rfl
theorem zkq:foO prog 131 0=(some 0):=by kernel_rfl
theorem zkr:plO prog 131 0=(some (0,7)):=by kernel_rfl
theorem zks:foO prog 131 1=(some 7):=by kernel_rfl
theorem zkt:plO prog 131 1=(some (7,2)):=by kernel_rfl
theorem jqu:szO prog 134=(some 2):=by kernel_rfl
theorem jqv:agO prog 134=(some true):=by kernel_rfl
theorem zlo:elO prog 134=(some ((some 2),(3,1))):=by kernel_rfl
theorem ziu:zcO prog 134=(some [(.val (.int .i64 0)),(.val (.int .i64 0))]):=by kernel_rfl
theorem jqw:zaO prog 134=(some [(.val (.int .i64 0)),(.val (.int .i64 0))]):=by kernel_rfl
theorem ziv:ze9 prog 134=true:=by kernel_rfl
theorem zee:plO prog 134 0=(some (0,1)):=by kernel_rfl
theorem zef:plO prog 134 1=(some (1,1)):=by kernel_rfl
theorem jcm:szO prog 136=(some 16):=by kernel_rfl
theorem jcn:agO prog 136=(some true):=by kernel_rfl
theorem jqx:zcO prog 136=(some [(.val (.int .i64 0)),(.val (.int .i64 0)),(.val (.int .i64 0)),(.val (.string ⟨#[]⟩)),(.val (.int .i64 0)),(.val (.string ⟨#[]⟩)),(.val (.int .i64 0)),(.val (.string ⟨#[]⟩)),(.val (.slice none 0 0)),(.val (.int .i64 0)),(.val (.string ⟨#[]⟩)),(.val (.int .i64 0)),(.val (.string ⟨#[]⟩)),(.val (.int .i64 0)),(.val (.string ⟨#[]⟩)),(.val (.slice none 0 0))]):=by kernel_rfl
theorem jco:zaO prog 136=(some [(.val (.int .i64 0)),(.val (.int .i64 0)),(.val (.int .i64 0)),(.val (.string ⟨#[]⟩)),(.val (.int .i64 0)),(.val (.string ⟨#[]⟩)),(.val (.int .i64 0)),(.val (.string ⟨#[]⟩)),(.val (.slice none 0 0)),(.val (.int .i64 0)),(.val (.string ⟨#[]⟩)),(.val (.int .i64 0)),(.val (.string ⟨#[]⟩)),(.val (.int .i64 0)),(.val (.string ⟨#[]⟩)),(.val (.slice none 0 0))]):=by kernel_rfl
theorem jqy:ze9 prog 136=true:=by kernel_rfl
theorem jcp:plO prog 136 0=(some (0,1)):=by kernel_rfl
theorem jcq:foO prog 136 1=(some 1):=by kernel_rfl
theorem jcr:plO prog 136 1=(some (1,1)):=by kernel_rfl
theorem zku:foO prog 136 2=(some 2):=by kernel_rfl
theorem zkv:foO prog 136 3=(some 9):=by kernel_rfl
theorem jcs:szO prog 138=(some 27):=by kernel_rfl
theorem jct:agO prog 138=(some true):=by kernel_rfl
theorem jqz:zcO prog 138=(some [(.val (.string ⟨#[]⟩)),(.val (.int .i64 0)),(.val (.int .i64 0)),(.val (.int .i64 0)),(.val (.string ⟨#[]⟩)),(.val (.int .i64 0)),(.val (.string ⟨#[]⟩)),(.val (.int .i64 0)),(.val (.string ⟨#[]⟩)),(.val (.slice none 0 0)),(.val (.int .i64 0)),(.val (.string ⟨#[]⟩)),(.val (.int .i64 0)),(.val (.string ⟨#[]⟩)),(.val (.int .i64 0)),(.val (.string ⟨#[]⟩)),(.val (.slice none 0 0)),(.val (.int .i64 0)),(.val (.string ⟨#[]⟩)),(.val (.int .i64 0)),(.val (.string ⟨#[]⟩)),(.val (.int .i64 0)),(.val (.string ⟨#[]⟩)),(.val (.slice none 0 0)),(.val (.int .i64 0)),(.val (.string ⟨#[]⟩)),(.val (.int .i64 0))]):=by kernel_rfl
theorem jcu:zaO prog 138=(some [(.val (.string ⟨#[]⟩)),(.val (.int .i64 0)),(.val (.int .i64 0)),(.val (.int .i64 0)),(.val (.string ⟨#[]⟩)),(.val (.int .i64 0)),(.val (.string ⟨#[]⟩)),(.val (.int .i64 0)),(.val (.string ⟨#[]⟩)),(.val (.slice none 0 0)),(.val (.int .i64 0)),(.val (.string ⟨#[]⟩)),(.val (.int .i64 0)),(.val (.string ⟨#[]⟩)),(.val (.int .i64 0)),(.val (.string ⟨#[]⟩)),(.val (.slice none 0 0)),(.val (.int .i64 0)),(.val (.string ⟨#[]⟩)),(.val (.int .i64 0)),(.val (.string ⟨#[]⟩)),(.val (.int .i64 0)),(.val (.string ⟨#[]⟩)),(.val (.slice none 0 0)),(.val (.int .i64 0)),(.val (.string ⟨#[]⟩)),(.val (.int .i64 0))]):=by kernel_rfl
theorem jq0:ze9 prog 138=true:=by kernel_rfl
theorem jcv:plO prog 138 0=(some (0,1)):=by kernel_rfl
theorem zfo:foO prog 138 1=(some 1):=by kernel_rfl
theorem jcw:plO prog 138 1=(some (1,1)):=by kernel_rfl
theorem zhg:foO prog 138 2=(some 2):=by kernel_rfl
theorem jcx:plO prog 138 2=(some (2,1)):=by kernel_rfl
theorem zkw:foO prog 138 3=(some 3):=by kernel_rfl
theorem zkx:foO prog 138 4=(some 10):=by kernel_rfl
theorem zky:foO prog 138 5=(some 17):=by kernel_rfl
theorem jcy:plO prog 138 6=(some (24,3)):=by kernel_rfl
theorem ztu:szO prog 140=(some 2):=by kernel_rfl
theorem jcz:szO prog 145=(some 8):=by kernel_rfl
theorem jq1:szO prog 147=(some 4):=by kernel_rfl
theorem ztv:zmd prog 168=(some .u64):=by kernel_rfl
theorem ztw:szO prog 171=(some 2):=by kernel_rfl
theorem jc0:agO prog 171=(some true):=by kernel_rfl
theorem ztx:zcO prog 171=(some [(.val (.bool false)),(.val (.int .i64 0))]):=by kernel_rfl
theorem jq2:zaO prog 171=(some [(.val (.bool false)),(.val (.int .i64 0))]):=by kernel_rfl
theorem zty:ze9 prog 171=true:=by kernel_rfl
theorem jq3:jx9 prog 171=(some [(0,true),(1,false)]):=by kernel_rfl
theorem zqi:foO prog 171 0=(some 0):=by kernel_rfl
theorem zkz:plO prog 171 0=(some (0,1)):=by kernel_rfl
theorem zqj:foO prog 171 1=(some 1):=by kernel_rfl
theorem zk0:plO prog 171 1=(some (1,1)):=by kernel_rfl
theorem zwx:szO prog 173=(some 3):=by kernel_rfl
theorem jji:agO prog 173=(some true):=by kernel_rfl
theorem zo5:elO prog 173=(some ((some 3),(3,1))):=by kernel_rfl
theorem jq4:zcO prog 173=(some [(.val (.int .i64 0)),(.val (.int .i64 0)),(.val (.int .i64 0))]):=by kernel_rfl
theorem jc1:zaO prog 173=(some [(.val (.int .i64 0)),(.val (.int .i64 0)),(.val (.int .i64 0))]):=by kernel_rfl
theorem jq5:ze9 prog 173=true:=by kernel_rfl
theorem jc2:plO prog 173 0=(some (0,1)):=by kernel_rfl
theorem jc3:plO prog 173 1=(some (1,1)):=by kernel_rfl
theorem jc4:plO prog 173 2=(some (2,1)):=by kernel_rfl
theorem zo6:szO prog 177=(some 9):=by kernel_rfl
theorem zo7:agO prog 177=(some true):=by kernel_rfl
theorem jq6:zcO prog 177=(some [(.val (.string ⟨#[]⟩)),(.val (.string ⟨#[]⟩)),(.val (.slice none 0 0)),(.val (.slice none 0 0)),(.val (.slice none 0 0)),(.val (.slice none 0 0)),(.val (.slice none 0 0)),(.val (.slice none 0 0)),(.val (.slice none 0 0))]):=by kernel_rfl
theorem jq7:zaO prog 177=(some [(.val (.string ⟨#[]⟩)),(.val (.string ⟨#[]⟩)),(.val (.slice none 0 0)),(.val (.slice none 0 0)),(.val (.slice none 0 0)),(.val (.slice none 0 0)),(.val (.slice none 0 0)),(.val (.slice none 0 0)),(.val (.slice none 0 0))]):=by kernel_rfl
theorem jq8:ze9 prog 177=true:=by kernel_rfl
theorem zk1:foO prog 177 0=(some 0):=by kernel_rfl
theorem jc5:plO prog 177 0=(some (0,6)):=by kernel_rfl
theorem zqk:foO prog 177 1=(some 6):=by kernel_rfl
theorem jc6:plO prog 177 1=(some (6,2)):=by kernel_rfl
theorem zql:foO prog 177 2=(some 8):=by kernel_rfl
theorem jc7:plO prog 177 2=(some (8,1)):=by kernel_rfl
theorem zhh:szO prog 187=(some 1):=by kernel_rfl
theorem zhi:agO prog 187=(some false):=by kernel_rfl
theorem jq9:szO prog 188=(some 1):=by kernel_rfl
theorem jra:agO prog 188=(some false):=by kernel_rfl
theorem zo8:szO prog 189=(some 1):=by kernel_rfl
theorem zo9:agO prog 189=(some false):=by kernel_rfl
theorem jrb:zcO prog 191=(some [(.val (.slice none 0 0)),(.val (.slice none 0 0)),(.val (.slice none 0 0)),(.val (.slice none 0 0)),(.val (.string ⟨#[]⟩)),(.val (.string ⟨#[]⟩)),(.val (.slice none 0 0)),(.val (.slice none 0 0)),(.val (.slice none 0 0)),(.val (.slice none 0 0)),(.val (.map none)),(.val (.map none)),(.val (.slice none 0 0))]):=by kernel_rfl
theorem jrc:ze9 prog 191=true:=by kernel_rfl
theorem zhj:foO prog 191 0=(some 0):=by kernel_rfl
theorem zk2:foO prog 191 1=(some 4):=by kernel_rfl
theorem jc8:plO prog 191 1=(some (4,6)):=by kernel_rfl
theorem jc9:foO prog 191 2=(some 10):=by kernel_rfl
theorem jda:plO prog 191 2=(some (10,1)):=by kernel_rfl
theorem zhk:foO prog 191 3=(some 11):=by kernel_rfl
theorem jdb:plO prog 191 3=(some (11,1)):=by kernel_rfl
theorem zqm:foO prog 191 4=(some 12):=by kernel_rfl
theorem jrd:szO prog 235=(some 1):=by kernel_rfl
theorem jre:agO prog 235=(some false):=by kernel_rfl
theorem jdc:foO prog 237 1=(some 1):=by kernel_rfl
theorem jrf:szO prog 238=(some 12):=by kernel_rfl
theorem jrg:elO prog 238=(some ((some 6),(237,2))):=by kernel_rfl
theorem jrh:zaO prog 238=(some [(.val (.int .i64 0)),(.val .nilFunc),(.val (.int .i64 0)),(.val .nilFunc),(.val (.int .i64 0)),(.val .nilFunc),(.val (.int .i64 0)),(.val .nilFunc),(.val (.int .i64 0)),(.val .nilFunc),(.val (.int .i64 0)),(.val .nilFunc)]):=by kernel_rfl
theorem jdd:szO prog 248=(some 1):=by kernel_rfl
theorem jri:agO prog 248=(some false):=by kernel_rfl
theorem jrj:zaO prog 248=(some [(.val .nilFunc)]):=by kernel_rfl
theorem jrk:elO prog 277=(some (none,(9,1))):=by kernel_rfl
theorem jrl:mkO prog 277=(some (1,([(.val (.string ⟨#[]⟩))],16))):=by kernel_rfl
theorem ztz:szO prog 281=(some 4):=by kernel_rfl
theorem zt0:agO prog 281=(some true):=by kernel_rfl
theorem jrm:zcO prog 281=(some [(.val (.slice none 0 0)),(.val (.slice none 0 0)),(.val (.int .i64 0)),(.val (.int .i64 0))]):=by kernel_rfl
theorem jrn:zaO prog 281=(some [(.val (.slice none 0 0)),(.val (.slice none 0 0)),(.val (.int .i64 0)),(.val (.int .i64 0))]):=by kernel_rfl
theorem jro:ze9 prog 281=true:=by kernel_rfl
theorem zqn:foO prog 281 0=(some 0):=by kernel_rfl
theorem jde:plO prog 281 0=(some (0,1)):=by kernel_rfl
theorem jdf:foO prog 281 1=(some 1):=by kernel_rfl
theorem jdg:plO prog 281 1=(some (1,1)):=by kernel_rfl
theorem jdh:foO prog 281 2=(some 2):=by kernel_rfl
theorem jdi:plO prog 281 2=(some (2,1)):=by kernel_rfl
theorem jdj:foO prog 281 3=(some 3):=by kernel_rfl
theorem jdk:plO prog 281 3=(some (3,1)):=by kernel_rfl
theorem jdl:szO prog 282=(some 1):=by kernel_rfl
theorem jdm:agO prog 282=(some false):=by kernel_rfl
theorem zwy:szO prog 284=(some 3):=by kernel_rfl
theorem jjj:agO prog 284=(some true):=by kernel_rfl
theorem jrp:zcO prog 284=(some [(.val (.int .i64 0)),(.val .nilFunc),(.val .nilFunc)]):=by kernel_rfl
theorem jdn:zaO prog 284=(some [(.val (.int .i64 0)),(.val .nilFunc),(.val .nilFunc)]):=by kernel_rfl
theorem jrq:ze9 prog 284=true:=by kernel_rfl
theorem jdo:foO prog 284 0=(some 0):=by kernel_rfl
theorem jdp:plO prog 284 0=(some (0,1)):=by kernel_rfl
theorem jdq:foO prog 284 1=(some 1):=by kernel_rfl
theorem jdr:plO prog 284 1=(some (1,1)):=by kernel_rfl
theorem jds:foO prog 284 2=(some 2):=by kernel_rfl
theorem jdt:plO prog 284 2=(some (2,1)):=by kernel_rfl
theorem jrr:zcO prog 290=(some [(.val (.int .i64 0)),(.val (.int .i64 0))]):=by kernel_rfl
theorem jrs:ze9 prog 290=true:=by kernel_rfl
theorem jdu:plO prog 290 0=(some (0,1)):=by kernel_rfl
theorem jdv:plO prog 290 1=(some (1,1)):=by kernel_rfl
theorem zjp:laidOutB prog=true:=by kernel_rfl
theorem ymu:Maps.Keyed prog 3:=Maps.int_keyed (q:=.i64) (by kernel_rfl)
theorem yar:Maps.Keyed prog 121:=.of_law (deep_law_laid zjp (m:=3) (by omega) (of_decide_eq_true (by kernel_rfl)) (by kernel_rfl) (by kernel_rfl))
theorem yas:Maps.Keyed prog 123:=.of_law (deep_law_laid zjp (m:=3) (by omega) (of_decide_eq_true (by kernel_rfl)) (by kernel_rfl) (by kernel_rfl))
theorem yat:Maps.Keyed prog 173:=.of_law (deep_law_laid zjp (m:=3) (by omega) (of_decide_eq_true (by kernel_rfl)) (by kernel_rfl) (by kernel_rfl))
theorem yau:Maps.Keyed prog 276:=.of_law (deep_law_laid zjp (m:=3) (by omega) (of_decide_eq_true (by kernel_rfl)) (by kernel_rfl) (by kernel_rfl))
theorem yav:Maps.Keyed prog 290:=.of_law (deep_law_laid zjp (m:=3) (by omega) (of_decide_eq_true (by kernel_rfl)) (by kernel_rfl) (by kernel_rfl))
def KT(k:TypeId):Bool:=k==3||k==121||k==123||k==173||k==276||k==290
theorem zah(k:TypeId)(h:KT k=true):Maps.Keyed prog k:=by
 simp only[KT,Bool.or_eq_true,beq_iff_eq,or_assoc]at h
 rcases h with rfl|rfl|rfl|rfl|rfl|rfl
 ·exact ymu
 ·exact yar
 ·exact yas
 ·exact yat
 ·exact yau
 ·exact yav
theorem sza{a b:Prop}(x:a)(y:b):a∧b:=⟨x,y⟩
section
variable {c:Cx} {sm:List Nat} {Q:Exit→Fr→zad→Prop} {id:Nat} {l:List Oper} {n:Nat} {τ τ':Fr} {H H':zad}
theorem szq{y:Code}(h:∀{K:Fr→zad→Prop},K τ' H'→sT prog KT sm l l τ H K)(hq:AWp prog c y Q τ' H')(hn:c.nt=n:=by exact hc)(hd:zgi n l=true:=by rfl)(hp:Kp c sm:=by exact hp):AWp prog c (.seq (.region id l.toArray false) y) Q τ H:=zaf hp zah hn hd fun K hK=>h (hK _ _ hq)
theorem szt{o:Operand}{x y:Code}(h:AWp prog c x Q τ H)(ht:zaw τ o= .d (.val (.bool true)):=by rfl):AWp prog c (.cond o x y) Q τ H:=zan ht (fun _=>h) fun e=>nomatch e
theorem szf{o:Operand}{x y:Code}(h:AWp prog c y Q τ H)(ht:zaw τ o= .d (.val (.bool false)):=by rfl):AWp prog c (.cond o x y) Q τ H:=zan ht (fun e=>nomatch e) fun _=>h
theorem szs(h:∀{K:Fr→zad→Prop},K τ' H'→sT prog KT sm l l τ H K)(hq:Q .normal τ' H')(hn:c.nt=n:=by exact hc)(hd:zgi n l=true:=by rfl)(hp:Kp c sm:=by exact hp):AWp prog c (.region id l.toArray false) Q τ H:=za1 hp zah hn hd fun K hK=>h (hK _ _ hq)
end
theorem qae:type_of% (qab (qad (qad (qad @zdc @zdh @zck @zeb @zec) (qad @zi5 @zps @zpt @jrf @jrg) (qad @jrh @zf9 @zpm @zpn @zpo) (qad @ztq @ztr @jb9 @zkm @zx4) (qad @jby @zqd @zqe @zkl @zqf)) (qad (qad @jdc @jrd @jre @zey @zi1) (qad @zk9 @zla @zll @zoz @zo1) (qad @zki @zkj @zga @zkk @zwv) (qad @zqi @zqj @zgf @zgg @jcl) (qad @jck @je7 @je8 @jmv @jxe)) (qad (qad @ykq @ykr @yks @zo3 @jrk) (qad @jrl @ykt @yku @zdb @zlk) (qad @zox @ztv @ztf @zkc @zte) (qad @zoy @zhb @zke @zqc @zhy) (qad @zhz @zti @ztj @zko @zdi)) (qad (qad @zqg @jcg @zlo @zjo @zo4) (qad @zts @ztt @zkr @zkt @zo5) (qad @zkp @zld @zle @zmx @zfo) (qad @ziv @zee @zef @ziu @zkq) (qad @jbz @zks @zn8 @zrq @zww)) (qad (qad @zn4 @zm5 @zsj @jrs @jdu) (qad @jdv @jrr @zd1 @zjn @zgb) (qad @zi3 @zi4 @zsh @zoa @ztw) (qad @jc0 @jq2 @ztx @zty @zkz) (qad @zk0 @zob @zpr @zsi @jfb))) (qad (qad (qad @jq5 @jc2 @jc3 @jc4 @jq4) (qad @zkf @ztg @zth @zkd @jjg) (qad @jqo @jqn @jqp @jb0 @jb1) (qad @jb2 @zi2 @zpq @je9 @yaf) (qad @jcc @jcb @yag @ji8 @ji9)) (qad (qad @jcd @jch @zd3 @zlb @zlc) (qad @jqr @jb3 @jb4 @jb5 @jb6) (qad @jqq @yab @ze0 @zmy @zmz) (qad @zm0 @jqt @jb7 @jb8 @jqs) (qad @yad @zfl @ze1 @zm1 @zm2)) (qad (qad @jqy @jcp @jcr @jqx @yae) (qad @zez @jq0 @jcv @jcw @jcx) (qad @jcy @jqz @yac @ji7 @jcj) (qad @zqh @jci @jce @jcf @zkh) (qad @zmw @zfk @zkg @zpp @jcq)) (qad (qad @zku @zkv @zkw @zkx @zky) (qad @zuz @zu0 @zn5 @zm3 @zm4) (qad @zn6 @zn7 @ztz @zt0 @zwy) (qad @jjj @jdn @jrp @jrq @jdp) (qad @jdr @jdt @zqn @jdo @jdq)) (qad (qad @jdl @jdm @jdf @jdj @jdh) (qad @jro @jde @jdg @jdi @jdk) (qad @jrn @jrm @jds @zo6 @zo7) (qad @zqa @zp9 @zqk @zk1 @zql) (qad @zqb @jqu @jqv @jqw @jfa))) (qac (qad (qad @yai @yaj @zhg @jja @jjb) (qad @jmx @yak @yal @ztk @ztl) (qad @ztm @jcs @jct @jcu @yam) (qad @jq8 @jc5 @jc6 @jc7 @jq7) (qad @jq6 @yan @jjc @jjd @jje)) (qad (qad @jjf @ztn @zto @ztp @zn9) (qad @jcm @jcn @jco @ykp @jc9) (qad @jq9 @jra @zhj @jz8 @zln) (qad @zfm @zfn @zlm @zhf @zkn) (qad @zhh @zhi @zwx @jji @jc1)) (qad (qad @jdd @jri @zhk @zo8 @zo9) (qad @zo2 @zhc @zhd @zhe @zo0) (qad @jca @yah @ygr @jrj @zk2) (qad @zqm @jz7 @jmw @jz9 @jrc) (qad @jc8 @jda @jdb @jrb @yaa)) (qab @jz5 @jz6 @yao))):=(qab (qad (qad (qad @zdc @zdh @zck @zeb @zec) (qad @zi5 @zps @zpt @jrf @jrg) (qad @jrh @zf9 @zpm @zpn @zpo) (qad @ztq @ztr @jb9 @zkm @zx4) (qad @jby @zqd @zqe @zkl @zqf)) (qad (qad @jdc @jrd @jre @zey @zi1) (qad @zk9 @zla @zll @zoz @zo1) (qad @zki @zkj @zga @zkk @zwv) (qad @zqi @zqj @zgf @zgg @jcl) (qad @jck @je7 @je8 @jmv @jxe)) (qad (qad @ykq @ykr @yks @zo3 @jrk) (qad @jrl @ykt @yku @zdb @zlk) (qad @zox @ztv @ztf @zkc @zte) (qad @zoy @zhb @zke @zqc @zhy) (qad @zhz @zti @ztj @zko @zdi)) (qad (qad @zqg @jcg @zlo @zjo @zo4) (qad @zts @ztt @zkr @zkt @zo5) (qad @zkp @zld @zle @zmx @zfo) (qad @ziv @zee @zef @ziu @zkq) (qad @jbz @zks @zn8 @zrq @zww)) (qad (qad @zn4 @zm5 @zsj @jrs @jdu) (qad @jdv @jrr @zd1 @zjn @zgb) (qad @zi3 @zi4 @zsh @zoa @ztw) (qad @jc0 @jq2 @ztx @zty @zkz) (qad @zk0 @zob @zpr @zsi @jfb))) (qad (qad (qad @jq5 @jc2 @jc3 @jc4 @jq4) (qad @zkf @ztg @zth @zkd @jjg) (qad @jqo @jqn @jqp @jb0 @jb1) (qad @jb2 @zi2 @zpq @je9 @yaf) (qad @jcc @jcb @yag @ji8 @ji9)) (qad (qad @jcd @jch @zd3 @zlb @zlc) (qad @jqr @jb3 @jb4 @jb5 @jb6) (qad @jqq @yab @ze0 @zmy @zmz) (qad @zm0 @jqt @jb7 @jb8 @jqs) (qad @yad @zfl @ze1 @zm1 @zm2)) (qad (qad @jqy @jcp @jcr @jqx @yae) (qad @zez @jq0 @jcv @jcw @jcx) (qad @jcy @jqz @yac @ji7 @jcj) (qad @zqh @jci @jce @jcf @zkh) (qad @zmw @zfk @zkg @zpp @jcq)) (qad (qad @zku @zkv @zkw @zkx @zky) (qad @zuz @zu0 @zn5 @zm3 @zm4) (qad @zn6 @zn7 @ztz @zt0 @zwy) (qad @jjj @jdn @jrp @jrq @jdp) (qad @jdr @jdt @zqn @jdo @jdq)) (qad (qad @jdl @jdm @jdf @jdj @jdh) (qad @jro @jde @jdg @jdi @jdk) (qad @jrn @jrm @jds @zo6 @zo7) (qad @zqa @zp9 @zqk @zk1 @zql) (qad @zqb @jqu @jqv @jqw @jfa))) (qac (qad (qad @yai @yaj @zhg @jja @jjb) (qad @jmx @yak @yal @ztk @ztl) (qad @ztm @jcs @jct @jcu @yam) (qad @jq8 @jc5 @jc6 @jc7 @jq7) (qad @jq6 @yan @jjc @jjd @jje)) (qad (qad @jjf @ztn @zto @ztp @zn9) (qad @jcm @jcn @jco @ykp @jc9) (qad @jq9 @jra @zhj @jz8 @zln) (qad @zfm @zfn @zlm @zhf @zkn) (qad @zhh @zhi @zwx @jji @jc1)) (qad (qad @jdd @jri @zhk @zo8 @zo9) (qad @zo2 @zhc @zhd @zhe @zo0) (qad @jca @yah @ygr @jrj @zk2) (qad @zqm @jz7 @jmw @jz9 @jrc) (qad @jc8 @jda @jdb @jrb @yaa)) (qab @jz5 @jz6 @yao)))
end Go.Proofs.YtapjobndmmkanaaGreat
