/- Facts of types, and of the settings. -/
import Derived.Test.YtapjobndmmkanaaGreatAR
import Derived.Test.YtapjobndmmkanaaGreatProg
import Derived.DeepKeys4
set_option linter.unusedVariables false
set_option linter.unusedSimpArgs false
namespace Go.Proofs.YtapjobndmmkanaaGreat
open Go.Proofs.Tryz
open Go Go.RowKit
theorem mixed:prog.follows .mixedOrders=true:=by kernel_rfl
theorem Nz:dA prog 3=(some 1):=by kernel_rfl
theorem Ny:eI prog 3=(some false):=by kernel_rfl
theorem XD:jO prog 3=(some [(.val (.int .i64 0))]):=by kernel_rfl
theorem jcs:tP prog 3=(some .i64):=by kernel_rfl
theorem jct:dA prog 4=(some 1):=by kernel_rfl
theorem jcu:eI prog 4=(some false):=by kernel_rfl
theorem XC:DI prog 4=true:=by kernel_rfl
theorem Xu:dA prog 5=(some 1):=by kernel_rfl
theorem Xt:eI prog 5=(some false):=by kernel_rfl
theorem XB:tP prog 5=(some .u8):=by kernel_rfl
theorem jf2:dA prog 22=(some 1):=by kernel_rfl
theorem jf3:eI prog 22=(some false):=by kernel_rfl
theorem jn8:fl prog 22=(some (none,(5,1))):=by kernel_rfl
theorem Y8:dA prog 24=(some 1):=by kernel_rfl
theorem Y7:eI prog 24=(some true):=by kernel_rfl
theorem jj6:dL prog 24 0=(some 0):=by kernel_rfl
theorem JM:dA prog 26=(some 1):=by kernel_rfl
theorem Vx:eI prog 26=(some false):=by kernel_rfl
theorem Vb:fl prog 26=(some (none,(121,3))):=by kernel_rfl
theorem R9:nG prog 26=(some (3,([(.val (.int .i64 0)),(.val (.int .i64 0)),(.val (.int .i64 0))],24))):=by kernel_rfl
theorem UA:dA prog 27=(some 1):=by kernel_rfl
theorem Uz:eI prog 27=(some false):=by kernel_rfl
theorem Uy:fl prog 27=(some (none,(123,5))):=by kernel_rfl
theorem jn9:nG prog 27=(some (5,([(.val (.int .i64 0)),(.val (.int .i64 0)),(.val (.int .i64 0)),(.val (.int .i64 0)),(.val (.int .i64 0))],40))):=by kernel_rfl
theorem DT:dA prog 28=(some 1):=by kernel_rfl
theorem V9:eI prog 28=(some false):=by kernel_rfl
theorem Wc:fl prog 28=(some (none,(3,1))):=by kernel_rfl
theorem V3:nG prog 28=(some (1,([(.val (.int .i64 0))],8))):=by kernel_rfl
theorem xe:dA prog 30=(some 4):=by kernel_rfl
theorem M3:eI prog 30=(some true):=by kernel_rfl
theorem joa:eK prog 30=(some [(.val (.slice none 0 0)),(.val (.slice none 0 0)),(.val (.slice none 0 0)),(.val (.slice none 0 0))]):=by kernel_rfl
theorem jf4:jO prog 30=(some [(.val (.slice none 0 0)),(.val (.slice none 0 0)),(.val (.slice none 0 0)),(.val (.slice none 0 0))]):=by kernel_rfl
theorem job:kD prog 30=true:=by kernel_rfl
theorem V2:dL prog 30 0=(some 0):=by kernel_rfl
theorem jj7:dH prog 30 0=(some (0,1)):=by kernel_rfl
theorem VP:dL prog 30 1=(some 1):=by kernel_rfl
theorem jj8:dH prog 30 1=(some (1,1)):=by kernel_rfl
theorem Vy:dL prog 30 2=(some 2):=by kernel_rfl
theorem jj9:dH prog 30 2=(some (2,1)):=by kernel_rfl
theorem Vg:dL prog 30 3=(some 3):=by kernel_rfl
theorem jka:dH prog 30 3=(some (3,1)):=by kernel_rfl
theorem VO:dA prog 32=(some 1):=by kernel_rfl
theorem VN:eI prog 32=(some false):=by kernel_rfl
theorem Vw:fl prog 32=(some (none,(117,13))):=by kernel_rfl
theorem jf5:nG prog 32=(some (13,([(.val (.string ⟨#[]⟩)),(.val (.int .i64 0)),(.val (.int .i64 0)),(.val (.int .i64 0)),(.val (.string ⟨#[]⟩)),(.val (.int .i64 0)),(.val (.string ⟨#[]⟩)),(.val (.int .i64 0)),(.val (.string ⟨#[]⟩)),(.val (.slice none 0 0)),(.val (.int .i64 0)),(.val (.string ⟨#[]⟩)),(.val (.int .i64 0))],160))):=by kernel_rfl
theorem Vv:dA prog 33=(some 1):=by kernel_rfl
theorem Vu:eI prog 33=(some false):=by kernel_rfl
theorem Vp:fl prog 33=(some (none,(138,27))):=by kernel_rfl
theorem Y6:nG prog 33=(some (27,([(.val (.string ⟨#[]⟩)),(.val (.int .i64 0)),(.val (.int .i64 0)),(.val (.int .i64 0)),(.val (.string ⟨#[]⟩)),(.val (.int .i64 0)),(.val (.string ⟨#[]⟩)),(.val (.int .i64 0)),(.val (.string ⟨#[]⟩)),(.val (.slice none 0 0)),(.val (.int .i64 0)),(.val (.string ⟨#[]⟩)),(.val (.int .i64 0)),(.val (.string ⟨#[]⟩)),(.val (.int .i64 0)),(.val (.string ⟨#[]⟩)),(.val (.slice none 0 0)),(.val (.int .i64 0)),(.val (.string ⟨#[]⟩)),(.val (.int .i64 0)),(.val (.string ⟨#[]⟩)),(.val (.int .i64 0)),(.val (.string ⟨#[]⟩)),(.val (.slice none 0 0)),(.val (.int .i64 0)),(.val (.string ⟨#[]⟩)),(.val (.int .i64 0))],352))):=by kernel_rfl
theorem VE:dA prog 34=(some 1):=by kernel_rfl
theorem Vt:eI prog 34=(some false):=by kernel_rfl
theorem Vs:fl prog 34=(some (none,(119,9))):=by kernel_rfl
theorem joc:nG prog 34=(some (9,([(.val (.int .i64 0)),(.val (.int .i64 0)),(.val (.int .i64 0)),(.val (.string ⟨#[]⟩)),(.val (.int .i64 0)),(.val (.string ⟨#[]⟩)),(.val (.int .i64 0)),(.val (.string ⟨#[]⟩)),(.val (.slice none 0 0))],112))):=by kernel_rfl
theorem Vr:dA prog 35=(some 1):=by kernel_rfl
theorem Vq:eI prog 35=(some false):=by kernel_rfl
theorem Vo:fl prog 35=(some (none,(136,16))):=by kernel_rfl
theorem Y5:nG prog 35=(some (16,([(.val (.int .i64 0)),(.val (.int .i64 0)),(.val (.int .i64 0)),(.val (.string ⟨#[]⟩)),(.val (.int .i64 0)),(.val (.string ⟨#[]⟩)),(.val (.int .i64 0)),(.val (.string ⟨#[]⟩)),(.val (.slice none 0 0)),(.val (.int .i64 0)),(.val (.string ⟨#[]⟩)),(.val (.int .i64 0)),(.val (.string ⟨#[]⟩)),(.val (.int .i64 0)),(.val (.string ⟨#[]⟩)),(.val (.slice none 0 0))],208))):=by kernel_rfl
theorem zg:dA prog 37=(some 6):=by kernel_rfl
theorem F1:eI prog 37=(some true):=by kernel_rfl
theorem jf6:eK prog 37=(some [(.val (.string ⟨#[]⟩)),(.val (.string ⟨#[]⟩)),(.val (.slice none 0 0)),(.val (.slice none 0 0)),(.val (.slice none 0 0)),(.val (.slice none 0 0))]):=by kernel_rfl
theorem TC:jO prog 37=(some [(.val (.string ⟨#[]⟩)),(.val (.string ⟨#[]⟩)),(.val (.slice none 0 0)),(.val (.slice none 0 0)),(.val (.slice none 0 0)),(.val (.slice none 0 0))]):=by kernel_rfl
theorem jf7:kD prog 37=true:=by kernel_rfl
theorem Ut:dH prog 37 0=(some (0,1)):=by kernel_rfl
theorem Us:dH prog 37 1=(some (1,1)):=by kernel_rfl
theorem Wb:dL prog 37 2=(some 2):=by kernel_rfl
theorem jkb:dH prog 37 2=(some (2,1)):=by kernel_rfl
theorem V7:dL prog 37 3=(some 3):=by kernel_rfl
theorem We:dL prog 37 4=(some 4):=by kernel_rfl
theorem Wa:dL prog 37 5=(some 5):=by kernel_rfl
theorem jod:dA prog 40=(some 1):=by kernel_rfl
theorem joe:eI prog 40=(some false):=by kernel_rfl
theorem Mj:dA prog 42=(some 5):=by kernel_rfl
theorem yjv:eI prog 42=(some true):=by kernel_rfl
theorem Y4:eK prog 42=(some [(.val (.slice none 0 0)),(.val (.slice none 0 0)),(.val (.slice none 0 0)),(.val (.slice none 0 0)),(.val (.int .i64 0))]):=by kernel_rfl
theorem jf8:jO prog 42=(some [(.val (.slice none 0 0)),(.val (.slice none 0 0)),(.val (.slice none 0 0)),(.val (.slice none 0 0)),(.val (.int .i64 0))]):=by kernel_rfl
theorem Y3:kD prog 42=true:=by kernel_rfl
theorem S0:dL prog 42 0=(some 0):=by kernel_rfl
theorem jkc:dH prog 42 0=(some (0,4)):=by kernel_rfl
theorem SW:dL prog 42 1=(some 4):=by kernel_rfl
theorem jkd:Md prog 42 1=(some (4,(1,false))):=by kernel_rfl
theorem jke:dH prog 42 1=(some (4,1)):=by kernel_rfl
theorem Y2:fl prog 48=(some ((some 2),(22,1))):=by kernel_rfl
theorem Vn:dA prog 49=(some 1):=by kernel_rfl
theorem Vm:eI prog 49=(some false):=by kernel_rfl
theorem Va:fl prog 49=(some (none,(28,1))):=by kernel_rfl
theorem TB:nG prog 49=(some (1,([(.val (.slice none 0 0))],24))):=by kernel_rfl
theorem Y1:jO prog 49=(some [(.val (.slice none 0 0))]):=by kernel_rfl
theorem Jy:dA prog 51=(some 2):=by kernel_rfl
theorem Jx:eI prog 51=(some true):=by kernel_rfl
theorem jof:eK prog 51=(some [(.val (.slice none 0 0)),(.val (.slice none 0 0))]):=by kernel_rfl
theorem jf9:jO prog 51=(some [(.val (.slice none 0 0)),(.val (.slice none 0 0))]):=by kernel_rfl
theorem jog:kD prog 51=true:=by kernel_rfl
theorem VL:dL prog 51 0=(some 0):=by kernel_rfl
theorem jkf:dH prog 51 0=(some (0,1)):=by kernel_rfl
theorem VK:dL prog 51 1=(some 1):=by kernel_rfl
theorem Up:dA prog 53=(some 1):=by kernel_rfl
theorem TA:eI prog 53=(some false):=by kernel_rfl
theorem R8:fl prog 53=(some (none,(171,2))):=by kernel_rfl
theorem jga:nG prog 53=(some (2,([(.val (.bool false)),(.val (.int .i64 0))],16))):=by kernel_rfl
theorem Uo:dA prog 54=(some 1):=by kernel_rfl
theorem Tz:eI prog 54=(some false):=by kernel_rfl
theorem Ty:fl prog 54=(some (none,(4,1))):=by kernel_rfl
theorem Tx:nG prog 54=(some (1,([(.val (.bool false))],1))):=by kernel_rfl
theorem PR:dA prog 56=(some 2):=by kernel_rfl
theorem PQ:eI prog 56=(some true):=by kernel_rfl
theorem Y0:eK prog 56=(some [(.val (.slice none 0 0)),(.val (.slice none 0 0))]):=by kernel_rfl
theorem joh:jO prog 56=(some [(.val (.slice none 0 0)),(.val (.slice none 0 0))]):=by kernel_rfl
theorem YZ:kD prog 56=true:=by kernel_rfl
theorem Ur:dL prog 56 0=(some 0):=by kernel_rfl
theorem Uq:dL prog 56 1=(some 1):=by kernel_rfl
theorem DA:dA prog 63=(some 5):=by kernel_rfl
theorem I2:eI prog 63=(some true):=by kernel_rfl
theorem joi:eK prog 63=(some [(.val (.bool false)),(.val (.slice none 0 0)),(.val (.slice none 0 0)),(.val (.slice none 0 0)),(.val (.slice none 0 0))]):=by kernel_rfl
theorem jgb:jO prog 63=(some [(.val (.bool false)),(.val (.slice none 0 0)),(.val (.slice none 0 0)),(.val (.slice none 0 0)),(.val (.slice none 0 0))]):=by kernel_rfl
theorem joj:kD prog 63=true:=by kernel_rfl
theorem Ux:dL prog 63 0=(some 0):=by kernel_rfl
theorem jki:dH prog 63 0=(some (0,1)):=by kernel_rfl
theorem Uw:dL prog 63 1=(some 1):=by kernel_rfl
theorem SV:dH prog 63 1=(some (1,2)):=by kernel_rfl
theorem Uv:dL prog 63 2=(some 3):=by kernel_rfl
theorem SU:dH prog 63 2=(some (3,1)):=by kernel_rfl
theorem Uu:dL prog 63 3=(some 4):=by kernel_rfl
theorem SS:dH prog 63 3=(some (4,1)):=by kernel_rfl
theorem Pc:dA prog 66=(some 2):=by kernel_rfl
theorem Pb:eI prog 66=(some true):=by kernel_rfl
theorem YY:eK prog 66=(some [(.val (.slice none 0 0)),(.val (.slice none 0 0))]):=by kernel_rfl
theorem YX:jO prog 66=(some [(.val (.slice none 0 0)),(.val (.slice none 0 0))]):=by kernel_rfl
theorem YW:kD prog 66=true:=by kernel_rfl
theorem jkj:dL prog 66 0=(some 0):=by kernel_rfl
theorem jkk:dH prog 66 0=(some (0,1)):=by kernel_rfl
theorem SR:dL prog 66 1=(some 1):=by kernel_rfl
theorem YV:dA prog 81=(some 3):=by kernel_rfl
theorem UJ:eK prog 110=(some [(.val (.int .i64 0)),(.val (.string ⟨#[]⟩))]):=by kernel_rfl
theorem UI:kD prog 110=true:=by kernel_rfl
theorem T7:dL prog 110 0=(some 0):=by kernel_rfl
theorem VU:dH prog 110 0=(some (0,1)):=by kernel_rfl
theorem S7:dA prog 111=(some 1):=by kernel_rfl
theorem S6:eI prog 111=(some false):=by kernel_rfl
theorem S5:fl prog 111=(some (none,(113,7))):=by kernel_rfl
theorem UH:nG prog 111=(some (7,([(.val (.int .i64 0)),(.val (.string ⟨#[]⟩)),(.val (.int .i64 0)),(.val (.string ⟨#[]⟩)),(.val (.int .i64 0)),(.val (.string ⟨#[]⟩)),(.val (.slice none 0 0))],96))):=by kernel_rfl
theorem JQ:dA prog 113=(some 7):=by kernel_rfl
theorem JR:eI prog 113=(some true):=by kernel_rfl
theorem Vl:eK prog 113=(some [(.val (.int .i64 0)),(.val (.string ⟨#[]⟩)),(.val (.int .i64 0)),(.val (.string ⟨#[]⟩)),(.val (.int .i64 0)),(.val (.string ⟨#[]⟩)),(.val (.slice none 0 0))]):=by kernel_rfl
theorem VD:jO prog 113=(some [(.val (.int .i64 0)),(.val (.string ⟨#[]⟩)),(.val (.int .i64 0)),(.val (.string ⟨#[]⟩)),(.val (.int .i64 0)),(.val (.string ⟨#[]⟩)),(.val (.slice none 0 0))]):=by kernel_rfl
theorem Vk:kD prog 113=true:=by kernel_rfl
theorem U9:dL prog 113 0=(some 0):=by kernel_rfl
theorem V1:dH prog 113 0=(some (0,1)):=by kernel_rfl
theorem T6:dL prog 113 2=(some 2):=by kernel_rfl
theorem VT:dH prog 113 2=(some (2,2)):=by kernel_rfl
theorem T5:dL prog 113 3=(some 4):=by kernel_rfl
theorem U8:dH prog 113 3=(some (4,2)):=by kernel_rfl
theorem U7:dL prog 113 4=(some 6):=by kernel_rfl
theorem U6:dH prog 113 4=(some (6,1)):=by kernel_rfl
theorem PO:dA prog 115=(some 3):=by kernel_rfl
theorem ybq:eI prog 115=(some true):=by kernel_rfl
theorem jr7:eK prog 115=(some [(.val (.int .i64 0)),(.val (.string ⟨#[]⟩)),(.val (.int .i64 0))]):=by kernel_rfl
theorem jr8:jO prog 115=(some [(.val (.int .i64 0)),(.val (.string ⟨#[]⟩)),(.val (.int .i64 0))]):=by kernel_rfl
theorem jr9:kD prog 115=true:=by kernel_rfl
theorem jcv:dH prog 115 0=(some (0,1)):=by kernel_rfl
theorem jcw:dH prog 115 1=(some (1,1)):=by kernel_rfl
theorem jcx:dH prog 115 2=(some (2,1)):=by kernel_rfl
theorem S4:dA prog 117=(some 13):=by kernel_rfl
theorem S3:eI prog 117=(some true):=by kernel_rfl
theorem S2:eK prog 117=(some [(.val (.string ⟨#[]⟩)),(.val (.int .i64 0)),(.val (.int .i64 0)),(.val (.int .i64 0)),(.val (.string ⟨#[]⟩)),(.val (.int .i64 0)),(.val (.string ⟨#[]⟩)),(.val (.int .i64 0)),(.val (.string ⟨#[]⟩)),(.val (.slice none 0 0)),(.val (.int .i64 0)),(.val (.string ⟨#[]⟩)),(.val (.int .i64 0))]):=by kernel_rfl
theorem S1:jO prog 117=(some [(.val (.string ⟨#[]⟩)),(.val (.int .i64 0)),(.val (.int .i64 0)),(.val (.int .i64 0)),(.val (.string ⟨#[]⟩)),(.val (.int .i64 0)),(.val (.string ⟨#[]⟩)),(.val (.int .i64 0)),(.val (.string ⟨#[]⟩)),(.val (.slice none 0 0)),(.val (.int .i64 0)),(.val (.string ⟨#[]⟩)),(.val (.int .i64 0))]):=by kernel_rfl
theorem Tw:kD prog 117=true:=by kernel_rfl
theorem U5:dH prog 117 0=(some (0,1)):=by kernel_rfl
theorem V6:dL prog 117 1=(some 1):=by kernel_rfl
theorem U4:dH prog 117 1=(some (1,1)):=by kernel_rfl
theorem jcy:dH prog 117 2=(some (2,1)):=by kernel_rfl
theorem U3:dL prog 117 3=(some 3):=by kernel_rfl
theorem T4:dH prog 117 3=(some (3,7)):=by kernel_rfl
theorem jcz:dH prog 117 4=(some (10,3)):=by kernel_rfl
theorem Tv:dA prog 119=(some 9):=by kernel_rfl
theorem Tu:eI prog 119=(some true):=by kernel_rfl
theorem jc0:eK prog 119=(some [(.val (.int .i64 0)),(.val (.int .i64 0)),(.val (.int .i64 0)),(.val (.string ⟨#[]⟩)),(.val (.int .i64 0)),(.val (.string ⟨#[]⟩)),(.val (.int .i64 0)),(.val (.string ⟨#[]⟩)),(.val (.slice none 0 0))]):=by kernel_rfl
theorem Tt:jO prog 119=(some [(.val (.int .i64 0)),(.val (.int .i64 0)),(.val (.int .i64 0)),(.val (.string ⟨#[]⟩)),(.val (.int .i64 0)),(.val (.string ⟨#[]⟩)),(.val (.int .i64 0)),(.val (.string ⟨#[]⟩)),(.val (.slice none 0 0))]):=by kernel_rfl
theorem jc1:kD prog 119=true:=by kernel_rfl
theorem jc2:dH prog 119 0=(some (0,1)):=by kernel_rfl
theorem V5:dL prog 119 1=(some 1):=by kernel_rfl
theorem T3:dH prog 119 1=(some (1,1)):=by kernel_rfl
theorem U2:dL prog 119 2=(some 2):=by kernel_rfl
theorem jc3:dH prog 119 2=(some (2,7)):=by kernel_rfl
theorem JL:dA prog 121=(some 3):=by kernel_rfl
theorem UG:eI prog 121=(some true):=by kernel_rfl
theorem VC:eK prog 121=(some [(.val (.int .i64 0)),(.val (.int .i64 0)),(.val (.int .i64 0))]):=by kernel_rfl
theorem UF:jO prog 121=(some [(.val (.int .i64 0)),(.val (.int .i64 0)),(.val (.int .i64 0))]):=by kernel_rfl
theorem VA:kD prog 121=true:=by kernel_rfl
theorem jsa:CE prog 121=(some [(0,false),(1,false),(2,false)]):=by kernel_rfl
theorem U1:dL prog 121 0=(some 0):=by kernel_rfl
theorem V4:dH prog 121 0=(some (0,1)):=by kernel_rfl
theorem U0:dL prog 121 1=(some 1):=by kernel_rfl
theorem VZ:dH prog 121 1=(some (1,1)):=by kernel_rfl
theorem UZ:dL prog 121 2=(some 2):=by kernel_rfl
theorem VY:dH prog 121 2=(some (2,1)):=by kernel_rfl
theorem Ui:dA prog 123=(some 5):=by kernel_rfl
theorem Uh:eI prog 123=(some true):=by kernel_rfl
theorem Vj:eK prog 123=(some [(.val (.int .i64 0)),(.val (.int .i64 0)),(.val (.int .i64 0)),(.val (.int .i64 0)),(.val (.int .i64 0))]):=by kernel_rfl
theorem jc4:jO prog 123=(some [(.val (.int .i64 0)),(.val (.int .i64 0)),(.val (.int .i64 0)),(.val (.int .i64 0)),(.val (.int .i64 0))]):=by kernel_rfl
theorem Vi:kD prog 123=true:=by kernel_rfl
theorem jsb:CE prog 123=(some [(0,false),(1,false),(2,false),(3,false),(4,false)]):=by kernel_rfl
theorem UY:dL prog 123 0=(some 0):=by kernel_rfl
theorem VX:dH prog 123 0=(some (0,1)):=by kernel_rfl
theorem UX:dL prog 123 1=(some 1):=by kernel_rfl
theorem VW:dH prog 123 1=(some (1,1)):=by kernel_rfl
theorem T2:dL prog 123 2=(some 2):=by kernel_rfl
theorem VS:dH prog 123 2=(some (2,1)):=by kernel_rfl
theorem T1:dL prog 123 3=(some 3):=by kernel_rfl
theorem Vz:dH prog 123 3=(some (3,1)):=by kernel_rfl
theorem T0:dL prog 123 4=(some 4):=by kernel_rfl
theorem jc5:dH prog 123 4=(some (4,1)):=by kernel_rfl
theorem Ns:dA prog 125=(some 4):=by kernel_rfl
theorem Nr:eI prog 125=(some true):=by kernel_rfl
theorem jc6:eK prog 125=(some [(.val (.slice none 0 0)),(.val (.slice none 0 0)),(.val (.slice none 0 0)),(.val (.bool false))]):=by kernel_rfl
theorem jc7:jO prog 125=(some [(.val (.slice none 0 0)),(.val (.slice none 0 0)),(.val (.slice none 0 0)),(.val (.bool false))]):=by kernel_rfl
theorem jc8:kD prog 125=true:=by kernel_rfl
theorem UW:dL prog 125 0=(some 0):=by kernel_rfl
theorem jc9:dH prog 125 0=(some (0,1)):=by kernel_rfl
theorem TZ:dL prog 125 1=(some 1):=by kernel_rfl
theorem UU:dL prog 125 2=(some 2):=by kernel_rfl
theorem jda:dH prog 125 2=(some (2,1)):=by kernel_rfl
theorem jdb:dL prog 125 3=(some 3):=by kernel_rfl
theorem jdc:dH prog 125 3=(some (3,1)):=by kernel_rfl
theorem JO:dA prog 127=(some 2):=by kernel_rfl
theorem JN:eI prog 127=(some true):=by kernel_rfl
theorem jdd:eK prog 127=(some [(.val (.slice none 0 0)),(.val (.int .i64 0))]):=by kernel_rfl
theorem Ug:jO prog 127=(some [(.val (.slice none 0 0)),(.val (.int .i64 0))]):=by kernel_rfl
theorem jde:kD prog 127=true:=by kernel_rfl
theorem jdf:dL prog 127 0=(some 0):=by kernel_rfl
theorem TY:dH prog 127 0=(some (0,1)):=by kernel_rfl
theorem jdg:dL prog 127 1=(some 1):=by kernel_rfl
theorem FW:dA prog 131=(some 9):=by kernel_rfl
theorem PN:eI prog 131=(some true):=by kernel_rfl
theorem Ts:eK prog 131=(some [(.val (.int .i64 0)),(.val (.string ⟨#[]⟩)),(.val (.int .i64 0)),(.val (.string ⟨#[]⟩)),(.val (.int .i64 0)),(.val (.string ⟨#[]⟩)),(.val (.slice none 0 0)),(.val (.slice none 0 0)),(.val (.int .i64 0))]):=by kernel_rfl
theorem Uf:jO prog 131=(some [(.val (.int .i64 0)),(.val (.string ⟨#[]⟩)),(.val (.int .i64 0)),(.val (.string ⟨#[]⟩)),(.val (.int .i64 0)),(.val (.string ⟨#[]⟩)),(.val (.slice none 0 0)),(.val (.slice none 0 0)),(.val (.int .i64 0))]):=by kernel_rfl
theorem Tr:kD prog 131=true:=by kernel_rfl
theorem UT:dL prog 131 0=(some 0):=by kernel_rfl
theorem US:dH prog 131 0=(some (0,7)):=by kernel_rfl
theorem UR:dL prog 131 1=(some 7):=by kernel_rfl
theorem UQ:dH prog 131 1=(some (7,2)):=by kernel_rfl
theorem jsc:dA prog 134=(some 2):=by kernel_rfl
theorem jsd:eI prog 134=(some true):=by kernel_rfl
theorem Ue:fl prog 134=(some ((some 2),(3,1))):=by kernel_rfl
theorem UE:eK prog 134=(some [(.val (.int .i64 0)),(.val (.int .i64 0))]):=by kernel_rfl
theorem jse:jO prog 134=(some [(.val (.int .i64 0)),(.val (.int .i64 0))]):=by kernel_rfl
theorem UD:kD prog 134=true:=by kernel_rfl
theorem VR:dH prog 134 0=(some (0,1)):=by kernel_rfl
theorem VQ:dH prog 134 1=(some (1,1)):=by kernel_rfl
theorem jdh:dA prog 136=(some 16):=by kernel_rfl
theorem jdi:eI prog 136=(some true):=by kernel_rfl
theorem jsf:eK prog 136=(some [(.val (.int .i64 0)),(.val (.int .i64 0)),(.val (.int .i64 0)),(.val (.string ⟨#[]⟩)),(.val (.int .i64 0)),(.val (.string ⟨#[]⟩)),(.val (.int .i64 0)),(.val (.string ⟨#[]⟩)),(.val (.slice none 0 0)),(.val (.int .i64 0)),(.val (.string ⟨#[]⟩)),(.val (.int .i64 0)),(.val (.string ⟨#[]⟩)),(.val (.int .i64 0)),(.val (.string ⟨#[]⟩)),(.val (.slice none 0 0))]):=by kernel_rfl
theorem jdj:jO prog 136=(some [(.val (.int .i64 0)),(.val (.int .i64 0)),(.val (.int .i64 0)),(.val (.string ⟨#[]⟩)),(.val (.int .i64 0)),(.val (.string ⟨#[]⟩)),(.val (.int .i64 0)),(.val (.string ⟨#[]⟩)),(.val (.slice none 0 0)),(.val (.int .i64 0)),(.val (.string ⟨#[]⟩)),(.val (.int .i64 0)),(.val (.string ⟨#[]⟩)),(.val (.int .i64 0)),(.val (.string ⟨#[]⟩)),(.val (.slice none 0 0))]):=by kernel_rfl
theorem jsg:kD prog 136=true:=by kernel_rfl
theorem jdk:dH prog 136 0=(some (0,1)):=by kernel_rfl
theorem TX:dL prog 136 1=(some 1):=by kernel_rfl
theorem jdl:dH prog 136 1=(some (1,1)):=by kernel_rfl
theorem UP:dL prog 136 2=(some 2):=by kernel_rfl
theorem UO:dL prog 136 3=(some 9):=by kernel_rfl
theorem jdm:dA prog 138=(some 27):=by kernel_rfl
theorem jdn:eI prog 138=(some true):=by kernel_rfl
theorem jsh:eK prog 138=(some [(.val (.string ⟨#[]⟩)),(.val (.int .i64 0)),(.val (.int .i64 0)),(.val (.int .i64 0)),(.val (.string ⟨#[]⟩)),(.val (.int .i64 0)),(.val (.string ⟨#[]⟩)),(.val (.int .i64 0)),(.val (.string ⟨#[]⟩)),(.val (.slice none 0 0)),(.val (.int .i64 0)),(.val (.string ⟨#[]⟩)),(.val (.int .i64 0)),(.val (.string ⟨#[]⟩)),(.val (.int .i64 0)),(.val (.string ⟨#[]⟩)),(.val (.slice none 0 0)),(.val (.int .i64 0)),(.val (.string ⟨#[]⟩)),(.val (.int .i64 0)),(.val (.string ⟨#[]⟩)),(.val (.int .i64 0)),(.val (.string ⟨#[]⟩)),(.val (.slice none 0 0)),(.val (.int .i64 0)),(.val (.string ⟨#[]⟩)),(.val (.int .i64 0))]):=by kernel_rfl
theorem jdo:jO prog 138=(some [(.val (.string ⟨#[]⟩)),(.val (.int .i64 0)),(.val (.int .i64 0)),(.val (.int .i64 0)),(.val (.string ⟨#[]⟩)),(.val (.int .i64 0)),(.val (.string ⟨#[]⟩)),(.val (.int .i64 0)),(.val (.string ⟨#[]⟩)),(.val (.slice none 0 0)),(.val (.int .i64 0)),(.val (.string ⟨#[]⟩)),(.val (.int .i64 0)),(.val (.string ⟨#[]⟩)),(.val (.int .i64 0)),(.val (.string ⟨#[]⟩)),(.val (.slice none 0 0)),(.val (.int .i64 0)),(.val (.string ⟨#[]⟩)),(.val (.int .i64 0)),(.val (.string ⟨#[]⟩)),(.val (.int .i64 0)),(.val (.string ⟨#[]⟩)),(.val (.slice none 0 0)),(.val (.int .i64 0)),(.val (.string ⟨#[]⟩)),(.val (.int .i64 0))]):=by kernel_rfl
theorem jsi:kD prog 138=true:=by kernel_rfl
theorem jdp:dH prog 138 0=(some (0,1)):=by kernel_rfl
theorem VV:dL prog 138 1=(some 1):=by kernel_rfl
theorem jdq:dH prog 138 1=(some (1,1)):=by kernel_rfl
theorem VJ:dL prog 138 2=(some 2):=by kernel_rfl
theorem jdr:dH prog 138 2=(some (2,1)):=by kernel_rfl
theorem UN:dL prog 138 3=(some 3):=by kernel_rfl
theorem UM:dL prog 138 4=(some 10):=by kernel_rfl
theorem UL:dL prog 138 5=(some 17):=by kernel_rfl
theorem jds:dH prog 138 6=(some (24,3)):=by kernel_rfl
theorem Dz:dA prog 140=(some 2):=by kernel_rfl
theorem LN:dA prog 145=(some 8):=by kernel_rfl
theorem jsj:dA prog 147=(some 4):=by kernel_rfl
theorem Vh:tP prog 168=(some .u64):=by kernel_rfl
theorem jdu:dA prog 171=(some 2):=by kernel_rfl
theorem jsk:eI prog 171=(some true):=by kernel_rfl
theorem jdv:eK prog 171=(some [(.val (.bool false)),(.val (.int .i64 0))]):=by kernel_rfl
theorem jdw:kD prog 171=true:=by kernel_rfl
theorem jsl:CE prog 171=(some [(0,true),(1,false)]):=by kernel_rfl
theorem Vf:dL prog 171 0=(some 0):=by kernel_rfl
theorem TW:dH prog 171 0=(some (0,1)):=by kernel_rfl
theorem Ve:dL prog 171 1=(some 1):=by kernel_rfl
theorem TV:dH prog 171 1=(some (1,1)):=by kernel_rfl
theorem MA:dA prog 173=(some 3):=by kernel_rfl
theorem PM:eI prog 173=(some true):=by kernel_rfl
theorem UC:fl prog 173=(some ((some 3),(3,1))):=by kernel_rfl
theorem jdx:eK prog 173=(some [(.val (.int .i64 0)),(.val (.int .i64 0)),(.val (.int .i64 0))]):=by kernel_rfl
theorem jdy:jO prog 173=(some [(.val (.int .i64 0)),(.val (.int .i64 0)),(.val (.int .i64 0))]):=by kernel_rfl
theorem jdz:kD prog 173=true:=by kernel_rfl
theorem TU:dH prog 173 0=(some (0,1)):=by kernel_rfl
theorem TT:dH prog 173 1=(some (1,1)):=by kernel_rfl
theorem TS:dH prog 173 2=(some (2,1)):=by kernel_rfl
theorem Ud:dA prog 177=(some 9):=by kernel_rfl
theorem Uc:eI prog 177=(some true):=by kernel_rfl
theorem jsm:eK prog 177=(some [(.val (.string ⟨#[]⟩)),(.val (.string ⟨#[]⟩)),(.val (.slice none 0 0)),(.val (.slice none 0 0)),(.val (.slice none 0 0)),(.val (.slice none 0 0)),(.val (.slice none 0 0)),(.val (.slice none 0 0)),(.val (.slice none 0 0))]):=by kernel_rfl
theorem jsn:jO prog 177=(some [(.val (.string ⟨#[]⟩)),(.val (.string ⟨#[]⟩)),(.val (.slice none 0 0)),(.val (.slice none 0 0)),(.val (.slice none 0 0)),(.val (.slice none 0 0)),(.val (.slice none 0 0)),(.val (.slice none 0 0)),(.val (.slice none 0 0))]):=by kernel_rfl
theorem jso:kD prog 177=true:=by kernel_rfl
theorem Vd:dL prog 177 0=(some 0):=by kernel_rfl
theorem jd0:dH prog 177 0=(some (0,6)):=by kernel_rfl
theorem TR:dL prog 177 1=(some 6):=by kernel_rfl
theorem jd1:dH prog 177 1=(some (6,2)):=by kernel_rfl
theorem TQ:dL prog 177 2=(some 8):=by kernel_rfl
theorem jd2:dH prog 177 2=(some (8,1)):=by kernel_rfl
theorem VI:dA prog 187=(some 1):=by kernel_rfl
theorem VH:eI prog 187=(some false):=by kernel_rfl
theorem jsp:dA prog 188=(some 1):=by kernel_rfl
theorem jsq:eI prog 188=(some false):=by kernel_rfl
theorem Ub:dA prog 189=(some 1):=by kernel_rfl
theorem Ua:eI prog 189=(some false):=by kernel_rfl
theorem jsr:eK prog 191=(some [(.val (.slice none 0 0)),(.val (.slice none 0 0)),(.val (.slice none 0 0)),(.val (.slice none 0 0)),(.val (.string ⟨#[]⟩)),(.val (.string ⟨#[]⟩)),(.val (.slice none 0 0)),(.val (.slice none 0 0)),(.val (.slice none 0 0)),(.val (.slice none 0 0)),(.val (.map none)),(.val (.map none)),(.val (.slice none 0 0))]):=by kernel_rfl
theorem jss:kD prog 191=true:=by kernel_rfl
theorem VG:dL prog 191 0=(some 0):=by kernel_rfl
theorem Vc:dL prog 191 1=(some 4):=by kernel_rfl
theorem jd3:dH prog 191 1=(some (4,6)):=by kernel_rfl
theorem jd4:dL prog 191 2=(some 10):=by kernel_rfl
theorem jd5:dH prog 191 2=(some (10,1)):=by kernel_rfl
theorem VF:dL prog 191 3=(some 11):=by kernel_rfl
theorem jd6:dH prog 191 3=(some (11,1)):=by kernel_rfl
theorem T9:dL prog 191 4=(some 12):=by kernel_rfl
theorem jd7:dA prog 248=(some 1):=by kernel_rfl
theorem jst:eI prog 248=(some false):=by kernel_rfl
theorem jsu:jO prog 248=(some [(.val .nilFunc)]):=by kernel_rfl
theorem Tq:dA prog 281=(some 4):=by kernel_rfl
theorem Tp:eI prog 281=(some true):=by kernel_rfl
theorem jsv:eK prog 281=(some [(.val (.slice none 0 0)),(.val (.slice none 0 0)),(.val (.int .i64 0)),(.val (.int .i64 0))]):=by kernel_rfl
theorem jsw:jO prog 281=(some [(.val (.slice none 0 0)),(.val (.slice none 0 0)),(.val (.int .i64 0)),(.val (.int .i64 0))]):=by kernel_rfl
theorem jsx:kD prog 281=true:=by kernel_rfl
theorem T8:dL prog 281 0=(some 0):=by kernel_rfl
theorem jd8:dH prog 281 0=(some (0,1)):=by kernel_rfl
theorem jd9:dL prog 281 1=(some 1):=by kernel_rfl
theorem jea:dH prog 281 1=(some (1,1)):=by kernel_rfl
theorem jeb:dL prog 281 2=(some 2):=by kernel_rfl
theorem jec:dH prog 281 2=(some (2,1)):=by kernel_rfl
theorem jed:dL prog 281 3=(some 3):=by kernel_rfl
theorem jee:dH prog 281 3=(some (3,1)):=by kernel_rfl
theorem jef:dA prog 282=(some 1):=by kernel_rfl
theorem jeg:eI prog 282=(some false):=by kernel_rfl
theorem Mz:dA prog 284=(some 3):=by kernel_rfl
theorem PL:eI prog 284=(some true):=by kernel_rfl
theorem jsy:eK prog 284=(some [(.val (.int .i64 0)),(.val .nilFunc),(.val .nilFunc)]):=by kernel_rfl
theorem jeh:jO prog 284=(some [(.val (.int .i64 0)),(.val .nilFunc),(.val .nilFunc)]):=by kernel_rfl
theorem jsz:kD prog 284=true:=by kernel_rfl
theorem jei:dL prog 284 0=(some 0):=by kernel_rfl
theorem jej:dH prog 284 0=(some (0,1)):=by kernel_rfl
theorem jek:dL prog 284 1=(some 1):=by kernel_rfl
theorem jel:dH prog 284 1=(some (1,1)):=by kernel_rfl
theorem jem:dL prog 284 2=(some 2):=by kernel_rfl
theorem jen:dH prog 284 2=(some (2,1)):=by kernel_rfl
theorem B7:laidOutB prog=true:=by kernel_rfl
theorem ypc:Maps.Keyed prog 3:=Maps.int_keyed (q:=.i64) (by kernel_rfl)
theorem ybr:Maps.Keyed prog 121:=.of_law (deep_law_laid B7 (m:=3) (by omega) (of_decide_eq_true (by kernel_rfl)) (by kernel_rfl) (by kernel_rfl))
theorem ybs:Maps.Keyed prog 123:=.of_law (deep_law_laid B7 (m:=3) (by omega) (of_decide_eq_true (by kernel_rfl)) (by kernel_rfl) (by kernel_rfl))
theorem ybt:Maps.Keyed prog 173:=.of_law (deep_law_laid B7 (m:=3) (by omega) (of_decide_eq_true (by kernel_rfl)) (by kernel_rfl) (by kernel_rfl))
theorem ybu:Maps.Keyed prog 276:=.of_law (deep_law_laid B7 (m:=3) (by omega) (of_decide_eq_true (by kernel_rfl)) (by kernel_rfl) (by kernel_rfl))
theorem ybv:Maps.Keyed prog 290:=.of_law (deep_law_laid B7 (m:=3) (by omega) (of_decide_eq_true (by kernel_rfl)) (by kernel_rfl) (by kernel_rfl))
def KT(k:TypeId):Bool:=k==3||k==121||k==123||k==173||k==276||k==290
theorem ax(k:TypeId)(h:KT k=true):Maps.Keyed prog k:=by
 simp only[KT,Bool.or_eq_true,beq_iff_eq,or_assoc]at h
 rcases h with rfl|rfl|rfl|rfl|rfl|rfl
 ·exact ypc
 ·exact ybr
 ·exact ybs
 ·exact ybt
 ·exact ybu
 ·exact ybv
theorem aL{a b:Prop}(x:a)(y:b):a∧b:=⟨x,y⟩
section
variable {c:Cx} {sm:List Nat} {Q:Exit→Fr→ak→Prop} {id:Nat} {l:List Oper} {n:Nat} {τ τ':Fr} {H H':ak}
theorem aj{y:Code}(h:∀{K:Fr→ak→Prop},K τ' H'→sT prog KT sm l l τ H K)(hq:dj prog c y Q τ' H')(hn:c.nt=n:=by exact hc)(hd:mh n l=true:=by rfl)(hp:Kp c sm:=by exact hp):dj prog c (.seq (.region id l.toArray false) y) Q τ H:=bC hp ax hn hd fun K hK=>h (hK _ _ hq)
theorem jW{o:Operand}{x y:Code}(h:dj prog c x Q τ H)(ht:aU τ o= .d (.val (.bool true)):=by rfl):dj prog c (.cond o x y) Q τ H:=aX ht (fun _=>h) fun e=>nomatch e
theorem eC{o:Operand}{x y:Code}(h:dj prog c y Q τ H)(ht:aU τ o= .d (.val (.bool false)):=by rfl):dj prog c (.cond o x y) Q τ H:=aX ht (fun e=>nomatch e) fun _=>h
theorem jX(h:∀{K:Fr→ak→Prop},K τ' H'→sT prog KT sm l l τ H K)(hq:Q .normal τ' H')(hn:c.nt=n:=by exact hc)(hd:mh n l=true:=by rfl)(hp:Kp c sm:=by exact hp):dj prog c (.region id l.toArray false) Q τ H:=bA hp ax hn hd fun K hK=>h (hK _ _ hq)
end
theorem bw:type_of% (oV (aF (aF (aF @Wc @Nz @Ny @V2 @JM) (aF @Vx @Vb @VP @UA @Uz) (aF @Uy @JO @JN @jdg @jdf) (aF @jf2 @jf3 @jn8 @jcs @Xu) (aF @Xt @XB @Ug @JQ @VD)) (aF (aF @Vl @Vh @UI @VU @UJ) (aF @Vk @V1 @VT @U8 @Ns) (aF @Nr @S5 @UH @UW @DT) (aF @V9 @JR @TZ @jdb @jct) (aF @jcu @Ue @FW @Uf @Ts)) (aF (aF @Tr @US @UQ @UC @UU) (aF @Vv @Vu @Vp @VV @UD) (aF @VR @VQ @UE @UT @U6) (aF @UR @jdz @TU @TT @TS) (aF @jdx @V3 @U7 @S7 @S6)) (aF (aF @U9 @PO @jr8 @jr7 @jr9) (aF @jcv @jcw @jcx @zg @F1) (aF @TC @jf6 @jc7 @jc6 @jf7) (aF @Ut @Us @jc8 @jdc @Wb) (aF @VO @VN @Tw @U5 @U4)) (aF (aF @jcy @jcz @S2 @jf5 @We) (aF @VE @Vt @Vs @jc1 @jc2) (aF @T3 @jc0 @joc @V5 @Wa) (aF @Vr @Vq @jsg @jdk @jdl) (aF @jsf @Y5 @V7 @jsi @jdp))) (aF (aF (aF @jdq @jdr @jds @jsh @Y6) (aF @jj6 @jde @TY @jdd @jc9) (aF @jda @U2 @Vw @V6 @U3) (aF @Vo @TX @UP @UO @UN) (aF @UM @UL @R9 @VA @V4)) (aF (aF @VZ @VY @VC @Tq @Tp) (aF @Mz @PL @jeh @jsy @jsz) (aF @jej @jel @jen @T8 @jei) (aF @jek @jef @jeg @jd9 @jed) (aF @jeb @jsx @jd8 @jea @jec)) (aF (aF @jee @jsw @jsv @jem @Ud) (aF @Uc @T6 @T7 @TR @VL) (aF @Vd @TQ @VK @Vn @Vm) (aF @Va @T5 @jsc @jsd @jse) (aF @Jy @Jx @jf9 @jof @jog)) (aF (aF @VJ @TB @PR @PQ @joh) (aF @Y0 @YZ @Ur @Up @TA) (aF @jdw @TW @TV @jdv @jga) (aF @Uq @Uo @Tz @Tx @Ty) (aF @XC @Ui @Uh @jc4 @UX)) (aF (aF @T2 @T1 @UY @T0 @Ux) (aF @Uw @Uv @Uu @R8 @jdu) (aF @jsk @jd4 @jsp @jsq @VG) (aF @jn9 @Vi @VX @VW @Vj) (aF @VS @Vz @S4 @S3 @S1))) (AO (aF (aF @jdm @jdn @jdo @DA @I2) (aF @jgb @joi @jso @jd0 @jd1) (aF @jd2 @jsn @jsm @joj @jki) (aF @SV @SU @SS @Tv @Tu) (aF @Tt @Vf @Ve @jdh @jdi)) (aF (aF @jdj @VI @VH @MA @PM) (aF @jdy @jd7 @jst @VF @Ub) (aF @Ua @jc5 @Y1 @XD @jsu) (aF @Vc @T9 @JL @UG @UF) (aF @Vy @Vg @xe @M3 @jf4)) (aF (aF @joa @jss @jd3 @jd5 @jd6) (aF @jsr @job @Mj @jf8 @Y4) (aF @Y3 @jkc @jke @T4 @U0) (aF @UZ @U1 @Pc @Pb @YX) (aF @YY @YW @jkk @SR @jkf)) (oV (aF @jkj @jkb @jc3 @jj7 @jj8) (aF @jj9 @jka @SW @jkd @jod) (aF @joe @S0 @Y8 @Y7 @Y2)))):=(oV (aF (aF (aF @Wc @Nz @Ny @V2 @JM) (aF @Vx @Vb @VP @UA @Uz) (aF @Uy @JO @JN @jdg @jdf) (aF @jf2 @jf3 @jn8 @jcs @Xu) (aF @Xt @XB @Ug @JQ @VD)) (aF (aF @Vl @Vh @UI @VU @UJ) (aF @Vk @V1 @VT @U8 @Ns) (aF @Nr @S5 @UH @UW @DT) (aF @V9 @JR @TZ @jdb @jct) (aF @jcu @Ue @FW @Uf @Ts)) (aF (aF @Tr @US @UQ @UC @UU) (aF @Vv @Vu @Vp @VV @UD) (aF @VR @VQ @UE @UT @U6) (aF @UR @jdz @TU @TT @TS) (aF @jdx @V3 @U7 @S7 @S6)) (aF (aF @U9 @PO @jr8 @jr7 @jr9) (aF @jcv @jcw @jcx @zg @F1) (aF @TC @jf6 @jc7 @jc6 @jf7) (aF @Ut @Us @jc8 @jdc @Wb) (aF @VO @VN @Tw @U5 @U4)) (aF (aF @jcy @jcz @S2 @jf5 @We) (aF @VE @Vt @Vs @jc1 @jc2) (aF @T3 @jc0 @joc @V5 @Wa) (aF @Vr @Vq @jsg @jdk @jdl) (aF @jsf @Y5 @V7 @jsi @jdp))) (aF (aF (aF @jdq @jdr @jds @jsh @Y6) (aF @jj6 @jde @TY @jdd @jc9) (aF @jda @U2 @Vw @V6 @U3) (aF @Vo @TX @UP @UO @UN) (aF @UM @UL @R9 @VA @V4)) (aF (aF @VZ @VY @VC @Tq @Tp) (aF @Mz @PL @jeh @jsy @jsz) (aF @jej @jel @jen @T8 @jei) (aF @jek @jef @jeg @jd9 @jed) (aF @jeb @jsx @jd8 @jea @jec)) (aF (aF @jee @jsw @jsv @jem @Ud) (aF @Uc @T6 @T7 @TR @VL) (aF @Vd @TQ @VK @Vn @Vm) (aF @Va @T5 @jsc @jsd @jse) (aF @Jy @Jx @jf9 @jof @jog)) (aF (aF @VJ @TB @PR @PQ @joh) (aF @Y0 @YZ @Ur @Up @TA) (aF @jdw @TW @TV @jdv @jga) (aF @Uq @Uo @Tz @Tx @Ty) (aF @XC @Ui @Uh @jc4 @UX)) (aF (aF @T2 @T1 @UY @T0 @Ux) (aF @Uw @Uv @Uu @R8 @jdu) (aF @jsk @jd4 @jsp @jsq @VG) (aF @jn9 @Vi @VX @VW @Vj) (aF @VS @Vz @S4 @S3 @S1))) (AO (aF (aF @jdm @jdn @jdo @DA @I2) (aF @jgb @joi @jso @jd0 @jd1) (aF @jd2 @jsn @jsm @joj @jki) (aF @SV @SU @SS @Tv @Tu) (aF @Tt @Vf @Ve @jdh @jdi)) (aF (aF @jdj @VI @VH @MA @PM) (aF @jdy @jd7 @jst @VF @Ub) (aF @Ua @jc5 @Y1 @XD @jsu) (aF @Vc @T9 @JL @UG @UF) (aF @Vy @Vg @xe @M3 @jf4)) (aF (aF @joa @jss @jd3 @jd5 @jd6) (aF @jsr @job @Mj @jf8 @Y4) (aF @Y3 @jkc @jke @T4 @U0) (aF @UZ @U1 @Pc @Pb @YX) (aF @YY @YW @jkk @SR @jkf)) (oV (aF @jkj @jkb @jc3 @jj7 @jj8) (aF @jj9 @jka @SW @jkd @jod) (aF @joe @S0 @Y8 @Y7 @Y2))))
end Go.Proofs.YtapjobndmmkanaaGreat
