/- Facts of types, and of the settings. -/
import Derived.Test.YtapjobndmmkanaaGreatAR
import Derived.Test.YtapjobndmmkanaaGreatProg
import Derived.DeepKeys4
set_option linter.unusedVariables false
set_option linter.unusedSimpArgs false
namespace Go.Proofs.YtapjobndmmkanaaGreat
open Go.Proofs.Tryz
open Go Go.RowKit
theorem mixed:prog.follows .mixedOrders=true:=by kernel_rfl
theorem Fu:dU prog 3=(some 1):=by kernel_rfl
theorem MK:fC prog 3=(some false):=by kernel_rfl
theorem jkc:j8 prog 3=(some [(.val (.int .i64 0))]):=by kernel_rfl
theorem OT:tk prog 3=(some .i64):=by kernel_rfl
theorem Ww:dU prog 4=(some 1):=by kernel_rfl
theorem Wv:fC prog 4=(some false):=by kernel_rfl
theorem Wu:Dj prog 4=true:=by kernel_rfl
theorem W0:dU prog 5=(some 1):=by kernel_rfl
theorem WZ:fC prog 5=(some false):=by kernel_rfl
theorem WY:tk prog 5=(some .u8):=by kernel_rfl
theorem Wt:dU prog 9=(some 1):=by kernel_rfl
theorem Ws:fC prog 9=(some false):=by kernel_rfl
theorem jlb:dU prog 22=(some 1):=by kernel_rfl
theorem jlc:fC prog 22=(some false):=by kernel_rfl
theorem jld:fB prog 22=(some (none,(5,1))):=by kernel_rfl
theorem Yt:dU prog 24=(some 1):=by kernel_rfl
theorem Ys:fC prog 24=(some true):=by kernel_rfl
theorem jhg:eD prog 24 0=(some 0):=by kernel_rfl
theorem Yr:fB prog 25=(some ((some 2),(5,1))):=by kernel_rfl
theorem I6:dU prog 26=(some 1):=by kernel_rfl
theorem Vg:fC prog 26=(some false):=by kernel_rfl
theorem U1:fB prog 26=(some (none,(121,3))):=by kernel_rfl
theorem Rx:ot prog 26=(some (3,([(.val (.int .i64 0)),(.val (.int .i64 0)),(.val (.int .i64 0))],24))):=by kernel_rfl
theorem UM:dU prog 27=(some 1):=by kernel_rfl
theorem UL:fC prog 27=(some false):=by kernel_rfl
theorem UJ:fB prog 27=(some (none,(123,5))):=by kernel_rfl
theorem jd2:ot prog 27=(some (5,([(.val (.int .i64 0)),(.val (.int .i64 0)),(.val (.int .i64 0)),(.val (.int .i64 0)),(.val (.int .i64 0))],40))):=by kernel_rfl
theorem I7:dU prog 28=(some 1):=by kernel_rfl
theorem Vj:fC prog 28=(some false):=by kernel_rfl
theorem Vo:fB prog 28=(some (none,(3,1))):=by kernel_rfl
theorem Vl:ot prog 28=(some (1,([(.val (.int .i64 0))],8))):=by kernel_rfl
theorem Yq:j8 prog 28=(some [(.val (.slice none 0 0))]):=by kernel_rfl
theorem vN:dU prog 30=(some 4):=by kernel_rfl
theorem Mt:fC prog 30=(some true):=by kernel_rfl
theorem jd3:fu prog 30=(some [(.val (.slice none 0 0)),(.val (.slice none 0 0)),(.val (.slice none 0 0)),(.val (.slice none 0 0))]):=by kernel_rfl
theorem Rw:j8 prog 30=(some [(.val (.slice none 0 0)),(.val (.slice none 0 0)),(.val (.slice none 0 0)),(.val (.slice none 0 0))]):=by kernel_rfl
theorem jd4:lh prog 30=true:=by kernel_rfl
theorem Vr:eD prog 30 0=(some 0):=by kernel_rfl
theorem Sg:eE prog 30 0=(some (0,1)):=by kernel_rfl
theorem Vk:eD prog 30 1=(some 1):=by kernel_rfl
theorem Sf:eE prog 30 1=(some (1,1)):=by kernel_rfl
theorem UK:eD prog 30 2=(some 2):=by kernel_rfl
theorem Se:eE prog 30 2=(some (2,1)):=by kernel_rfl
theorem U0:eD prog 30 3=(some 3):=by kernel_rfl
theorem Sd:eE prog 30 3=(some (3,1)):=by kernel_rfl
theorem Ur:dU prog 32=(some 1):=by kernel_rfl
theorem Uq:fC prog 32=(some false):=by kernel_rfl
theorem TO:fB prog 32=(some (none,(117,13))):=by kernel_rfl
theorem jd5:ot prog 32=(some (13,([(.val (.string ⟨#[]⟩)),(.val (.int .i64 0)),(.val (.int .i64 0)),(.val (.int .i64 0)),(.val (.string ⟨#[]⟩)),(.val (.int .i64 0)),(.val (.string ⟨#[]⟩)),(.val (.int .i64 0)),(.val (.string ⟨#[]⟩)),(.val (.slice none 0 0)),(.val (.int .i64 0)),(.val (.string ⟨#[]⟩)),(.val (.int .i64 0))],160))):=by kernel_rfl
theorem TN:dU prog 33=(some 1):=by kernel_rfl
theorem TM:fC prog 33=(some false):=by kernel_rfl
theorem Tq:fB prog 33=(some (none,(138,27))):=by kernel_rfl
theorem Yp:ot prog 33=(some (27,([(.val (.string ⟨#[]⟩)),(.val (.int .i64 0)),(.val (.int .i64 0)),(.val (.int .i64 0)),(.val (.string ⟨#[]⟩)),(.val (.int .i64 0)),(.val (.string ⟨#[]⟩)),(.val (.int .i64 0)),(.val (.string ⟨#[]⟩)),(.val (.slice none 0 0)),(.val (.int .i64 0)),(.val (.string ⟨#[]⟩)),(.val (.int .i64 0)),(.val (.string ⟨#[]⟩)),(.val (.int .i64 0)),(.val (.string ⟨#[]⟩)),(.val (.slice none 0 0)),(.val (.int .i64 0)),(.val (.string ⟨#[]⟩)),(.val (.int .i64 0)),(.val (.string ⟨#[]⟩)),(.val (.int .i64 0)),(.val (.string ⟨#[]⟩)),(.val (.slice none 0 0)),(.val (.int .i64 0)),(.val (.string ⟨#[]⟩)),(.val (.int .i64 0))],352))):=by kernel_rfl
theorem T1:dU prog 34=(some 1):=by kernel_rfl
theorem TL:fC prog 34=(some false):=by kernel_rfl
theorem TK:fB prog 34=(some (none,(119,9))):=by kernel_rfl
theorem jle:ot prog 34=(some (9,([(.val (.int .i64 0)),(.val (.int .i64 0)),(.val (.int .i64 0)),(.val (.string ⟨#[]⟩)),(.val (.int .i64 0)),(.val (.string ⟨#[]⟩)),(.val (.int .i64 0)),(.val (.string ⟨#[]⟩)),(.val (.slice none 0 0))],112))):=by kernel_rfl
theorem T0:dU prog 35=(some 1):=by kernel_rfl
theorem TZ:fC prog 35=(some false):=by kernel_rfl
theorem TJ:fB prog 35=(some (none,(136,16))):=by kernel_rfl
theorem Yo:ot prog 35=(some (16,([(.val (.int .i64 0)),(.val (.int .i64 0)),(.val (.int .i64 0)),(.val (.string ⟨#[]⟩)),(.val (.int .i64 0)),(.val (.string ⟨#[]⟩)),(.val (.int .i64 0)),(.val (.string ⟨#[]⟩)),(.val (.slice none 0 0)),(.val (.int .i64 0)),(.val (.string ⟨#[]⟩)),(.val (.int .i64 0)),(.val (.string ⟨#[]⟩)),(.val (.int .i64 0)),(.val (.string ⟨#[]⟩)),(.val (.slice none 0 0))],208))):=by kernel_rfl
theorem BW:dU prog 37=(some 6):=by kernel_rfl
theorem Fp:fC prog 37=(some true):=by kernel_rfl
theorem jd6:fu prog 37=(some [(.val (.string ⟨#[]⟩)),(.val (.string ⟨#[]⟩)),(.val (.slice none 0 0)),(.val (.slice none 0 0)),(.val (.slice none 0 0)),(.val (.slice none 0 0))]):=by kernel_rfl
theorem SH:j8 prog 37=(some [(.val (.string ⟨#[]⟩)),(.val (.string ⟨#[]⟩)),(.val (.slice none 0 0)),(.val (.slice none 0 0)),(.val (.slice none 0 0)),(.val (.slice none 0 0))]):=by kernel_rfl
theorem jd7:lh prog 37=true:=by kernel_rfl
theorem TC:eE prog 37 0=(some (0,1)):=by kernel_rfl
theorem TB:eE prog 37 1=(some (1,1)):=by kernel_rfl
theorem Vi:eD prog 37 2=(some 2):=by kernel_rfl
theorem jhh:eE prog 37 2=(some (2,1)):=by kernel_rfl
theorem UP:eD prog 37 3=(some 3):=by kernel_rfl
theorem Vd:eD prog 37 4=(some 4):=by kernel_rfl
theorem Vc:eD prog 37 5=(some 5):=by kernel_rfl
theorem jlf:dU prog 40=(some 1):=by kernel_rfl
theorem jlg:fC prog 40=(some false):=by kernel_rfl
theorem ID:dU prog 42=(some 5):=by kernel_rfl
theorem Yn:fC prog 42=(some true):=by kernel_rfl
theorem jlh:fu prog 42=(some [(.val (.slice none 0 0)),(.val (.slice none 0 0)),(.val (.slice none 0 0)),(.val (.slice none 0 0)),(.val (.int .i64 0))]):=by kernel_rfl
theorem Rv:j8 prog 42=(some [(.val (.slice none 0 0)),(.val (.slice none 0 0)),(.val (.slice none 0 0)),(.val (.slice none 0 0)),(.val (.int .i64 0))]):=by kernel_rfl
theorem jli:lh prog 42=true:=by kernel_rfl
theorem Sb:eD prog 42 0=(some 0):=by kernel_rfl
theorem Sa:eE prog 42 0=(some (0,4)):=by kernel_rfl
theorem R9:eD prog 42 1=(some 4):=by kernel_rfl
theorem jhi:Lk prog 42 1=(some (4,(1,false))):=by kernel_rfl
theorem R8:eE prog 42 1=(some (4,1)):=by kernel_rfl
theorem Tp:dU prog 49=(some 1):=by kernel_rfl
theorem To:fC prog 49=(some false):=by kernel_rfl
theorem Ru:fB prog 49=(some (none,(28,1))):=by kernel_rfl
theorem Rq:ot prog 49=(some (1,([(.val (.slice none 0 0))],24))):=by kernel_rfl
theorem Ym:j8 prog 49=(some [(.val (.slice none 0 0))]):=by kernel_rfl
theorem yjq:dU prog 51=(some 2):=by kernel_rfl
theorem yjr:dU prog 54=(some 1):=by kernel_rfl
theorem yjs:dU prog 63=(some 5):=by kernel_rfl
theorem Yl:dU prog 81=(some 3):=by kernel_rfl
theorem TX:fu prog 110=(some [(.val (.int .i64 0)),(.val (.string ⟨#[]⟩))]):=by kernel_rfl
theorem TW:lh prog 110=true:=by kernel_rfl
theorem TA:eD prog 110 0=(some 0):=by kernel_rfl
theorem UX:eE prog 110 0=(some (0,1)):=by kernel_rfl
theorem Sw:dU prog 111=(some 1):=by kernel_rfl
theorem Sv:fC prog 111=(some false):=by kernel_rfl
theorem Su:fB prog 111=(some (none,(113,7))):=by kernel_rfl
theorem TV:ot prog 111=(some (7,([(.val (.int .i64 0)),(.val (.string ⟨#[]⟩)),(.val (.int .i64 0)),(.val (.string ⟨#[]⟩)),(.val (.int .i64 0)),(.val (.string ⟨#[]⟩)),(.val (.slice none 0 0))],96))):=by kernel_rfl
theorem I9:dU prog 113=(some 7):=by kernel_rfl
theorem I8:fC prog 113=(some true):=by kernel_rfl
theorem Uw:fu prog 113=(some [(.val (.int .i64 0)),(.val (.string ⟨#[]⟩)),(.val (.int .i64 0)),(.val (.string ⟨#[]⟩)),(.val (.int .i64 0)),(.val (.string ⟨#[]⟩)),(.val (.slice none 0 0))]):=by kernel_rfl
theorem Uv:j8 prog 113=(some [(.val (.int .i64 0)),(.val (.string ⟨#[]⟩)),(.val (.int .i64 0)),(.val (.string ⟨#[]⟩)),(.val (.int .i64 0)),(.val (.string ⟨#[]⟩)),(.val (.slice none 0 0))]):=by kernel_rfl
theorem Uu:lh prog 113=true:=by kernel_rfl
theorem Uf:eD prog 113 0=(some 0):=by kernel_rfl
theorem Vb:eE prog 113 0=(some (0,1)):=by kernel_rfl
theorem Tz:eD prog 113 2=(some 2):=by kernel_rfl
theorem UW:eE prog 113 2=(some (2,2)):=by kernel_rfl
theorem Ty:eD prog 113 3=(some 4):=by kernel_rfl
theorem Ue:eE prog 113 3=(some (4,2)):=by kernel_rfl
theorem Ud:eD prog 113 4=(some 6):=by kernel_rfl
theorem Uc:eE prog 113 4=(some (6,1)):=by kernel_rfl
theorem OS:dU prog 115=(some 3):=by kernel_rfl
theorem jxs:fC prog 115=(some true):=by kernel_rfl
theorem jo1:fu prog 115=(some [(.val (.int .i64 0)),(.val (.string ⟨#[]⟩)),(.val (.int .i64 0))]):=by kernel_rfl
theorem jo2:j8 prog 115=(some [(.val (.int .i64 0)),(.val (.string ⟨#[]⟩)),(.val (.int .i64 0))]):=by kernel_rfl
theorem jo3:lh prog 115=true:=by kernel_rfl
theorem ja7:eE prog 115 0=(some (0,1)):=by kernel_rfl
theorem ja8:eE prog 115 1=(some (1,1)):=by kernel_rfl
theorem ja9:eE prog 115 2=(some (2,1)):=by kernel_rfl
theorem jba:dU prog 117=(some 13):=by kernel_rfl
theorem jbb:fC prog 117=(some true):=by kernel_rfl
theorem Sr:fu prog 117=(some [(.val (.string ⟨#[]⟩)),(.val (.int .i64 0)),(.val (.int .i64 0)),(.val (.int .i64 0)),(.val (.string ⟨#[]⟩)),(.val (.int .i64 0)),(.val (.string ⟨#[]⟩)),(.val (.int .i64 0)),(.val (.string ⟨#[]⟩)),(.val (.slice none 0 0)),(.val (.int .i64 0)),(.val (.string ⟨#[]⟩)),(.val (.int .i64 0))]):=by kernel_rfl
theorem jbc:j8 prog 117=(some [(.val (.string ⟨#[]⟩)),(.val (.int .i64 0)),(.val (.int .i64 0)),(.val (.int .i64 0)),(.val (.string ⟨#[]⟩)),(.val (.int .i64 0)),(.val (.string ⟨#[]⟩)),(.val (.int .i64 0)),(.val (.string ⟨#[]⟩)),(.val (.slice none 0 0)),(.val (.int .i64 0)),(.val (.string ⟨#[]⟩)),(.val (.int .i64 0))]):=by kernel_rfl
theorem Sq:lh prog 117=true:=by kernel_rfl
theorem Ub:eE prog 117 0=(some (0,1)):=by kernel_rfl
theorem UU:eD prog 117 1=(some 1):=by kernel_rfl
theorem Ua:eE prog 117 1=(some (1,1)):=by kernel_rfl
theorem jbd:eE prog 117 2=(some (2,1)):=by kernel_rfl
theorem T9:eD prog 117 3=(some 3):=by kernel_rfl
theorem Tx:eE prog 117 3=(some (3,7)):=by kernel_rfl
theorem jbe:eE prog 117 4=(some (10,3)):=by kernel_rfl
theorem jbf:dU prog 119=(some 9):=by kernel_rfl
theorem jbg:fC prog 119=(some true):=by kernel_rfl
theorem jbh:fu prog 119=(some [(.val (.int .i64 0)),(.val (.int .i64 0)),(.val (.int .i64 0)),(.val (.string ⟨#[]⟩)),(.val (.int .i64 0)),(.val (.string ⟨#[]⟩)),(.val (.int .i64 0)),(.val (.string ⟨#[]⟩)),(.val (.slice none 0 0))]):=by kernel_rfl
theorem jbi:j8 prog 119=(some [(.val (.int .i64 0)),(.val (.int .i64 0)),(.val (.int .i64 0)),(.val (.string ⟨#[]⟩)),(.val (.int .i64 0)),(.val (.string ⟨#[]⟩)),(.val (.int .i64 0)),(.val (.string ⟨#[]⟩)),(.val (.slice none 0 0))]):=by kernel_rfl
theorem jbj:lh prog 119=true:=by kernel_rfl
theorem jbk:eE prog 119 0=(some (0,1)):=by kernel_rfl
theorem UT:eD prog 119 1=(some 1):=by kernel_rfl
theorem Tj:eE prog 119 1=(some (1,1)):=by kernel_rfl
theorem T8:eD prog 119 2=(some 2):=by kernel_rfl
theorem jbl:eE prog 119 2=(some (2,7)):=by kernel_rfl
theorem UO:dU prog 121=(some 3):=by kernel_rfl
theorem UN:fC prog 121=(some true):=by kernel_rfl
theorem U9:fu prog 121=(some [(.val (.int .i64 0)),(.val (.int .i64 0)),(.val (.int .i64 0))]):=by kernel_rfl
theorem Ut:j8 prog 121=(some [(.val (.int .i64 0)),(.val (.int .i64 0)),(.val (.int .i64 0))]):=by kernel_rfl
theorem Vh:lh prog 121=true:=by kernel_rfl
theorem KR:DL prog 121=(some [(0,false),(1,false),(2,false)]):=by kernel_rfl
theorem Ti:eD prog 121 0=(some 0):=by kernel_rfl
theorem Vn:eE prog 121 0=(some (0,1)):=by kernel_rfl
theorem Th:eD prog 121 1=(some 1):=by kernel_rfl
theorem Vu:eE prog 121 1=(some (1,1)):=by kernel_rfl
theorem Tf:eD prog 121 2=(some 2):=by kernel_rfl
theorem Vt:eE prog 121 2=(some (2,1)):=by kernel_rfl
theorem UI:dU prog 123=(some 5):=by kernel_rfl
theorem UH:fC prog 123=(some true):=by kernel_rfl
theorem Vf:fu prog 123=(some [(.val (.int .i64 0)),(.val (.int .i64 0)),(.val (.int .i64 0)),(.val (.int .i64 0)),(.val (.int .i64 0))]):=by kernel_rfl
theorem TU:j8 prog 123=(some [(.val (.int .i64 0)),(.val (.int .i64 0)),(.val (.int .i64 0)),(.val (.int .i64 0)),(.val (.int .i64 0))]):=by kernel_rfl
theorem Ve:lh prog 123=true:=by kernel_rfl
theorem KQ:DL prog 123=(some [(0,false),(1,false),(2,false),(3,false),(4,false)]):=by kernel_rfl
theorem US:eD prog 123 0=(some 0):=by kernel_rfl
theorem Vq:eE prog 123 0=(some (0,1)):=by kernel_rfl
theorem UR:eD prog 123 1=(some 1):=by kernel_rfl
theorem Vp:eE prog 123 1=(some (1,1)):=by kernel_rfl
theorem T7:eD prog 123 2=(some 2):=by kernel_rfl
theorem Vs:eE prog 123 2=(some (2,1)):=by kernel_rfl
theorem T6:eD prog 123 3=(some 3):=by kernel_rfl
theorem Vm:eE prog 123 3=(some (3,1)):=by kernel_rfl
theorem Te:eD prog 123 4=(some 4):=by kernel_rfl
theorem Td:eE prog 123 4=(some (4,1)):=by kernel_rfl
theorem MH:dU prog 125=(some 4):=by kernel_rfl
theorem MF:fC prog 125=(some true):=by kernel_rfl
theorem jbo:fu prog 125=(some [(.val (.slice none 0 0)),(.val (.slice none 0 0)),(.val (.slice none 0 0)),(.val (.bool false))]):=by kernel_rfl
theorem jbp:j8 prog 125=(some [(.val (.slice none 0 0)),(.val (.slice none 0 0)),(.val (.slice none 0 0)),(.val (.bool false))]):=by kernel_rfl
theorem jbq:lh prog 125=true:=by kernel_rfl
theorem T5:eD prog 125 0=(some 0):=by kernel_rfl
theorem jbr:eE prog 125 0=(some (0,1)):=by kernel_rfl
theorem Tc:eD prog 125 1=(some 1):=by kernel_rfl
theorem Up:eD prog 125 2=(some 2):=by kernel_rfl
theorem jbs:eE prog 125 2=(some (2,1)):=by kernel_rfl
theorem jbt:eD prog 125 3=(some 3):=by kernel_rfl
theorem jbu:eE prog 125 3=(some (3,1)):=by kernel_rfl
theorem I5:dU prog 127=(some 2):=by kernel_rfl
theorem I4:fC prog 127=(some true):=by kernel_rfl
theorem jo4:fu prog 127=(some [(.val (.slice none 0 0)),(.val (.int .i64 0))]):=by kernel_rfl
theorem Sp:j8 prog 127=(some [(.val (.slice none 0 0)),(.val (.int .i64 0))]):=by kernel_rfl
theorem jo5:lh prog 127=true:=by kernel_rfl
theorem jbv:eD prog 127 0=(some 0):=by kernel_rfl
theorem jbw:eE prog 127 0=(some (0,1)):=by kernel_rfl
theorem jbx:eD prog 127 1=(some 1):=by kernel_rfl
theorem Fl:dU prog 131=(some 9):=by kernel_rfl
theorem OR:fC prog 131=(some true):=by kernel_rfl
theorem Sn:fu prog 131=(some [(.val (.int .i64 0)),(.val (.string ⟨#[]⟩)),(.val (.int .i64 0)),(.val (.string ⟨#[]⟩)),(.val (.int .i64 0)),(.val (.string ⟨#[]⟩)),(.val (.slice none 0 0)),(.val (.slice none 0 0)),(.val (.int .i64 0))]):=by kernel_rfl
theorem Tw:j8 prog 131=(some [(.val (.int .i64 0)),(.val (.string ⟨#[]⟩)),(.val (.int .i64 0)),(.val (.string ⟨#[]⟩)),(.val (.int .i64 0)),(.val (.string ⟨#[]⟩)),(.val (.slice none 0 0)),(.val (.slice none 0 0)),(.val (.int .i64 0))]):=by kernel_rfl
theorem Sl:lh prog 131=true:=by kernel_rfl
theorem Uo:eD prog 131 0=(some 0):=by kernel_rfl
theorem Un:eE prog 131 0=(some (0,7)):=by kernel_rfl
theorem Um:eD prog 131 1=(some 7):=by kernel_rfl
theorem Ul:eE prog 131 1=(some (7,2)):=by kernel_rfl
theorem jo6:dU prog 134=(some 2):=by kernel_rfl
theorem Sk:fB prog 134=(some ((some 2),(3,1))):=by kernel_rfl
theorem TT:fu prog 134=(some [(.val (.int .i64 0)),(.val (.int .i64 0))]):=by kernel_rfl
theorem TS:lh prog 134=true:=by kernel_rfl
theorem UQ:eE prog 134 0=(some (0,1)):=by kernel_rfl
theorem U8:eE prog 134 1=(some (1,1)):=by kernel_rfl
theorem jo7:dU prog 136=(some 16):=by kernel_rfl
theorem jo8:fC prog 136=(some true):=by kernel_rfl
theorem jo9:fu prog 136=(some [(.val (.int .i64 0)),(.val (.int .i64 0)),(.val (.int .i64 0)),(.val (.string ⟨#[]⟩)),(.val (.int .i64 0)),(.val (.string ⟨#[]⟩)),(.val (.int .i64 0)),(.val (.string ⟨#[]⟩)),(.val (.slice none 0 0)),(.val (.int .i64 0)),(.val (.string ⟨#[]⟩)),(.val (.int .i64 0)),(.val (.string ⟨#[]⟩)),(.val (.int .i64 0)),(.val (.string ⟨#[]⟩)),(.val (.slice none 0 0))]):=by kernel_rfl
theorem Z5:j8 prog 136=(some [(.val (.int .i64 0)),(.val (.int .i64 0)),(.val (.int .i64 0)),(.val (.string ⟨#[]⟩)),(.val (.int .i64 0)),(.val (.string ⟨#[]⟩)),(.val (.int .i64 0)),(.val (.string ⟨#[]⟩)),(.val (.slice none 0 0)),(.val (.int .i64 0)),(.val (.string ⟨#[]⟩)),(.val (.int .i64 0)),(.val (.string ⟨#[]⟩)),(.val (.int .i64 0)),(.val (.string ⟨#[]⟩)),(.val (.slice none 0 0))]):=by kernel_rfl
theorem Z4:lh prog 136=true:=by kernel_rfl
theorem jby:eE prog 136 0=(some (0,1)):=by kernel_rfl
theorem jbz:eD prog 136 1=(some 1):=by kernel_rfl
theorem jb0:eE prog 136 1=(some (1,1)):=by kernel_rfl
theorem Uk:eD prog 136 2=(some 2):=by kernel_rfl
theorem Uj:eD prog 136 3=(some 9):=by kernel_rfl
theorem Z3:dU prog 138=(some 27):=by kernel_rfl
theorem Z2:fC prog 138=(some true):=by kernel_rfl
theorem Z1:fu prog 138=(some [(.val (.string ⟨#[]⟩)),(.val (.int .i64 0)),(.val (.int .i64 0)),(.val (.int .i64 0)),(.val (.string ⟨#[]⟩)),(.val (.int .i64 0)),(.val (.string ⟨#[]⟩)),(.val (.int .i64 0)),(.val (.string ⟨#[]⟩)),(.val (.slice none 0 0)),(.val (.int .i64 0)),(.val (.string ⟨#[]⟩)),(.val (.int .i64 0)),(.val (.string ⟨#[]⟩)),(.val (.int .i64 0)),(.val (.string ⟨#[]⟩)),(.val (.slice none 0 0)),(.val (.int .i64 0)),(.val (.string ⟨#[]⟩)),(.val (.int .i64 0)),(.val (.string ⟨#[]⟩)),(.val (.int .i64 0)),(.val (.string ⟨#[]⟩)),(.val (.slice none 0 0)),(.val (.int .i64 0)),(.val (.string ⟨#[]⟩)),(.val (.int .i64 0))]):=by kernel_rfl
theorem Z0:j8 prog 138=(some [(.val (.string ⟨#[]⟩)),(.val (.int .i64 0)),(.val (.int .i64 0)),(.val (.int .i64 0)),(.val (.string ⟨#[]⟩)),(.val (.int .i64 0)),(.val (.string ⟨#[]⟩)),(.val (.int .i64 0)),(.val (.string ⟨#[]⟩)),(.val (.slice none 0 0)),(.val (.int .i64 0)),(.val (.string ⟨#[]⟩)),(.val (.int .i64 0)),(.val (.string ⟨#[]⟩)),(.val (.int .i64 0)),(.val (.string ⟨#[]⟩)),(.val (.slice none 0 0)),(.val (.int .i64 0)),(.val (.string ⟨#[]⟩)),(.val (.int .i64 0)),(.val (.string ⟨#[]⟩)),(.val (.int .i64 0)),(.val (.string ⟨#[]⟩)),(.val (.slice none 0 0)),(.val (.int .i64 0)),(.val (.string ⟨#[]⟩)),(.val (.int .i64 0))]):=by kernel_rfl
theorem ZZ:lh prog 138=true:=by kernel_rfl
theorem jb1:eE prog 138 0=(some (0,1)):=by kernel_rfl
theorem UG:eD prog 138 1=(some 1):=by kernel_rfl
theorem jb2:eE prog 138 1=(some (1,1)):=by kernel_rfl
theorem UF:eD prog 138 2=(some 2):=by kernel_rfl
theorem jb3:eE prog 138 2=(some (2,1)):=by kernel_rfl
theorem Ui:eD prog 138 3=(some 3):=by kernel_rfl
theorem Uh:eD prog 138 4=(some 10):=by kernel_rfl
theorem Ug:eD prog 138 5=(some 17):=by kernel_rfl
theorem jb4:eE prog 138 6=(some (24,3)):=by kernel_rfl
theorem UZ:dU prog 140=(some 2):=by kernel_rfl
theorem UY:fC prog 140=(some true):=by kernel_rfl
theorem ZY:fu prog 140=(some [(.val (.int .i64 0)),(.val (.slice none 0 0))]):=by kernel_rfl
theorem ZX:j8 prog 140=(some [(.val (.int .i64 0)),(.val (.slice none 0 0))]):=by kernel_rfl
theorem ZW:lh prog 140=true:=by kernel_rfl
theorem jb5:eD prog 140 0=(some 0):=by kernel_rfl
theorem jb6:eE prog 140 0=(some (0,1)):=by kernel_rfl
theorem Tb:eD prog 140 1=(some 1):=by kernel_rfl
theorem LS:dU prog 142=(some 6):=by kernel_rfl
theorem LR:fC prog 142=(some true):=by kernel_rfl
theorem ZV:fu prog 142=(some [(.val (.int .i64 0)),(.val (.slice none 0 0)),(.val (.slice none 0 0)),(.val (.slice none 0 0)),(.val (.slice none 0 0)),(.val (.int .i64 0))]):=by kernel_rfl
theorem jb7:j8 prog 142=(some [(.val (.int .i64 0)),(.val (.slice none 0 0)),(.val (.slice none 0 0)),(.val (.slice none 0 0)),(.val (.slice none 0 0)),(.val (.int .i64 0))]):=by kernel_rfl
theorem ZU:lh prog 142=true:=by kernel_rfl
theorem Ta:eD prog 142 0=(some 0):=by kernel_rfl
theorem jb8:eE prog 142 0=(some (0,2)):=by kernel_rfl
theorem S9:eD prog 142 1=(some 2):=by kernel_rfl
theorem S8:eD prog 142 2=(some 3):=by kernel_rfl
theorem S7:eD prog 142 3=(some 4):=by kernel_rfl
theorem T4:eD prog 142 4=(some 5):=by kernel_rfl
theorem jb9:eE prog 142 4=(some (5,1)):=by kernel_rfl
theorem Sj:dU prog 145=(some 8):=by kernel_rfl
theorem Si:fC prog 145=(some true):=by kernel_rfl
theorem jca:fu prog 145=(some [(.val (.string ⟨#[]⟩)),(.val (.string ⟨#[]⟩)),(.val (.slice none 0 0)),(.val (.slice none 0 0)),(.val (.slice none 0 0)),(.val (.slice none 0 0)),(.val (.slice none 0 0)),(.val (.slice none 0 0))]):=by kernel_rfl
theorem ZT:j8 prog 145=(some [(.val (.string ⟨#[]⟩)),(.val (.string ⟨#[]⟩)),(.val (.slice none 0 0)),(.val (.slice none 0 0)),(.val (.slice none 0 0)),(.val (.slice none 0 0)),(.val (.slice none 0 0)),(.val (.slice none 0 0))]):=by kernel_rfl
theorem jcb:lh prog 145=true:=by kernel_rfl
theorem S6:eD prog 145 0=(some 0):=by kernel_rfl
theorem S5:eE prog 145 0=(some (0,6)):=by kernel_rfl
theorem S4:eD prog 145 1=(some 6):=by kernel_rfl
theorem S3:eE prog 145 1=(some (6,1)):=by kernel_rfl
theorem jcc:eD prog 145 2=(some 7):=by kernel_rfl
theorem S2:eE prog 145 2=(some (7,1)):=by kernel_rfl
theorem Fg:dU prog 147=(some 4):=by kernel_rfl
theorem Ff:fC prog 147=(some true):=by kernel_rfl
theorem ZS:fu prog 147=(some [(.val (.int .i64 0)),(.val (.slice none 0 0)),(.val (.slice none 0 0)),(.val (.slice none 0 0))]):=by kernel_rfl
theorem Sh:j8 prog 147=(some [(.val (.int .i64 0)),(.val (.slice none 0 0)),(.val (.slice none 0 0)),(.val (.slice none 0 0))]):=by kernel_rfl
theorem ZR:lh prog 147=true:=by kernel_rfl
theorem T3:eD prog 147 0=(some 0):=by kernel_rfl
theorem jcd:eE prog 147 0=(some (0,2)):=by kernel_rfl
theorem S1:eD prog 147 1=(some 2):=by kernel_rfl
theorem S0:eD prog 147 2=(some 3):=by kernel_rfl
theorem BZ:dU prog 150=(some 3):=by kernel_rfl
theorem Bz:fC prog 150=(some true):=by kernel_rfl
theorem TR:fu prog 150=(some [(.val (.int .i64 0)),(.val (.slice none 0 0)),(.val (.int .i64 0))]):=by kernel_rfl
theorem UE:j8 prog 150=(some [(.val (.int .i64 0)),(.val (.slice none 0 0)),(.val (.int .i64 0))]):=by kernel_rfl
theorem TQ:lh prog 150=true:=by kernel_rfl
theorem U7:eD prog 150 0=(some 0):=by kernel_rfl
theorem U6:eE prog 150 0=(some (0,2)):=by kernel_rfl
theorem Va:eD prog 150 1=(some 2):=by kernel_rfl
theorem U5:eE prog 150 1=(some (2,1)):=by kernel_rfl
theorem Fs:dU prog 154=(some 3):=by kernel_rfl
theorem E4:fC prog 154=(some true):=by kernel_rfl
theorem jce:fu prog 154=(some [(.val (.int .i64 0)),(.val (.slice none 0 0)),(.val (.slice none 0 0))]):=by kernel_rfl
theorem TP:j8 prog 154=(some [(.val (.int .i64 0)),(.val (.slice none 0 0)),(.val (.slice none 0 0))]):=by kernel_rfl
theorem jcf:lh prog 154=true:=by kernel_rfl
theorem U4:eD prog 154 0=(some 0):=by kernel_rfl
theorem SZ:eE prog 154 0=(some (0,2)):=by kernel_rfl
theorem U3:eD prog 154 1=(some 2):=by kernel_rfl
theorem SY:eE prog 154 1=(some (2,1)):=by kernel_rfl
theorem Tv:tk prog 168=(some .u64):=by kernel_rfl
theorem LQ:dU prog 173=(some 3):=by kernel_rfl
theorem OQ:fC prog 173=(some true):=by kernel_rfl
theorem Us:fB prog 173=(some ((some 3),(3,1))):=by kernel_rfl
theorem Tu:fu prog 173=(some [(.val (.int .i64 0)),(.val (.int .i64 0)),(.val (.int .i64 0))]):=by kernel_rfl
theorem jcg:j8 prog 173=(some [(.val (.int .i64 0)),(.val (.int .i64 0)),(.val (.int .i64 0))]):=by kernel_rfl
theorem Tt:lh prog 173=true:=by kernel_rfl
theorem UD:eE prog 173 0=(some (0,1)):=by kernel_rfl
theorem UC:eE prog 173 1=(some (1,1)):=by kernel_rfl
theorem UB:eE prog 173 2=(some (2,1)):=by kernel_rfl
theorem ZQ:dU prog 177=(some 9):=by kernel_rfl
theorem UA:dU prog 187=(some 1):=by kernel_rfl
theorem Uz:fC prog 187=(some false):=by kernel_rfl
theorem ZP:dU prog 188=(some 1):=by kernel_rfl
theorem ZO:fC prog 188=(some false):=by kernel_rfl
theorem Ts:dU prog 189=(some 1):=by kernel_rfl
theorem Tr:fC prog 189=(some false):=by kernel_rfl
theorem jps:fu prog 191=(some [(.val (.slice none 0 0)),(.val (.slice none 0 0)),(.val (.slice none 0 0)),(.val (.slice none 0 0)),(.val (.string ⟨#[]⟩)),(.val (.string ⟨#[]⟩)),(.val (.slice none 0 0)),(.val (.slice none 0 0)),(.val (.slice none 0 0)),(.val (.slice none 0 0)),(.val (.map none)),(.val (.map none)),(.val (.slice none 0 0))]):=by kernel_rfl
theorem ZN:lh prog 191=true:=by kernel_rfl
theorem Uy:eD prog 191 0=(some 0):=by kernel_rfl
theorem T2:eD prog 191 1=(some 4):=by kernel_rfl
theorem jch:eE prog 191 1=(some (4,6)):=by kernel_rfl
theorem jci:eD prog 191 2=(some 10):=by kernel_rfl
theorem jcj:eE prog 191 2=(some (10,1)):=by kernel_rfl
theorem Ux:eD prog 191 3=(some 11):=by kernel_rfl
theorem jck:eE prog 191 3=(some (11,1)):=by kernel_rfl
theorem SX:eD prog 191 4=(some 12):=by kernel_rfl
theorem jcl:dU prog 248=(some 1):=by kernel_rfl
theorem ZM:fC prog 248=(some false):=by kernel_rfl
theorem ZL:j8 prog 248=(some [(.val .nilFunc)]):=by kernel_rfl
theorem ZK:fB prog 277=(some (none,(9,1))):=by kernel_rfl
theorem ZJ:ot prog 277=(some (1,([(.val (.string ⟨#[]⟩))],16))):=by kernel_rfl
theorem ZI:dU prog 281=(some 4):=by kernel_rfl
theorem Ae:laidOutB prog=true:=by kernel_rfl
theorem yjt:Maps.Keyed prog 3:=Maps.int_keyed (q:=.i64) (by kernel_rfl)
theorem jxt:Maps.Keyed prog 121:=.of_law (deep_law_laid Ae (m:=3) (by omega) (of_decide_eq_true (by kernel_rfl)) (by kernel_rfl) (by kernel_rfl))
theorem jxu:Maps.Keyed prog 123:=.of_law (deep_law_laid Ae (m:=3) (by omega) (of_decide_eq_true (by kernel_rfl)) (by kernel_rfl) (by kernel_rfl))
theorem jxv:Maps.Keyed prog 173:=.of_law (deep_law_laid Ae (m:=3) (by omega) (of_decide_eq_true (by kernel_rfl)) (by kernel_rfl) (by kernel_rfl))
theorem jxw:Maps.Keyed prog 276:=.of_law (deep_law_laid Ae (m:=3) (by omega) (of_decide_eq_true (by kernel_rfl)) (by kernel_rfl) (by kernel_rfl))
theorem jxx:Maps.Keyed prog 290:=.of_law (deep_law_laid Ae (m:=3) (by omega) (of_decide_eq_true (by kernel_rfl)) (by kernel_rfl) (by kernel_rfl))
def KT(k:TypeId):Bool:=k==3||k==121||k==123||k==173||k==276||k==290
theorem ax(k:TypeId)(h:KT k=true):Maps.Keyed prog k:=by
 simp only[KT,Bool.or_eq_true,beq_iff_eq,or_assoc]at h
 rcases h with rfl|rfl|rfl|rfl|rfl|rfl
 ·exact yjt
 ·exact jxt
 ·exact jxu
 ·exact jxv
 ·exact jxw
 ·exact jxx
theorem aw{a b:Prop}(x:a)(y:b):a∧b:=⟨x,y⟩
section
variable {c:Cx} {sm:List Nat} {Q:Exit→Fr→av→Prop} {id:Nat} {l:List Oper} {n:Nat} {τ τ':Fr} {H H':av}
theorem ah{y:Code}(h:∀{K:Fr→av→Prop},K τ' H'→sT prog KT sm l l τ H K)(hq:ei prog c y Q τ' H')(hn:c.nt=n:=by exact hc)(hd:pU n l=true:=by rfl)(hp:Kp c sm:=by exact hp):ei prog c (.seq (.region id l.toArray false) y) Q τ H:=aZ hp ax hn hd fun K hK=>h (hK _ _ hq)
theorem dh{o:Operand}{x y:Code}(h:ei prog c x Q τ H)(ht:bu τ o= .d (.val (.bool true)):=by rfl):ei prog c (.cond o x y) Q τ H:=bf ht (fun _=>h) fun e=>nomatch e
theorem bA{o:Operand}{x y:Code}(h:ei prog c y Q τ H)(ht:bu τ o= .d (.val (.bool false)):=by rfl):ei prog c (.cond o x y) Q τ H:=bf ht (fun e=>nomatch e) fun _=>h
theorem fj(h:∀{K:Fr→av→Prop},K τ' H'→sT prog KT sm l l τ H K)(hq:Q .normal τ' H')(hn:c.nt=n:=by exact hc)(hd:pU n l=true:=by rfl)(hp:Kp c sm:=by exact hp):ei prog c (.region id l.toArray false) Q τ H:=bT hp ax hn hd fun K hK=>h (hK _ _ hq)
end
theorem bw:type_of% (oN (aG (aG (aG @Vo @Fu @MK @Vr @I6) (aG @Vg @U1 @Vk @UM @UL) (aG @UJ @I5 @I4 @jbx @jbv) (aG @jlb @jlc @jld @OT @W0) (aG @WZ @WY @Sp @ZK @ZJ)) (aG (aG @Wt @Ws @I9 @Uv @Uw) (aG @Tv @TW @UX @TX @Uu) (aG @Vb @UW @Ue @MH @MF) (aG @Su @TV @T5 @I7 @Vj) (aG @I8 @Tc @jbt @Ww @Wv)) (aG (aG @Sk @Fl @Tw @Sn @Sl) (aG @Un @Ul @Us @Up @TN) (aG @TM @Tq @UG @TS @UQ) (aG @U8 @TT @Uo @Uc @Um) (aG @Tt @UD @UC @UB @Tu)) (aG (aG @Vl @Ud @Sw @Sv @Uf) (aG @OS @jo2 @jo1 @jo3 @ja7) (aG @ja8 @ja9 @BW @Fp @SH) (aG @jd6 @jbp @jbo @jd7 @TC) (aG @TB @jbq @jbu @Vi @Ur)) (aG (aG @Uq @Sq @Ub @Ua @jbd) (aG @jbe @Sr @jd5 @Vd @T1) (aG @TL @TK @jbj @jbk @Tj) (aG @jbh @jle @UT @Vc @T0) (aG @TZ @Z4 @jby @jb0 @jo9))) (aG (aG (aG @Yo @UP @ZZ @jb1 @jb2) (aG @jb3 @jb4 @Z1 @Yp @jhg) (aG @jo5 @jbw @jo4 @jbr @jbs) (aG @T8 @TO @UU @T9 @TJ) (aG @jbz @Uk @Uj @Ui @Uh)) (aG (aG @Ug @UO @UN @UZ @UY) (aG @UI @UH @BZ @UE @TR) (aG @Tb @jd2 @jb5 @TQ @U6) (aG @U5 @US @UR @Ve @Vq) (aG @Vp @Vf @Vs @Vm @U7)) (aG (aG @Va @Fs @E4 @TP @jce) (aG @U4 @jcf @SZ @SY @U3) (aG @ZX @Sj @Si @Tp @To) (aG @Ru @Rq @Ty @TA @Tz) (aG @S6 @S4 @Vh @Vn @Vu)) (aG (aG @Vt @U9 @jcc @UF @Td) (aG @Rx @Fg @Ff @Sh @T3) (aG @S1 @S0 @LS @LR @jb7) (aG @ZV @ZW @jb6 @ZY @ZU) (aG @jb8 @jb9 @jcb @S5 @S3)) (aG (aG @S2 @jca @Ta @S9 @Ut) (aG @S7 @S8 @T4 @ZS @ZR) (aG @jcd @ID @Rv @jlh @ZT) (aG @Bz @jd4 @Sg @Sf @Se) (aG @Sd @vN @Mt @Rw @jd3))) (oN (aG (aG @jli @Sa @R8 @T7 @T6) (aG @Th @Tf @jkc @UK @U0) (aG @Ti @TU @Te @Yq @jci) (aG @ZP @ZO @Uy @UA @Uz) (aG @LQ @OQ @jcg @jcl @ZM)) (aG (aG @Ux @Ts @Tr @Ym @ZL) (aG @T2 @SX @jba @jbb @jbc) (aG @jbf @jbg @jbi @jo7 @jo8) (aG @Z5 @ZN @jch @jcj @jck) (aG @jps @Z3 @Z2 @Z0 @Tx)) (oN (aG @jhh @jbl @R9 @jhi @jlf) (aG @jlg @Sb @Yt @Ys @Yr) @Wu))):=(oN (aG (aG (aG @Vo @Fu @MK @Vr @I6) (aG @Vg @U1 @Vk @UM @UL) (aG @UJ @I5 @I4 @jbx @jbv) (aG @jlb @jlc @jld @OT @W0) (aG @WZ @WY @Sp @ZK @ZJ)) (aG (aG @Wt @Ws @I9 @Uv @Uw) (aG @Tv @TW @UX @TX @Uu) (aG @Vb @UW @Ue @MH @MF) (aG @Su @TV @T5 @I7 @Vj) (aG @I8 @Tc @jbt @Ww @Wv)) (aG (aG @Sk @Fl @Tw @Sn @Sl) (aG @Un @Ul @Us @Up @TN) (aG @TM @Tq @UG @TS @UQ) (aG @U8 @TT @Uo @Uc @Um) (aG @Tt @UD @UC @UB @Tu)) (aG (aG @Vl @Ud @Sw @Sv @Uf) (aG @OS @jo2 @jo1 @jo3 @ja7) (aG @ja8 @ja9 @BW @Fp @SH) (aG @jd6 @jbp @jbo @jd7 @TC) (aG @TB @jbq @jbu @Vi @Ur)) (aG (aG @Uq @Sq @Ub @Ua @jbd) (aG @jbe @Sr @jd5 @Vd @T1) (aG @TL @TK @jbj @jbk @Tj) (aG @jbh @jle @UT @Vc @T0) (aG @TZ @Z4 @jby @jb0 @jo9))) (aG (aG (aG @Yo @UP @ZZ @jb1 @jb2) (aG @jb3 @jb4 @Z1 @Yp @jhg) (aG @jo5 @jbw @jo4 @jbr @jbs) (aG @T8 @TO @UU @T9 @TJ) (aG @jbz @Uk @Uj @Ui @Uh)) (aG (aG @Ug @UO @UN @UZ @UY) (aG @UI @UH @BZ @UE @TR) (aG @Tb @jd2 @jb5 @TQ @U6) (aG @U5 @US @UR @Ve @Vq) (aG @Vp @Vf @Vs @Vm @U7)) (aG (aG @Va @Fs @E4 @TP @jce) (aG @U4 @jcf @SZ @SY @U3) (aG @ZX @Sj @Si @Tp @To) (aG @Ru @Rq @Ty @TA @Tz) (aG @S6 @S4 @Vh @Vn @Vu)) (aG (aG @Vt @U9 @jcc @UF @Td) (aG @Rx @Fg @Ff @Sh @T3) (aG @S1 @S0 @LS @LR @jb7) (aG @ZV @ZW @jb6 @ZY @ZU) (aG @jb8 @jb9 @jcb @S5 @S3)) (aG (aG @S2 @jca @Ta @S9 @Ut) (aG @S7 @S8 @T4 @ZS @ZR) (aG @jcd @ID @Rv @jlh @ZT) (aG @Bz @jd4 @Sg @Sf @Se) (aG @Sd @vN @Mt @Rw @jd3))) (oN (aG (aG @jli @Sa @R8 @T7 @T6) (aG @Th @Tf @jkc @UK @U0) (aG @Ti @TU @Te @Yq @jci) (aG @ZP @ZO @Uy @UA @Uz) (aG @LQ @OQ @jcg @jcl @ZM)) (aG (aG @Ux @Ts @Tr @Ym @ZL) (aG @T2 @SX @jba @jbb @jbc) (aG @jbf @jbg @jbi @jo7 @jo8) (aG @Z5 @ZN @jch @jcj @jck) (aG @jps @Z3 @Z2 @Z0 @Tx)) (oN (aG @jhh @jbl @R9 @jhi @jlf) (aG @jlg @Sb @Yt @Ys @Yr) @Wu)))
end Go.Proofs.YtapjobndmmkanaaGreat
