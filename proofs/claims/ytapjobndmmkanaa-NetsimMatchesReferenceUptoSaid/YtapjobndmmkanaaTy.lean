/- Facts of types, and of the settings. -/
import Derived.Test.YtapjobndmmkanaaAR
import Derived.Test.YtapjobndmmkanaaProg
import Derived.DeepKeys4
set_option linter.unusedVariables false
set_option linter.unusedSimpArgs false
namespace Go.Proofs.Ytapjobndmmkanaa
open Go Go.RowKit
theorem za8 : Try.prog.follows .mixedOrders = true := by kernel_rfl
theorem zev : szO Try.prog 3 = (some 1) := by kernel_rfl
theorem zew : agO Try.prog 3 = (some false) := by kernel_rfl
theorem zuk : zjx Try.prog 3 = (some .i64) := by kernel_rfl
theorem zq0 : szO Try.prog 4 = (some 1) := by kernel_rfl
theorem zq1 : agO Try.prog 4 = (some false) := by kernel_rfl
theorem jq3 : zk6 Try.prog 4 = true := by kernel_rfl
theorem jq4 : szO Try.prog 5 = (some 1) := by kernel_rfl
theorem jq5 : agO Try.prog 5 = (some false) := by kernel_rfl
theorem jya : zjx Try.prog 5 = (some .u8) := by kernel_rfl
theorem zpl : szO Try.prog 22 = (some 1) := by kernel_rfl
theorem zpm : agO Try.prog 22 = (some false) := by kernel_rfl
theorem zpn : elO Try.prog 22 = (some (none, (5, 1))) := by kernel_rfl
theorem jin : szO Try.prog 24 = (some 1) := by kernel_rfl
theorem jio : agO Try.prog 24 = (some true) := by kernel_rfl
theorem jeu : foO Try.prog 24 0 = (some 0) := by kernel_rfl
theorem jtj : szO Try.prog 25 = (some 1) := by kernel_rfl
theorem jtk : agO Try.prog 25 = (some false) := by kernel_rfl
theorem jtl : elO Try.prog 25 = (some (none, (118, 5))) := by kernel_rfl
theorem jtm : szO Try.prog 26 = (some 1) := by kernel_rfl
theorem jtn : agO Try.prog 26 = (some false) := by kernel_rfl
theorem jto : elO Try.prog 26 = (some (none, (96, 4))) := by kernel_rfl
theorem jip : szO Try.prog 28 = (some 3) := by kernel_rfl
theorem jtp : agO Try.prog 28 = (some true) := by kernel_rfl
theorem jev : foO Try.prog 28 0 = (some 0) := by kernel_rfl
theorem jew : foO Try.prog 28 1 = (some 1) := by kernel_rfl
theorem jex : foO Try.prog 28 2 = (some 2) := by kernel_rfl
theorem zdc : szO Try.prog 29 = (some 1) := by kernel_rfl
theorem zdd : agO Try.prog 29 = (some false) := by kernel_rfl
theorem zdh : elO Try.prog 29 = (some (none, (3, 1))) := by kernel_rfl
theorem zfo : mkO Try.prog 29 = (some (1, ([(.val (.int .i64 0))], 8))) := by kernel_rfl
theorem zht : szO Try.prog 30 = (some 1) := by kernel_rfl
theorem zhu : agO Try.prog 30 = (some false) := by kernel_rfl
theorem zkq : elO Try.prog 30 = (some (none, (29, 1))) := by kernel_rfl
theorem zul : mkO Try.prog 30 = (some (1, ([(.val (.slice none 0 0))], 24))) := by kernel_rfl
theorem zum : szO Try.prog 32 = (some 2) := by kernel_rfl
theorem zun : agO Try.prog 32 = (some true) := by kernel_rfl
theorem zfa : foO Try.prog 32 0 = (some 0) := by kernel_rfl
theorem zgo : foO Try.prog 32 1 = (some 1) := by kernel_rfl
theorem zmn : szO Try.prog 33 = (some 1) := by kernel_rfl
theorem zmo : agO Try.prog 33 = (some false) := by kernel_rfl
theorem zpo : elO Try.prog 33 = (some (none, (73, 2))) := by kernel_rfl
theorem jiq : mkO Try.prog 33 = (some (2, ([(.val (.bool false)), (.val (.int .i64 0))], 16))) := by kernel_rfl
theorem zkr : szO Try.prog 34 = (some 1) := by kernel_rfl
theorem zks : agO Try.prog 34 = (some false) := by kernel_rfl
theorem zgy : elO Try.prog 34 = (some (none, (4, 1))) := by kernel_rfl
theorem zhv : mkO Try.prog 34 = (some (1, ([(.val (.bool false))], 1))) := by kernel_rfl
theorem jir : szO Try.prog 36 = (some 2) := by kernel_rfl
theorem jis : agO Try.prog 36 = (some true) := by kernel_rfl
theorem zh8 : foO Try.prog 36 0 = (some 0) := by kernel_rfl
theorem zh9 : foO Try.prog 36 1 = (some 1) := by kernel_rfl
theorem jtq : szO Try.prog 37 = (some 1) := by kernel_rfl
theorem jtr : agO Try.prog 37 = (some false) := by kernel_rfl
theorem jts : zjx Try.prog 37 = (some .i8) := by kernel_rfl
theorem jtt : elO Try.prog 38 = (some ((some 2), (37, 1))) := by kernel_rfl
theorem jtu : szO Try.prog 40 = (some 8) := by kernel_rfl
theorem jtv : agO Try.prog 40 = (some true) := by kernel_rfl
theorem zsd : foO Try.prog 40 0 = (some 0) := by kernel_rfl
theorem zse : foO Try.prog 40 1 = (some 2) := by kernel_rfl
theorem zsf : foO Try.prog 40 2 = (some 4) := by kernel_rfl
theorem jey : foO Try.prog 40 3 = (some 5) := by kernel_rfl
theorem jez : foO Try.prog 40 4 = (some 6) := by kernel_rfl
theorem zfp : szO Try.prog 43 = (some 1) := by kernel_rfl
theorem zfq : agO Try.prog 43 = (some false) := by kernel_rfl
theorem zgz : elO Try.prog 43 = (some (none, (71, 3))) := by kernel_rfl
theorem jbb : mkO Try.prog 43 = (some (3, ([(.val (.int .i64 0)), (.val (.int .i64 0)), (.val (.int .i64 0))], 24))) := by kernel_rfl
theorem zmp : szO Try.prog 44 = (some 1) := by kernel_rfl
theorem zmq : agO Try.prog 44 = (some false) := by kernel_rfl
theorem zpp : elO Try.prog 44 = (some (none, (95, 5))) := by kernel_rfl
theorem jit : mkO Try.prog 44 = (some (5, ([(.val (.int .i64 0)), (.val (.int .i64 0)), (.val (.int .i64 0)), (.val (.int .i64 0)), (.val (.int .i64 0))], 40))) := by kernel_rfl
theorem zhw : szO Try.prog 46 = (some 4) := by kernel_rfl
theorem zjb : agO Try.prog 46 = (some true) := by kernel_rfl
theorem jiu : zcO Try.prog 46 = (some [(.val (.slice none 0 0)), (.val (.slice none 0 0)), (.val (.slice none 0 0)), (.val (.slice none 0 0))]) := by kernel_rfl
theorem zuo : zaO Try.prog 46 = (some [(.val (.slice none 0 0)), (.val (.slice none 0 0)), (.val (.slice none 0 0)), (.val (.slice none 0 0))]) := by kernel_rfl
theorem jiv : zd2 Try.prog 46 = true := by kernel_rfl
theorem zfb : foO Try.prog 46 0 = (some 0) := by kernel_rfl
theorem zsg : plO Try.prog 46 0 = (some (0, 1)) := by kernel_rfl
theorem zia : foO Try.prog 46 1 = (some 1) := by kernel_rfl
theorem je0 : plO Try.prog 46 1 = (some (1, 1)) := by kernel_rfl
theorem zib : foO Try.prog 46 2 = (some 2) := by kernel_rfl
theorem je1 : plO Try.prog 46 2 = (some (2, 1)) := by kernel_rfl
theorem zlh : foO Try.prog 46 3 = (some 3) := by kernel_rfl
theorem je2 : plO Try.prog 46 3 = (some (3, 1)) := by kernel_rfl
theorem jtw : elO Try.prog 49 = (some (none, (46, 4))) := by kernel_rfl
theorem jtx : mkO Try.prog 49 = (some (4, ([(.val (.slice none 0 0)), (.val (.slice none 0 0)), (.val (.slice none 0 0)), (.val (.slice none 0 0))], 96))) := by kernel_rfl
theorem jty : szO Try.prog 51 = (some 2) := by kernel_rfl
theorem jtz : agO Try.prog 51 = (some true) := by kernel_rfl
theorem zmr : elO Try.prog 51 = (some ((some 2), (3, 1))) := by kernel_rfl
theorem zjc : zcO Try.prog 51 = (some [(.val (.int .i64 0)), (.val (.int .i64 0))]) := by kernel_rfl
theorem zjd : zd2 Try.prog 51 = true := by kernel_rfl
theorem zdu : plO Try.prog 51 0 = (some (0, 1)) := by kernel_rfl
theorem zdv : plO Try.prog 51 1 = (some (1, 1)) := by kernel_rfl
theorem jt0 : szO Try.prog 53 = (some 3) := by kernel_rfl
theorem jt1 : agO Try.prog 53 = (some true) := by kernel_rfl
theorem jiw : zcO Try.prog 53 = (some [(.val (.slice none 0 0)), (.val (.int .i64 0)), (.val (.int .i64 0))]) := by kernel_rfl
theorem jt2 : zaO Try.prog 53 = (some [(.val (.slice none 0 0)), (.val (.int .i64 0)), (.val (.int .i64 0))]) := by kernel_rfl
theorem jix : zd2 Try.prog 53 = true := by kernel_rfl
theorem zsh : foO Try.prog 53 0 = (some 0) := by kernel_rfl
theorem zsi : plO Try.prog 53 0 = (some (0, 1)) := by kernel_rfl
theorem zsj : foO Try.prog 53 1 = (some 1) := by kernel_rfl
theorem zsk : plO Try.prog 53 1 = (some (1, 2)) := by kernel_rfl
theorem zoy : szO Try.prog 60 = (some 5) := by kernel_rfl
theorem zsl : agO Try.prog 60 = (some true) := by kernel_rfl
theorem jt3 : zcO Try.prog 60 = (some [(.val (.bool false)), (.val (.slice none 0 0)), (.val (.slice none 0 0)), (.val (.slice none 0 0)), (.val (.slice none 0 0))]) := by kernel_rfl
theorem jbc : zaO Try.prog 60 = (some [(.val (.bool false)), (.val (.slice none 0 0)), (.val (.slice none 0 0)), (.val (.slice none 0 0)), (.val (.slice none 0 0))]) := by kernel_rfl
theorem jt4 : zd2 Try.prog 60 = true := by kernel_rfl
theorem je3 : foO Try.prog 60 0 = (some 0) := by kernel_rfl
theorem zli : foO Try.prog 60 1 = (some 1) := by kernel_rfl
theorem zlj : foO Try.prog 60 2 = (some 3) := by kernel_rfl
theorem zlk : foO Try.prog 60 3 = (some 4) := by kernel_rfl
theorem jt5 : zcO Try.prog 68 = (some [(.val (.slice none 0 0)), (.val (.slice none 0 0))]) := by kernel_rfl
theorem jt6 : zd2 Try.prog 68 = true := by kernel_rfl
theorem je4 : foO Try.prog 68 0 = (some 0) := by kernel_rfl
theorem je5 : plO Try.prog 68 0 = (some (0, 1)) := by kernel_rfl
theorem je6 : foO Try.prog 68 1 = (some 1) := by kernel_rfl
theorem je7 : plO Try.prog 68 1 = (some (1, 1)) := by kernel_rfl
theorem zje : szO Try.prog 71 = (some 3) := by kernel_rfl
theorem zjf : agO Try.prog 71 = (some true) := by kernel_rfl
theorem zms : zcO Try.prog 71 = (some [(.val (.int .i64 0)), (.val (.int .i64 0)), (.val (.int .i64 0))]) := by kernel_rfl
theorem zmt : zaO Try.prog 71 = (some [(.val (.int .i64 0)), (.val (.int .i64 0)), (.val (.int .i64 0))]) := by kernel_rfl
theorem zmu : zd2 Try.prog 71 = true := by kernel_rfl
theorem jt7 : joa Try.prog 71 = (some [(0, false), (1, false), (2, false)]) := by kernel_rfl
theorem zgp : foO Try.prog 71 0 = (some 0) := by kernel_rfl
theorem zfc : plO Try.prog 71 0 = (some (0, 1)) := by kernel_rfl
theorem zic : foO Try.prog 71 1 = (some 1) := by kernel_rfl
theorem zfd : plO Try.prog 71 1 = (some (1, 1)) := by kernel_rfl
theorem zgq : foO Try.prog 71 2 = (some 2) := by kernel_rfl
theorem zfe : plO Try.prog 71 2 = (some (2, 1)) := by kernel_rfl
theorem jbd : szO Try.prog 73 = (some 2) := by kernel_rfl
theorem jbe : agO Try.prog 73 = (some true) := by kernel_rfl
theorem jiy : zcO Try.prog 73 = (some [(.val (.bool false)), (.val (.int .i64 0))]) := by kernel_rfl
theorem jiz : zaO Try.prog 73 = (some [(.val (.bool false)), (.val (.int .i64 0))]) := by kernel_rfl
theorem ji0 : zd2 Try.prog 73 = true := by kernel_rfl
theorem jt8 : joa Try.prog 73 = (some [(0, true), (1, false)]) := by kernel_rfl
theorem zsn : foO Try.prog 73 0 = (some 0) := by kernel_rfl
theorem zso : plO Try.prog 73 0 = (some (0, 1)) := by kernel_rfl
theorem zsp : foO Try.prog 73 1 = (some 1) := by kernel_rfl
theorem zsq : plO Try.prog 73 1 = (some (1, 1)) := by kernel_rfl
theorem zpq : szO Try.prog 76 = (some 1) := by kernel_rfl
theorem zpr : agO Try.prog 76 = (some false) := by kernel_rfl
theorem zup : elO Try.prog 76 = (some (none, (105, 13))) := by kernel_rfl
theorem jt9 : mkO Try.prog 76 = (some (13, ([(.val (.string ⟨#[]⟩)), (.val (.int .i64 0)), (.val (.int .i64 0)), (.val (.int .i64 0)), (.val (.string ⟨#[]⟩)), (.val (.int .i64 0)), (.val (.string ⟨#[]⟩)), (.val (.int .i64 0)), (.val (.string ⟨#[]⟩)), (.val (.slice none 0 0)), (.val (.int .i64 0)), (.val (.string ⟨#[]⟩)), (.val (.int .i64 0))], 160))) := by kernel_rfl
theorem zps : szO Try.prog 77 = (some 1) := by kernel_rfl
theorem zpt : agO Try.prog 77 = (some false) := by kernel_rfl
theorem zuq : elO Try.prog 77 = (some (none, (108, 27))) := by kernel_rfl
theorem jua : mkO Try.prog 77 = (some (27, ([(.val (.string ⟨#[]⟩)), (.val (.int .i64 0)), (.val (.int .i64 0)), (.val (.int .i64 0)), (.val (.string ⟨#[]⟩)), (.val (.int .i64 0)), (.val (.string ⟨#[]⟩)), (.val (.int .i64 0)), (.val (.string ⟨#[]⟩)), (.val (.slice none 0 0)), (.val (.int .i64 0)), (.val (.string ⟨#[]⟩)), (.val (.int .i64 0)), (.val (.string ⟨#[]⟩)), (.val (.int .i64 0)), (.val (.string ⟨#[]⟩)), (.val (.slice none 0 0)), (.val (.int .i64 0)), (.val (.string ⟨#[]⟩)), (.val (.int .i64 0)), (.val (.string ⟨#[]⟩)), (.val (.int .i64 0)), (.val (.string ⟨#[]⟩)), (.val (.slice none 0 0)), (.val (.int .i64 0)), (.val (.string ⟨#[]⟩)), (.val (.int .i64 0))], 352))) := by kernel_rfl
theorem zpu : szO Try.prog 78 = (some 1) := by kernel_rfl
theorem zpv : agO Try.prog 78 = (some false) := by kernel_rfl
theorem zpw : elO Try.prog 78 = (some (none, (110, 9))) := by kernel_rfl
theorem jub : mkO Try.prog 78 = (some (9, ([(.val (.int .i64 0)), (.val (.int .i64 0)), (.val (.int .i64 0)), (.val (.string ⟨#[]⟩)), (.val (.int .i64 0)), (.val (.string ⟨#[]⟩)), (.val (.int .i64 0)), (.val (.string ⟨#[]⟩)), (.val (.slice none 0 0))], 112))) := by kernel_rfl
theorem zpx : szO Try.prog 79 = (some 1) := by kernel_rfl
theorem zpy : agO Try.prog 79 = (some false) := by kernel_rfl
theorem zur : elO Try.prog 79 = (some (none, (112, 16))) := by kernel_rfl
theorem juc : mkO Try.prog 79 = (some (16, ([(.val (.int .i64 0)), (.val (.int .i64 0)), (.val (.int .i64 0)), (.val (.string ⟨#[]⟩)), (.val (.int .i64 0)), (.val (.string ⟨#[]⟩)), (.val (.int .i64 0)), (.val (.string ⟨#[]⟩)), (.val (.slice none 0 0)), (.val (.int .i64 0)), (.val (.string ⟨#[]⟩)), (.val (.int .i64 0)), (.val (.string ⟨#[]⟩)), (.val (.int .i64 0)), (.val (.string ⟨#[]⟩)), (.val (.slice none 0 0))], 208))) := by kernel_rfl
theorem zpz : szO Try.prog 81 = (some 6) := by kernel_rfl
theorem zp0 : agO Try.prog 81 = (some true) := by kernel_rfl
theorem jud : zcO Try.prog 81 = (some [(.val (.string ⟨#[]⟩)), (.val (.string ⟨#[]⟩)), (.val (.slice none 0 0)), (.val (.slice none 0 0)), (.val (.slice none 0 0)), (.val (.slice none 0 0))]) := by kernel_rfl
theorem ji1 : zaO Try.prog 81 = (some [(.val (.string ⟨#[]⟩)), (.val (.string ⟨#[]⟩)), (.val (.slice none 0 0)), (.val (.slice none 0 0)), (.val (.slice none 0 0)), (.val (.slice none 0 0))]) := by kernel_rfl
theorem jue : zd2 Try.prog 81 = true := by kernel_rfl
theorem je8 : plO Try.prog 81 0 = (some (0, 1)) := by kernel_rfl
theorem je9 : plO Try.prog 81 1 = (some (1, 1)) := by kernel_rfl
theorem zgr : foO Try.prog 81 2 = (some 2) := by kernel_rfl
theorem zid : foO Try.prog 81 3 = (some 3) := by kernel_rfl
theorem zgs : foO Try.prog 81 4 = (some 4) := by kernel_rfl
theorem zgt : foO Try.prog 81 5 = (some 5) := by kernel_rfl
theorem jov : szO Try.prog 86 = (some 5) := by kernel_rfl
theorem jzb : agO Try.prog 86 = (some true) := by kernel_rfl
theorem juf : zcO Try.prog 86 = (some [(.val (.slice none 0 0)), (.val (.slice none 0 0)), (.val (.slice none 0 0)), (.val (.slice none 0 0)), (.val (.int .i64 0))]) := by kernel_rfl
theorem jug : zaO Try.prog 86 = (some [(.val (.slice none 0 0)), (.val (.slice none 0 0)), (.val (.slice none 0 0)), (.val (.slice none 0 0)), (.val (.int .i64 0))]) := by kernel_rfl
theorem juh : zd2 Try.prog 86 = true := by kernel_rfl
theorem jfa : ftO Try.prog 86 0 = (some (0, (4, true))) := by kernel_rfl
theorem jfb : plO Try.prog 86 0 = (some (0, 4)) := by kernel_rfl
theorem zus : szO Try.prog 95 = (some 5) := by kernel_rfl
theorem zut : agO Try.prog 95 = (some true) := by kernel_rfl
theorem zmv : zcO Try.prog 95 = (some [(.val (.int .i64 0)), (.val (.int .i64 0)), (.val (.int .i64 0)), (.val (.int .i64 0)), (.val (.int .i64 0))]) := by kernel_rfl
theorem jbf : zaO Try.prog 95 = (some [(.val (.int .i64 0)), (.val (.int .i64 0)), (.val (.int .i64 0)), (.val (.int .i64 0)), (.val (.int .i64 0))]) := by kernel_rfl
theorem zmw : zd2 Try.prog 95 = true := by kernel_rfl
theorem jui : joa Try.prog 95 = (some [(0, false), (1, false), (2, false), (3, false), (4, false)]) := by kernel_rfl
theorem zie : foO Try.prog 95 0 = (some 0) := by kernel_rfl
theorem zff : plO Try.prog 95 0 = (some (0, 1)) := by kernel_rfl
theorem zll : foO Try.prog 95 1 = (some 1) := by kernel_rfl
theorem zfg : plO Try.prog 95 1 = (some (1, 1)) := by kernel_rfl
theorem zlm : foO Try.prog 95 2 = (some 2) := by kernel_rfl
theorem zif : plO Try.prog 95 2 = (some (2, 1)) := by kernel_rfl
theorem zln : foO Try.prog 95 3 = (some 3) := by kernel_rfl
theorem zlo : plO Try.prog 95 3 = (some (3, 1)) := by kernel_rfl
theorem zlp : foO Try.prog 95 4 = (some 4) := by kernel_rfl
theorem jfc : plO Try.prog 95 4 = (some (4, 1)) := by kernel_rfl
theorem juj : szO Try.prog 96 = (some 4) := by kernel_rfl
theorem juk : agO Try.prog 96 = (some true) := by kernel_rfl
theorem jul : elO Try.prog 96 = (some ((some 4), (5, 1))) := by kernel_rfl
theorem jum : zaO Try.prog 96 = (some [(.val (.int .u8 0)), (.val (.int .u8 0)), (.val (.int .u8 0)), (.val (.int .u8 0))]) := by kernel_rfl
theorem jbg : zcO Try.prog 98 = (some [(.val (.int .i64 0)), (.val (.string ⟨#[]⟩))]) := by kernel_rfl
theorem jbh : zd2 Try.prog 98 = true := by kernel_rfl
theorem jfd : foO Try.prog 98 0 = (some 0) := by kernel_rfl
theorem zlq : plO Try.prog 98 0 = (some (0, 1)) := by kernel_rfl
theorem ji2 : szO Try.prog 99 = (some 1) := by kernel_rfl
theorem ji3 : agO Try.prog 99 = (some false) := by kernel_rfl
theorem ji4 : elO Try.prog 99 = (some (none, (101, 7))) := by kernel_rfl
theorem jbi : mkO Try.prog 99 = (some (7, ([(.val (.int .i64 0)), (.val (.string ⟨#[]⟩)), (.val (.int .i64 0)), (.val (.string ⟨#[]⟩)), (.val (.int .i64 0)), (.val (.string ⟨#[]⟩)), (.val (.slice none 0 0))], 96))) := by kernel_rfl
theorem zd6 : szO Try.prog 101 = (some 7) := by kernel_rfl
theorem zel : agO Try.prog 101 = (some true) := by kernel_rfl
theorem zl9 : zcO Try.prog 101 = (some [(.val (.int .i64 0)), (.val (.string ⟨#[]⟩)), (.val (.int .i64 0)), (.val (.string ⟨#[]⟩)), (.val (.int .i64 0)), (.val (.string ⟨#[]⟩)), (.val (.slice none 0 0))]) := by kernel_rfl
theorem zq2 : zaO Try.prog 101 = (some [(.val (.int .i64 0)), (.val (.string ⟨#[]⟩)), (.val (.int .i64 0)), (.val (.string ⟨#[]⟩)), (.val (.int .i64 0)), (.val (.string ⟨#[]⟩)), (.val (.slice none 0 0))]) := by kernel_rfl
theorem zma : zd2 Try.prog 101 = true := by kernel_rfl
theorem znh : foO Try.prog 101 0 = (some 0) := by kernel_rfl
theorem zga : plO Try.prog 101 0 = (some (0, 1)) := by kernel_rfl
theorem zys : foO Try.prog 101 2 = (some 2) := by kernel_rfl
theorem ziw : plO Try.prog 101 2 = (some (2, 2)) := by kernel_rfl
theorem zyt : foO Try.prog 101 3 = (some 4) := by kernel_rfl
theorem zni : plO Try.prog 101 3 = (some (4, 2)) := by kernel_rfl
theorem znj : foO Try.prog 101 4 = (some 6) := by kernel_rfl
theorem zyu : plO Try.prog 101 4 = (some (6, 1)) := by kernel_rfl
theorem jfe : szO Try.prog 103 = (some 3) := by kernel_rfl
theorem jun : agO Try.prog 103 = (some true) := by kernel_rfl
theorem jl5 : zcO Try.prog 103 = (some [(.val (.int .i64 0)), (.val (.string ⟨#[]⟩)), (.val (.int .i64 0))]) := by kernel_rfl
theorem jl6 : zaO Try.prog 103 = (some [(.val (.int .i64 0)), (.val (.string ⟨#[]⟩)), (.val (.int .i64 0))]) := by kernel_rfl
theorem jl7 : zd2 Try.prog 103 = true := by kernel_rfl
theorem zyv : plO Try.prog 103 0 = (some (0, 1)) := by kernel_rfl
theorem zyw : plO Try.prog 103 1 = (some (1, 1)) := by kernel_rfl
theorem zyx : plO Try.prog 103 2 = (some (2, 1)) := by kernel_rfl
theorem jl8 : zcO Try.prog 105 = (some [(.val (.string ⟨#[]⟩)), (.val (.int .i64 0)), (.val (.int .i64 0)), (.val (.int .i64 0)), (.val (.string ⟨#[]⟩)), (.val (.int .i64 0)), (.val (.string ⟨#[]⟩)), (.val (.int .i64 0)), (.val (.string ⟨#[]⟩)), (.val (.slice none 0 0)), (.val (.int .i64 0)), (.val (.string ⟨#[]⟩)), (.val (.int .i64 0))]) := by kernel_rfl
theorem jl9 : zd2 Try.prog 105 = true := by kernel_rfl
theorem zyy : plO Try.prog 105 0 = (some (0, 1)) := by kernel_rfl
theorem zix : foO Try.prog 105 1 = (some 1) := by kernel_rfl
theorem zyz : plO Try.prog 105 1 = (some (1, 1)) := by kernel_rfl
theorem zy0 : plO Try.prog 105 2 = (some (2, 1)) := by kernel_rfl
theorem znk : foO Try.prog 105 3 = (some 3) := by kernel_rfl
theorem zy1 : plO Try.prog 105 4 = (some (10, 3)) := by kernel_rfl
theorem zho : zjx Try.prog 106 = (some .u64) := by kernel_rfl
theorem jma : zcO Try.prog 108 = (some [(.val (.string ⟨#[]⟩)), (.val (.int .i64 0)), (.val (.int .i64 0)), (.val (.int .i64 0)), (.val (.string ⟨#[]⟩)), (.val (.int .i64 0)), (.val (.string ⟨#[]⟩)), (.val (.int .i64 0)), (.val (.string ⟨#[]⟩)), (.val (.slice none 0 0)), (.val (.int .i64 0)), (.val (.string ⟨#[]⟩)), (.val (.int .i64 0)), (.val (.string ⟨#[]⟩)), (.val (.int .i64 0)), (.val (.string ⟨#[]⟩)), (.val (.slice none 0 0)), (.val (.int .i64 0)), (.val (.string ⟨#[]⟩)), (.val (.int .i64 0)), (.val (.string ⟨#[]⟩)), (.val (.int .i64 0)), (.val (.string ⟨#[]⟩)), (.val (.slice none 0 0)), (.val (.int .i64 0)), (.val (.string ⟨#[]⟩)), (.val (.int .i64 0))]) := by kernel_rfl
theorem jmb : zd2 Try.prog 108 = true := by kernel_rfl
theorem zy2 : plO Try.prog 108 0 = (some (0, 1)) := by kernel_rfl
theorem ziy : foO Try.prog 108 1 = (some 1) := by kernel_rfl
theorem zy3 : plO Try.prog 108 1 = (some (1, 1)) := by kernel_rfl
theorem znl : foO Try.prog 108 2 = (some 2) := by kernel_rfl
theorem zy4 : plO Try.prog 108 2 = (some (2, 1)) := by kernel_rfl
theorem znm : foO Try.prog 108 3 = (some 3) := by kernel_rfl
theorem znn : foO Try.prog 108 4 = (some 10) := by kernel_rfl
theorem zno : foO Try.prog 108 5 = (some 17) := by kernel_rfl
theorem zy5 : plO Try.prog 108 6 = (some (24, 3)) := by kernel_rfl
theorem jmc : zcO Try.prog 110 = (some [(.val (.int .i64 0)), (.val (.int .i64 0)), (.val (.int .i64 0)), (.val (.string ⟨#[]⟩)), (.val (.int .i64 0)), (.val (.string ⟨#[]⟩)), (.val (.int .i64 0)), (.val (.string ⟨#[]⟩)), (.val (.slice none 0 0))]) := by kernel_rfl
theorem jmd : zd2 Try.prog 110 = true := by kernel_rfl
theorem zy6 : plO Try.prog 110 0 = (some (0, 1)) := by kernel_rfl
theorem ziz : foO Try.prog 110 1 = (some 1) := by kernel_rfl
theorem zy7 : plO Try.prog 110 1 = (some (1, 1)) := by kernel_rfl
theorem znp : foO Try.prog 110 2 = (some 2) := by kernel_rfl
theorem jme : zcO Try.prog 112 = (some [(.val (.int .i64 0)), (.val (.int .i64 0)), (.val (.int .i64 0)), (.val (.string ⟨#[]⟩)), (.val (.int .i64 0)), (.val (.string ⟨#[]⟩)), (.val (.int .i64 0)), (.val (.string ⟨#[]⟩)), (.val (.slice none 0 0)), (.val (.int .i64 0)), (.val (.string ⟨#[]⟩)), (.val (.int .i64 0)), (.val (.string ⟨#[]⟩)), (.val (.int .i64 0)), (.val (.string ⟨#[]⟩)), (.val (.slice none 0 0))]) := by kernel_rfl
theorem jmf : zd2 Try.prog 112 = true := by kernel_rfl
theorem zy8 : plO Try.prog 112 0 = (some (0, 1)) := by kernel_rfl
theorem zy9 : foO Try.prog 112 1 = (some 1) := by kernel_rfl
theorem zza : plO Try.prog 112 1 = (some (1, 1)) := by kernel_rfl
theorem znq : foO Try.prog 112 2 = (some 2) := by kernel_rfl
theorem znr : foO Try.prog 112 3 = (some 9) := by kernel_rfl
theorem jmg : szO Try.prog 118 = (some 5) := by kernel_rfl
theorem jmh : agO Try.prog 118 = (some true) := by kernel_rfl
theorem jmi : elO Try.prog 118 = (some ((some 5), (5, 1))) := by kernel_rfl
theorem jmj : zaO Try.prog 118 = (some [(.val (.int .u8 0)), (.val (.int .u8 0)), (.val (.int .u8 0)), (.val (.int .u8 0)), (.val (.int .u8 0))]) := by kernel_rfl
theorem jmk : szO Try.prog 119 = (some 1) := by kernel_rfl
theorem jml : agO Try.prog 119 = (some false) := by kernel_rfl
theorem zzb : foO Try.prog 121 1 = (some 1) := by kernel_rfl
theorem jmm : szO Try.prog 122 = (some 12) := by kernel_rfl
theorem jmn : elO Try.prog 122 = (some ((some 6), (121, 2))) := by kernel_rfl
theorem jmo : zaO Try.prog 122 = (some [(.val (.int .i64 0)), (.val .nilFunc), (.val (.int .i64 0)), (.val .nilFunc), (.val (.int .i64 0)), (.val .nilFunc), (.val (.int .i64 0)), (.val .nilFunc), (.val (.int .i64 0)), (.val .nilFunc), (.val (.int .i64 0)), (.val .nilFunc)]) := by kernel_rfl
theorem jmp : zcO Try.prog 134 = (some [(.val (.int .i64 0)), (.val (.int .i64 0))]) := by kernel_rfl
theorem jmq : zd2 Try.prog 134 = true := by kernel_rfl
theorem zzc : plO Try.prog 134 0 = (some (0, 1)) := by kernel_rfl
theorem zzd : plO Try.prog 134 1 = (some (1, 1)) := by kernel_rfl
theorem zg0 : szO Try.prog 143 = (some 4) := by kernel_rfl
theorem zg1 : agO Try.prog 143 = (some true) := by kernel_rfl
theorem zze : zcO Try.prog 143 = (some [(.val (.slice none 0 0)), (.val (.slice none 0 0)), (.val (.slice none 0 0)), (.val (.bool false))]) := by kernel_rfl
theorem zzf : zaO Try.prog 143 = (some [(.val (.slice none 0 0)), (.val (.slice none 0 0)), (.val (.slice none 0 0)), (.val (.bool false))]) := by kernel_rfl
theorem zzg : zd2 Try.prog 143 = true := by kernel_rfl
theorem zi0 : foO Try.prog 143 0 = (some 0) := by kernel_rfl
theorem zzh : plO Try.prog 143 0 = (some (0, 1)) := by kernel_rfl
theorem zns : foO Try.prog 143 1 = (some 1) := by kernel_rfl
theorem zi1 : foO Try.prog 143 2 = (some 2) := by kernel_rfl
theorem zzi : plO Try.prog 143 2 = (some (2, 1)) := by kernel_rfl
theorem zzj : foO Try.prog 143 3 = (some 3) := by kernel_rfl
theorem zzk : plO Try.prog 143 3 = (some (3, 1)) := by kernel_rfl
theorem zgb : szO Try.prog 145 = (some 2) := by kernel_rfl
theorem zgc : agO Try.prog 145 = (some true) := by kernel_rfl
theorem jmr : zcO Try.prog 145 = (some [(.val (.slice none 0 0)), (.val (.int .i64 0))]) := by kernel_rfl
theorem zq3 : zaO Try.prog 145 = (some [(.val (.slice none 0 0)), (.val (.int .i64 0))]) := by kernel_rfl
theorem jms : zd2 Try.prog 145 = true := by kernel_rfl
theorem zzl : foO Try.prog 145 0 = (some 0) := by kernel_rfl
theorem zzm : plO Try.prog 145 0 = (some (0, 1)) := by kernel_rfl
theorem zzn : foO Try.prog 145 1 = (some 1) := by kernel_rfl
theorem zig : szO Try.prog 149 = (some 9) := by kernel_rfl
theorem jff : agO Try.prog 149 = (some true) := by kernel_rfl
theorem zq4 : zcO Try.prog 149 = (some [(.val (.int .i64 0)), (.val (.string ⟨#[]⟩)), (.val (.int .i64 0)), (.val (.string ⟨#[]⟩)), (.val (.int .i64 0)), (.val (.string ⟨#[]⟩)), (.val (.slice none 0 0)), (.val (.slice none 0 0)), (.val (.int .i64 0))]) := by kernel_rfl
theorem zmb : zaO Try.prog 149 = (some [(.val (.int .i64 0)), (.val (.string ⟨#[]⟩)), (.val (.int .i64 0)), (.val (.string ⟨#[]⟩)), (.val (.int .i64 0)), (.val (.string ⟨#[]⟩)), (.val (.slice none 0 0)), (.val (.slice none 0 0)), (.val (.int .i64 0))]) := by kernel_rfl
theorem zq5 : zd2 Try.prog 149 = true := by kernel_rfl
theorem zi2 : foO Try.prog 149 0 = (some 0) := by kernel_rfl
theorem zi3 : plO Try.prog 149 0 = (some (0, 7)) := by kernel_rfl
theorem zi4 : foO Try.prog 149 1 = (some 7) := by kernel_rfl
theorem zi5 : plO Try.prog 149 1 = (some (7, 2)) := by kernel_rfl
theorem ya1 : szO Try.prog 155 = (some 3) := by kernel_rfl
theorem zq6 : elO Try.prog 155 = (some ((some 3), (3, 1))) := by kernel_rfl
theorem zmc : zcO Try.prog 155 = (some [(.val (.int .i64 0)), (.val (.int .i64 0)), (.val (.int .i64 0))]) := by kernel_rfl
theorem zmd : zd2 Try.prog 155 = true := by kernel_rfl
theorem zgd : plO Try.prog 155 0 = (some (0, 1)) := by kernel_rfl
theorem zge : plO Try.prog 155 1 = (some (1, 1)) := by kernel_rfl
theorem zgf : plO Try.prog 155 2 = (some (2, 1)) := by kernel_rfl
theorem zem : szO Try.prog 167 = (some 2) := by kernel_rfl
theorem zen : agO Try.prog 167 = (some true) := by kernel_rfl
theorem jmt : zcO Try.prog 167 = (some [(.val (.int .i64 0)), (.val (.slice none 0 0))]) := by kernel_rfl
theorem jmu : zaO Try.prog 167 = (some [(.val (.int .i64 0)), (.val (.slice none 0 0))]) := by kernel_rfl
theorem jmv : zd2 Try.prog 167 = true := by kernel_rfl
theorem zzo : foO Try.prog 167 0 = (some 0) := by kernel_rfl
theorem zzp : plO Try.prog 167 0 = (some (0, 1)) := by kernel_rfl
theorem znt : foO Try.prog 167 1 = (some 1) := by kernel_rfl
theorem zuu : szO Try.prog 169 = (some 6) := by kernel_rfl
theorem zuv : agO Try.prog 169 = (some true) := by kernel_rfl
theorem jmw : zcO Try.prog 169 = (some [(.val (.int .i64 0)), (.val (.slice none 0 0)), (.val (.slice none 0 0)), (.val (.slice none 0 0)), (.val (.slice none 0 0)), (.val (.int .i64 0))]) := by kernel_rfl
theorem zzq : zaO Try.prog 169 = (some [(.val (.int .i64 0)), (.val (.slice none 0 0)), (.val (.slice none 0 0)), (.val (.slice none 0 0)), (.val (.slice none 0 0)), (.val (.int .i64 0))]) := by kernel_rfl
theorem jmx : zd2 Try.prog 169 = true := by kernel_rfl
theorem znu : foO Try.prog 169 0 = (some 0) := by kernel_rfl
theorem zzr : plO Try.prog 169 0 = (some (0, 2)) := by kernel_rfl
theorem znv : foO Try.prog 169 1 = (some 2) := by kernel_rfl
theorem znw : foO Try.prog 169 2 = (some 3) := by kernel_rfl
theorem znx : foO Try.prog 169 3 = (some 4) := by kernel_rfl
theorem zi6 : foO Try.prog 169 4 = (some 5) := by kernel_rfl
theorem zzs : plO Try.prog 169 4 = (some (5, 1)) := by kernel_rfl
theorem zq7 : szO Try.prog 172 = (some 8) := by kernel_rfl
theorem zq8 : agO Try.prog 172 = (some true) := by kernel_rfl
theorem zzt : zcO Try.prog 172 = (some [(.val (.string ⟨#[]⟩)), (.val (.string ⟨#[]⟩)), (.val (.slice none 0 0)), (.val (.slice none 0 0)), (.val (.slice none 0 0)), (.val (.slice none 0 0)), (.val (.slice none 0 0)), (.val (.slice none 0 0))]) := by kernel_rfl
theorem jmy : zaO Try.prog 172 = (some [(.val (.string ⟨#[]⟩)), (.val (.string ⟨#[]⟩)), (.val (.slice none 0 0)), (.val (.slice none 0 0)), (.val (.slice none 0 0)), (.val (.slice none 0 0)), (.val (.slice none 0 0)), (.val (.slice none 0 0))]) := by kernel_rfl
theorem zzu : zd2 Try.prog 172 = true := by kernel_rfl
theorem zny : foO Try.prog 172 0 = (some 0) := by kernel_rfl
theorem znz : plO Try.prog 172 0 = (some (0, 6)) := by kernel_rfl
theorem zn0 : foO Try.prog 172 1 = (some 6) := by kernel_rfl
theorem zn1 : plO Try.prog 172 1 = (some (6, 1)) := by kernel_rfl
theorem zzv : foO Try.prog 172 2 = (some 7) := by kernel_rfl
theorem zn2 : plO Try.prog 172 2 = (some (7, 1)) := by kernel_rfl
theorem zkt : szO Try.prog 174 = (some 4) := by kernel_rfl
theorem zku : agO Try.prog 174 = (some true) := by kernel_rfl
theorem jmz : zcO Try.prog 174 = (some [(.val (.int .i64 0)), (.val (.slice none 0 0)), (.val (.slice none 0 0)), (.val (.slice none 0 0))]) := by kernel_rfl
theorem zq9 : zaO Try.prog 174 = (some [(.val (.int .i64 0)), (.val (.slice none 0 0)), (.val (.slice none 0 0)), (.val (.slice none 0 0))]) := by kernel_rfl
theorem jm0 : zd2 Try.prog 174 = true := by kernel_rfl
theorem zi7 : foO Try.prog 174 0 = (some 0) := by kernel_rfl
theorem zzw : plO Try.prog 174 0 = (some (0, 2)) := by kernel_rfl
theorem zn3 : foO Try.prog 174 1 = (some 2) := by kernel_rfl
theorem zn4 : foO Try.prog 174 2 = (some 3) := by kernel_rfl
theorem zef : szO Try.prog 177 = (some 3) := by kernel_rfl
theorem zoz : agO Try.prog 177 = (some true) := by kernel_rfl
theorem zjp : zcO Try.prog 177 = (some [(.val (.int .i64 0)), (.val (.slice none 0 0)), (.val (.int .i64 0))]) := by kernel_rfl
theorem zgg : zaO Try.prog 177 = (some [(.val (.int .i64 0)), (.val (.slice none 0 0)), (.val (.int .i64 0))]) := by kernel_rfl
theorem zjq : zd2 Try.prog 177 = true := by kernel_rfl
theorem zex : foO Try.prog 177 0 = (some 0) := by kernel_rfl
theorem zey : plO Try.prog 177 0 = (some (0, 2)) := by kernel_rfl
theorem zdz : foO Try.prog 177 1 = (some 2) := by kernel_rfl
theorem zez : plO Try.prog 177 1 = (some (2, 1)) := by kernel_rfl
theorem zg2 : szO Try.prog 181 = (some 3) := by kernel_rfl
theorem zo0 : agO Try.prog 181 = (some true) := by kernel_rfl
theorem zzx : zcO Try.prog 181 = (some [(.val (.int .i64 0)), (.val (.slice none 0 0)), (.val (.slice none 0 0))]) := by kernel_rfl
theorem zjr : zaO Try.prog 181 = (some [(.val (.int .i64 0)), (.val (.slice none 0 0)), (.val (.slice none 0 0))]) := by kernel_rfl
theorem zzy : zd2 Try.prog 181 = true := by kernel_rfl
theorem ze0 : foO Try.prog 181 0 = (some 0) := by kernel_rfl
theorem zn5 : plO Try.prog 181 0 = (some (0, 2)) := by kernel_rfl
theorem ze1 : foO Try.prog 181 1 = (some 2) := by kernel_rfl
theorem zn6 : plO Try.prog 181 1 = (some (2, 1)) := by kernel_rfl
theorem ya2 : szO Try.prog 192 = (some 1) := by kernel_rfl
theorem jyb : foO Try.prog 196 1 = (some 4) := by kernel_rfl
theorem ya3 : szO Try.prog 219 = (some 1) := by kernel_rfl
theorem zlr : laidOutB Try.prog = true := by kernel_rfl
theorem ycn : Maps.Keyed Try.prog 3 := Maps.int_keyed (q := .i64) (by kernel_rfl)
theorem jzc : Maps.Keyed Try.prog 71 := .of_law (deep_law_laid zlr (m := 3) (by omega) (of_decide_eq_true (by kernel_rfl)) (by kernel_rfl) (by kernel_rfl))
theorem jzd : Maps.Keyed Try.prog 95 := .of_law (deep_law_laid zlr (m := 3) (by omega) (of_decide_eq_true (by kernel_rfl)) (by kernel_rfl) (by kernel_rfl))
theorem juo : Maps.Keyed Try.prog 134 := .of_law (deep_law_laid zlr (m := 3) (by omega) (of_decide_eq_true (by kernel_rfl)) (by kernel_rfl) (by kernel_rfl))
def KT (k : TypeId) : Bool := k == 3 || k == 71 || k == 95 || k == 134
theorem zai (k : TypeId) (h : KT k = true) : Maps.Keyed Try.prog k := by
 simp only [KT, Bool.or_eq_true, beq_iff_eq, or_assoc] at h
 rcases h with rfl | rfl | rfl | rfl
 ·exact ycn
 ·exact jzc
 ·exact jzd
 ·exact juo
theorem sza {a b : Prop} (x : a) (y : b) : a ∧ b := ⟨x, y⟩
section
variable {c : Cx} {sm : List Nat} {Q : Exit → Fr → zad → Prop} {id : Nat} {l : List Oper} {n : Nat} {τ τ' : Fr} {H H' : zad}
theorem szq {y : Code} (hp : Kp c sm) (h : ∀ K : Fr → zad → Prop, K τ' H' → sT Try.prog KT sm l l τ H K) (hq : AWp Try.prog c y Q τ' H') (hn : c.nt = n := by exact hc) (hd : zfv n l = true := by rfl) : AWp Try.prog c (.seq (.region id l.toArray false) y) Q τ H := zag hp zai hn hd fun K hK => h K (hK _ _ hq)
theorem szt {o : Operand} {x y : Code} (h : AWp Try.prog c x Q τ H) (ht : zax τ o = .d (.val (.bool true)) := by rfl) : AWp Try.prog c (.cond o x y) Q τ H := zah ht (fun _ => h) fun e => nomatch e
theorem szf {o : Operand} {x y : Code} (h : AWp Try.prog c y Q τ H) (ht : zax τ o = .d (.val (.bool false)) := by rfl) : AWp Try.prog c (.cond o x y) Q τ H := zah ht (fun e => nomatch e) fun _ => h
theorem szs (hp : Kp c sm) (h : ∀ K : Fr → zad → Prop, K τ' H' → sT Try.prog KT sm l l τ H K) (hq : Q .normal τ' H') (hn : c.nt = n := by exact hc) (hd : zfv n l = true := by rfl) : AWp Try.prog c (.region id l.toArray false) Q τ H := za5 hp zai hn hd fun K hK => h K (hK _ _ hq)
end
end Go.Proofs.Ytapjobndmmkanaa
