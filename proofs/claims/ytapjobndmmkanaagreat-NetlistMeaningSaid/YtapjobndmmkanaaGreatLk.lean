/- R21.Large: its process; the netlist of the greatest one has more than 600 nodes. -/
import Derived.Test.YtapjobndmmkanaaGreatPm
import Derived.Test.YtapjobndmmkanaaGreatQr
import Derived.Test.YtapjobndmmkanaaGreatYs
set_option linter.unusedVariables false
set_option linter.unusedSimpArgs false
set_option maxRecDepth 100000
namespace Go.Proofs.YtapjobndmmkanaaGreat
open Go.Proofs.Tryz
open Go Go.RowKit
def AT(a b:Nat):Ex:=.lU (.lt (.add (.fe a) (.fe b)) (.fe a)) (.fe b) (.add (.fe a) (.fe b))
def Z2:ByteArray:=⟨#[97,98,99,100,101,102,103,104,105,106,107,108,109,110,111,112]⟩
def Z3(i:Nat):ByteArray:=⟨#[114]⟩++Z2.extract i (i+1)
def GU(ag wide i:Nat):ly:=⟨Z3 i,wide,0,AT i ((i+1) % ag),0,⟨#[]⟩,0⟩
def iB(ag wide:Nat):Pr:=⟨⟨#[108,97,114,103,101]⟩,⟨#[97]⟩,(List.range ag).map (GU ag wide),[],[],[]⟩
def gL:Pr:=iB 16 8
def mL(p:Pr)(i:Nat)(gs:Gs):Gs:=
 let r:=fa p (ch p) gs (nth p.ag i).next
 (dh (fun gs k=>jF (mP p) gs (fI p) (nth r.2 k) (bL p 1 i k)) r.1 r.2.length).1
theorem wW(p:Pr)(i:Nat):(eL p (i+1)).gs=mL p i (eL p i).gs:=rfl
def yp7:Gs:=[⟨4,2,10,0,0⟩,⟨2,2,10,0,0⟩,⟨4,3,11,0,0⟩,⟨4,131,132,0,0⟩,⟨6,3,11,131,0⟩,⟨4,4,12,0,0⟩,⟨4,134,135,0,0⟩,⟨6,4,12,134,0⟩,⟨4,5,13,0,0⟩,⟨4,137,138,0,0⟩,⟨6,5,13,137,0⟩,⟨4,6,14,0,0⟩,⟨4,140,141,0,0⟩,⟨6,6,14,140,0⟩,⟨4,7,15,0,0⟩,⟨4,143,144,0,0⟩,⟨6,7,15,143,0⟩,⟨4,8,16,0,0⟩,⟨4,146,147,0,0⟩,⟨6,8,16,146,0⟩,⟨4,9,17,0,0⟩,⟨4,149,150,0,0⟩,⟨1,2,0,0,0⟩,⟨3,130,152,0,0⟩,⟨1,3,0,0,0⟩,⟨6,133,153,154,0⟩,⟨1,4,0,0,0⟩,⟨6,136,155,156,0⟩,⟨1,5,0,0,0⟩,⟨6,139,157,158,0⟩,⟨1,6,0,0,0⟩,⟨6,142,159,160,0⟩,⟨1,7,0,0,0⟩,⟨6,145,161,162,0⟩,⟨1,8,0,0,0⟩,⟨6,148,163,164,0⟩,⟨1,9,0,0,0⟩,⟨6,151,165,166,0⟩,⟨1,167,0,0,0⟩,⟨5,168,10,130,0⟩,⟨5,168,11,133,0⟩,⟨5,168,12,136,0⟩,⟨5,168,13,139,0⟩,⟨5,168,14,142,0⟩,⟨5,168,15,145,0⟩,⟨5,168,16,148,0⟩,⟨5,168,17,151,0⟩]
def yp8:Gs:=[⟨4,10,18,0,0⟩,⟨2,10,18,0,0⟩,⟨4,11,19,0,0⟩,⟨4,178,179,0,0⟩,⟨6,11,19,178,0⟩,⟨4,12,20,0,0⟩,⟨4,181,182,0,0⟩,⟨6,12,20,181,0⟩,⟨4,13,21,0,0⟩,⟨4,184,185,0,0⟩,⟨6,13,21,184,0⟩,⟨4,14,22,0,0⟩,⟨4,187,188,0,0⟩,⟨6,14,22,187,0⟩,⟨4,15,23,0,0⟩,⟨4,190,191,0,0⟩,⟨6,15,23,190,0⟩,⟨4,16,24,0,0⟩,⟨4,193,194,0,0⟩,⟨6,16,24,193,0⟩,⟨4,17,25,0,0⟩,⟨4,196,197,0,0⟩,⟨1,10,0,0,0⟩,⟨3,177,199,0,0⟩,⟨1,11,0,0,0⟩,⟨6,180,200,201,0⟩,⟨1,12,0,0,0⟩,⟨6,183,202,203,0⟩,⟨1,13,0,0,0⟩,⟨6,186,204,205,0⟩,⟨1,14,0,0,0⟩,⟨6,189,206,207,0⟩,⟨1,15,0,0,0⟩,⟨6,192,208,209,0⟩,⟨1,16,0,0,0⟩,⟨6,195,210,211,0⟩,⟨1,17,0,0,0⟩,⟨6,198,212,213,0⟩,⟨1,214,0,0,0⟩,⟨5,215,18,177,0⟩,⟨5,215,19,180,0⟩,⟨5,215,20,183,0⟩,⟨5,215,21,186,0⟩,⟨5,215,22,189,0⟩,⟨5,215,23,192,0⟩,⟨5,215,24,195,0⟩,⟨5,215,25,198,0⟩]
def yp9:Gs:=[⟨4,18,26,0,0⟩,⟨2,18,26,0,0⟩,⟨4,19,27,0,0⟩,⟨4,225,226,0,0⟩,⟨6,19,27,225,0⟩,⟨4,20,28,0,0⟩,⟨4,228,229,0,0⟩,⟨6,20,28,228,0⟩,⟨4,21,29,0,0⟩,⟨4,231,232,0,0⟩,⟨6,21,29,231,0⟩,⟨4,22,30,0,0⟩,⟨4,234,235,0,0⟩,⟨6,22,30,234,0⟩,⟨4,23,31,0,0⟩,⟨4,237,238,0,0⟩,⟨6,23,31,237,0⟩,⟨4,24,32,0,0⟩,⟨4,240,241,0,0⟩,⟨6,24,32,240,0⟩,⟨4,25,33,0,0⟩,⟨4,243,244,0,0⟩,⟨1,18,0,0,0⟩,⟨3,224,246,0,0⟩,⟨1,19,0,0,0⟩,⟨6,227,247,248,0⟩,⟨1,20,0,0,0⟩,⟨6,230,249,250,0⟩,⟨1,21,0,0,0⟩,⟨6,233,251,252,0⟩,⟨1,22,0,0,0⟩,⟨6,236,253,254,0⟩,⟨1,23,0,0,0⟩,⟨6,239,255,256,0⟩,⟨1,24,0,0,0⟩,⟨6,242,257,258,0⟩,⟨1,25,0,0,0⟩,⟨6,245,259,260,0⟩,⟨1,261,0,0,0⟩,⟨5,262,26,224,0⟩,⟨5,262,27,227,0⟩,⟨5,262,28,230,0⟩,⟨5,262,29,233,0⟩,⟨5,262,30,236,0⟩,⟨5,262,31,239,0⟩,⟨5,262,32,242,0⟩,⟨5,262,33,245,0⟩]
def yqa:Gs:=[⟨4,26,34,0,0⟩,⟨2,26,34,0,0⟩,⟨4,27,35,0,0⟩,⟨4,272,273,0,0⟩,⟨6,27,35,272,0⟩,⟨4,28,36,0,0⟩,⟨4,275,276,0,0⟩,⟨6,28,36,275,0⟩,⟨4,29,37,0,0⟩,⟨4,278,279,0,0⟩,⟨6,29,37,278,0⟩,⟨4,30,38,0,0⟩,⟨4,281,282,0,0⟩,⟨6,30,38,281,0⟩,⟨4,31,39,0,0⟩,⟨4,284,285,0,0⟩,⟨6,31,39,284,0⟩,⟨4,32,40,0,0⟩,⟨4,287,288,0,0⟩,⟨6,32,40,287,0⟩,⟨4,33,41,0,0⟩,⟨4,290,291,0,0⟩,⟨1,26,0,0,0⟩,⟨3,271,293,0,0⟩,⟨1,27,0,0,0⟩,⟨6,274,294,295,0⟩,⟨1,28,0,0,0⟩,⟨6,277,296,297,0⟩,⟨1,29,0,0,0⟩,⟨6,280,298,299,0⟩,⟨1,30,0,0,0⟩,⟨6,283,300,301,0⟩,⟨1,31,0,0,0⟩,⟨6,286,302,303,0⟩,⟨1,32,0,0,0⟩,⟨6,289,304,305,0⟩,⟨1,33,0,0,0⟩,⟨6,292,306,307,0⟩,⟨1,308,0,0,0⟩,⟨5,309,34,271,0⟩,⟨5,309,35,274,0⟩,⟨5,309,36,277,0⟩,⟨5,309,37,280,0⟩,⟨5,309,38,283,0⟩,⟨5,309,39,286,0⟩,⟨5,309,40,289,0⟩,⟨5,309,41,292,0⟩]
def yqb:Gs:=[⟨4,34,42,0,0⟩,⟨2,34,42,0,0⟩,⟨4,35,43,0,0⟩,⟨4,319,320,0,0⟩,⟨6,35,43,319,0⟩,⟨4,36,44,0,0⟩,⟨4,322,323,0,0⟩,⟨6,36,44,322,0⟩,⟨4,37,45,0,0⟩,⟨4,325,326,0,0⟩,⟨6,37,45,325,0⟩,⟨4,38,46,0,0⟩,⟨4,328,329,0,0⟩,⟨6,38,46,328,0⟩,⟨4,39,47,0,0⟩,⟨4,331,332,0,0⟩,⟨6,39,47,331,0⟩,⟨4,40,48,0,0⟩,⟨4,334,335,0,0⟩,⟨6,40,48,334,0⟩,⟨4,41,49,0,0⟩,⟨4,337,338,0,0⟩,⟨1,34,0,0,0⟩,⟨3,318,340,0,0⟩,⟨1,35,0,0,0⟩,⟨6,321,341,342,0⟩,⟨1,36,0,0,0⟩,⟨6,324,343,344,0⟩,⟨1,37,0,0,0⟩,⟨6,327,345,346,0⟩,⟨1,38,0,0,0⟩,⟨6,330,347,348,0⟩,⟨1,39,0,0,0⟩,⟨6,333,349,350,0⟩,⟨1,40,0,0,0⟩,⟨6,336,351,352,0⟩,⟨1,41,0,0,0⟩,⟨6,339,353,354,0⟩,⟨1,355,0,0,0⟩,⟨5,356,42,318,0⟩,⟨5,356,43,321,0⟩,⟨5,356,44,324,0⟩,⟨5,356,45,327,0⟩,⟨5,356,46,330,0⟩,⟨5,356,47,333,0⟩,⟨5,356,48,336,0⟩,⟨5,356,49,339,0⟩]
def yqc:Gs:=[⟨4,42,50,0,0⟩,⟨2,42,50,0,0⟩,⟨4,43,51,0,0⟩,⟨4,366,367,0,0⟩,⟨6,43,51,366,0⟩,⟨4,44,52,0,0⟩,⟨4,369,370,0,0⟩,⟨6,44,52,369,0⟩,⟨4,45,53,0,0⟩,⟨4,372,373,0,0⟩,⟨6,45,53,372,0⟩,⟨4,46,54,0,0⟩,⟨4,375,376,0,0⟩,⟨6,46,54,375,0⟩,⟨4,47,55,0,0⟩,⟨4,378,379,0,0⟩,⟨6,47,55,378,0⟩,⟨4,48,56,0,0⟩,⟨4,381,382,0,0⟩,⟨6,48,56,381,0⟩,⟨4,49,57,0,0⟩,⟨4,384,385,0,0⟩,⟨1,42,0,0,0⟩,⟨3,365,387,0,0⟩,⟨1,43,0,0,0⟩,⟨6,368,388,389,0⟩,⟨1,44,0,0,0⟩,⟨6,371,390,391,0⟩,⟨1,45,0,0,0⟩,⟨6,374,392,393,0⟩,⟨1,46,0,0,0⟩,⟨6,377,394,395,0⟩,⟨1,47,0,0,0⟩,⟨6,380,396,397,0⟩,⟨1,48,0,0,0⟩,⟨6,383,398,399,0⟩,⟨1,49,0,0,0⟩,⟨6,386,400,401,0⟩,⟨1,402,0,0,0⟩,⟨5,403,50,365,0⟩,⟨5,403,51,368,0⟩,⟨5,403,52,371,0⟩,⟨5,403,53,374,0⟩,⟨5,403,54,377,0⟩,⟨5,403,55,380,0⟩,⟨5,403,56,383,0⟩,⟨5,403,57,386,0⟩]
def yqd:Gs:=[⟨4,50,58,0,0⟩,⟨2,50,58,0,0⟩,⟨4,51,59,0,0⟩,⟨4,413,414,0,0⟩,⟨6,51,59,413,0⟩,⟨4,52,60,0,0⟩,⟨4,416,417,0,0⟩,⟨6,52,60,416,0⟩,⟨4,53,61,0,0⟩,⟨4,419,420,0,0⟩,⟨6,53,61,419,0⟩,⟨4,54,62,0,0⟩,⟨4,422,423,0,0⟩,⟨6,54,62,422,0⟩,⟨4,55,63,0,0⟩,⟨4,425,426,0,0⟩,⟨6,55,63,425,0⟩,⟨4,56,64,0,0⟩,⟨4,428,429,0,0⟩,⟨6,56,64,428,0⟩,⟨4,57,65,0,0⟩,⟨4,431,432,0,0⟩,⟨1,50,0,0,0⟩,⟨3,412,434,0,0⟩,⟨1,51,0,0,0⟩,⟨6,415,435,436,0⟩,⟨1,52,0,0,0⟩,⟨6,418,437,438,0⟩,⟨1,53,0,0,0⟩,⟨6,421,439,440,0⟩,⟨1,54,0,0,0⟩,⟨6,424,441,442,0⟩,⟨1,55,0,0,0⟩,⟨6,427,443,444,0⟩,⟨1,56,0,0,0⟩,⟨6,430,445,446,0⟩,⟨1,57,0,0,0⟩,⟨6,433,447,448,0⟩,⟨1,449,0,0,0⟩,⟨5,450,58,412,0⟩,⟨5,450,59,415,0⟩,⟨5,450,60,418,0⟩,⟨5,450,61,421,0⟩,⟨5,450,62,424,0⟩,⟨5,450,63,427,0⟩,⟨5,450,64,430,0⟩,⟨5,450,65,433,0⟩]
def yqe:Gs:=[⟨4,58,66,0,0⟩,⟨2,58,66,0,0⟩,⟨4,59,67,0,0⟩,⟨4,460,461,0,0⟩,⟨6,59,67,460,0⟩,⟨4,60,68,0,0⟩,⟨4,463,464,0,0⟩,⟨6,60,68,463,0⟩,⟨4,61,69,0,0⟩,⟨4,466,467,0,0⟩,⟨6,61,69,466,0⟩,⟨4,62,70,0,0⟩,⟨4,469,470,0,0⟩,⟨6,62,70,469,0⟩,⟨4,63,71,0,0⟩,⟨4,472,473,0,0⟩,⟨6,63,71,472,0⟩,⟨4,64,72,0,0⟩,⟨4,475,476,0,0⟩,⟨6,64,72,475,0⟩,⟨4,65,73,0,0⟩,⟨4,478,479,0,0⟩,⟨1,58,0,0,0⟩,⟨3,459,481,0,0⟩,⟨1,59,0,0,0⟩,⟨6,462,482,483,0⟩,⟨1,60,0,0,0⟩,⟨6,465,484,485,0⟩,⟨1,61,0,0,0⟩,⟨6,468,486,487,0⟩,⟨1,62,0,0,0⟩,⟨6,471,488,489,0⟩,⟨1,63,0,0,0⟩,⟨6,474,490,491,0⟩,⟨1,64,0,0,0⟩,⟨6,477,492,493,0⟩,⟨1,65,0,0,0⟩,⟨6,480,494,495,0⟩,⟨1,496,0,0,0⟩,⟨5,497,66,459,0⟩,⟨5,497,67,462,0⟩,⟨5,497,68,465,0⟩,⟨5,497,69,468,0⟩,⟨5,497,70,471,0⟩,⟨5,497,71,474,0⟩,⟨5,497,72,477,0⟩,⟨5,497,73,480,0⟩]
def yqf:Gs:=[⟨4,66,74,0,0⟩,⟨2,66,74,0,0⟩,⟨4,67,75,0,0⟩,⟨4,507,508,0,0⟩,⟨6,67,75,507,0⟩,⟨4,68,76,0,0⟩,⟨4,510,511,0,0⟩,⟨6,68,76,510,0⟩,⟨4,69,77,0,0⟩,⟨4,513,514,0,0⟩,⟨6,69,77,513,0⟩,⟨4,70,78,0,0⟩,⟨4,516,517,0,0⟩,⟨6,70,78,516,0⟩,⟨4,71,79,0,0⟩,⟨4,519,520,0,0⟩,⟨6,71,79,519,0⟩,⟨4,72,80,0,0⟩,⟨4,522,523,0,0⟩,⟨6,72,80,522,0⟩,⟨4,73,81,0,0⟩,⟨4,525,526,0,0⟩,⟨1,66,0,0,0⟩,⟨3,506,528,0,0⟩,⟨1,67,0,0,0⟩,⟨6,509,529,530,0⟩,⟨1,68,0,0,0⟩,⟨6,512,531,532,0⟩,⟨1,69,0,0,0⟩,⟨6,515,533,534,0⟩,⟨1,70,0,0,0⟩,⟨6,518,535,536,0⟩,⟨1,71,0,0,0⟩,⟨6,521,537,538,0⟩,⟨1,72,0,0,0⟩,⟨6,524,539,540,0⟩,⟨1,73,0,0,0⟩,⟨6,527,541,542,0⟩,⟨1,543,0,0,0⟩,⟨5,544,74,506,0⟩,⟨5,544,75,509,0⟩,⟨5,544,76,512,0⟩,⟨5,544,77,515,0⟩,⟨5,544,78,518,0⟩,⟨5,544,79,521,0⟩,⟨5,544,80,524,0⟩,⟨5,544,81,527,0⟩]
def yqg:Gs:=[⟨4,74,82,0,0⟩,⟨2,74,82,0,0⟩,⟨4,75,83,0,0⟩,⟨4,554,555,0,0⟩,⟨6,75,83,554,0⟩,⟨4,76,84,0,0⟩,⟨4,557,558,0,0⟩,⟨6,76,84,557,0⟩,⟨4,77,85,0,0⟩,⟨4,560,561,0,0⟩,⟨6,77,85,560,0⟩,⟨4,78,86,0,0⟩,⟨4,563,564,0,0⟩,⟨6,78,86,563,0⟩,⟨4,79,87,0,0⟩,⟨4,566,567,0,0⟩,⟨6,79,87,566,0⟩,⟨4,80,88,0,0⟩,⟨4,569,570,0,0⟩,⟨6,80,88,569,0⟩,⟨4,81,89,0,0⟩,⟨4,572,573,0,0⟩,⟨1,74,0,0,0⟩,⟨3,553,575,0,0⟩,⟨1,75,0,0,0⟩,⟨6,556,576,577,0⟩,⟨1,76,0,0,0⟩,⟨6,559,578,579,0⟩,⟨1,77,0,0,0⟩,⟨6,562,580,581,0⟩,⟨1,78,0,0,0⟩,⟨6,565,582,583,0⟩,⟨1,79,0,0,0⟩,⟨6,568,584,585,0⟩,⟨1,80,0,0,0⟩,⟨6,571,586,587,0⟩,⟨1,81,0,0,0⟩,⟨6,574,588,589,0⟩,⟨1,590,0,0,0⟩,⟨5,591,82,553,0⟩,⟨5,591,83,556,0⟩,⟨5,591,84,559,0⟩,⟨5,591,85,562,0⟩,⟨5,591,86,565,0⟩,⟨5,591,87,568,0⟩,⟨5,591,88,571,0⟩,⟨5,591,89,574,0⟩]
def ymd:Gs:=[⟨4,82,90,0,0⟩,⟨2,82,90,0,0⟩,⟨4,83,91,0,0⟩,⟨4,601,602,0,0⟩,⟨6,83,91,601,0⟩,⟨4,84,92,0,0⟩,⟨4,604,605,0,0⟩,⟨6,84,92,604,0⟩,⟨4,85,93,0,0⟩,⟨4,607,608,0,0⟩,⟨6,85,93,607,0⟩,⟨4,86,94,0,0⟩,⟨4,610,611,0,0⟩,⟨6,86,94,610,0⟩,⟨4,87,95,0,0⟩,⟨4,613,614,0,0⟩,⟨6,87,95,613,0⟩,⟨4,88,96,0,0⟩,⟨4,616,617,0,0⟩,⟨6,88,96,616,0⟩,⟨4,89,97,0,0⟩,⟨4,619,620,0,0⟩,⟨1,82,0,0,0⟩,⟨3,600,622,0,0⟩,⟨1,83,0,0,0⟩,⟨6,603,623,624,0⟩,⟨1,84,0,0,0⟩,⟨6,606,625,626,0⟩,⟨1,85,0,0,0⟩,⟨6,609,627,628,0⟩,⟨1,86,0,0,0⟩,⟨6,612,629,630,0⟩,⟨1,87,0,0,0⟩,⟨6,615,631,632,0⟩,⟨1,88,0,0,0⟩,⟨6,618,633,634,0⟩,⟨1,89,0,0,0⟩,⟨6,621,635,636,0⟩,⟨1,637,0,0,0⟩,⟨5,638,90,600,0⟩,⟨5,638,91,603,0⟩,⟨5,638,92,606,0⟩,⟨5,638,93,609,0⟩,⟨5,638,94,612,0⟩,⟨5,638,95,615,0⟩,⟨5,638,96,618,0⟩,⟨5,638,97,621,0⟩]
def NA:Gs:=[]
theorem lg0:(eL gL 0).gs=NA:=rfl
def Ks:Gs:=NA++yp7
theorem yqh:mL gL 0 NA=Ks:=by kernel_rfl
theorem lg1:(eL gL 1).gs=Ks:=(wW gL 0).trans ((congrArg (mL gL 0) lg0).trans yqh)
def Kr:Gs:=Ks++yp8
theorem yqi:mL gL 1 Ks=Kr:=by kernel_rfl
theorem lg2:(eL gL 2).gs=Kr:=(wW gL 1).trans ((congrArg (mL gL 1) lg1).trans yqi)
def Kq:Gs:=Kr++yp9
theorem yqj:mL gL 2 Kr=Kq:=by kernel_rfl
theorem lg3:(eL gL 3).gs=Kq:=(wW gL 2).trans ((congrArg (mL gL 2) lg2).trans yqj)
def Ko:Gs:=Kq++yqa
theorem yqk:mL gL 3 Kq=Ko:=by kernel_rfl
theorem lg4:(eL gL 4).gs=Ko:=(wW gL 3).trans ((congrArg (mL gL 3) lg3).trans yqk)
def Kn:Gs:=Ko++yqb
theorem yql:mL gL 4 Ko=Kn:=by kernel_rfl
theorem lg5:(eL gL 5).gs=Kn:=(wW gL 4).trans ((congrArg (mL gL 4) lg4).trans yql)
def Km:Gs:=Kn++yqc
theorem yqm:mL gL 5 Kn=Km:=by kernel_rfl
theorem lg6:(eL gL 6).gs=Km:=(wW gL 5).trans ((congrArg (mL gL 5) lg5).trans yqm)
def JY:Gs:=Km++yqd
theorem yqn:mL gL 6 Km=JY:=by kernel_rfl
theorem lg7:(eL gL 7).gs=JY:=(wW gL 6).trans ((congrArg (mL gL 6) lg6).trans yqn)
def JX:Gs:=JY++yqe
theorem yqo:mL gL 7 JY=JX:=by kernel_rfl
theorem lg8:(eL gL 8).gs=JX:=(wW gL 7).trans ((congrArg (mL gL 7) lg7).trans yqo)
def JW:Gs:=JX++yqf
theorem yqp:mL gL 8 JX=JW:=by kernel_rfl
theorem lg9:(eL gL 9).gs=JW:=(wW gL 8).trans ((congrArg (mL gL 8) lg8).trans yqp)
def KR:Gs:=JW++yqg
theorem ymf:mL gL 9 JW=KR:=by kernel_rfl
theorem yqq:(eL gL 10).gs=KR:=(wW gL 9).trans ((congrArg (mL gL 9) lg9).trans ymf)
def uh:Gs:=KR++ymd
theorem ymg:mL gL 10 KR=uh:=by kernel_rfl
theorem yqr:(eL gL 11).gs=uh:=(wW gL 10).trans ((congrArg (mL gL 10) yqq).trans ymg)
set_option maxHeartbeats 4000000
def rW(n:Net)(e:Int):List D:=eZ n++[iD e]
theorem Ad{p q:Prop}(hq:q)(h:p=q:=by
 conv=>lhs;simp -dsimp -implicitDefEqProofs (disch:=first|assumption|omega|(simp only[aK]<;>omega)|decide) only[aP,↓reduceIte,Nat.reduceEqDiff,Nat.reduceAdd,D.fix,Int.reduceToNat,Nat.reduceMul,Nat.reduceBNe,Nat.reduceBEq,aD,cv,eF,eZ,cH,jf,sD,nS,bw]):p:=h.mpr hq
theorem XL{p q:Prop}(hq:q)(h:p=q:=by
 conv=>lhs;simp -dsimp -implicitDefEqProofs (disch:=first|assumption|omega|(simp only[aK]<;>omega)|decide) only[aP,↓reduceIte,Nat.reduceEqDiff,Nat.reduceAdd,D.fix,Int.reduceToNat,Nat.reduceMul,Nat.reduceBNe,Nat.reduceBEq,aD,cv,eF,eZ,cH,jf,sD,nS,Mj,yjv]):p:=h.mpr hq
theorem WJ{p q:Prop}(hq:q)(h:p=q:=by
 conv=>lhs;simp (disch:=first|assumption|omega|(simp only[aK]<;>omega)|decide) only[gF,Nat.reduceAdd,D.fix,↓reduceIte,Nat.reduceEqDiff,aD,cv,eF,eZ,cH,jf,sD,nS]):p:=h.mpr hq
theorem MQ(p:Pr)(dP:bJ p)(gb:(dN p).length≤1000)(E8:qB p≤80000)(mC:p.mems.length≤100)(hb:¬600<2+(dN p).length+(eV p).aO.length):cC prog 11 [cv p] (.d (.agg (rW (eV p) 0))):=by
 have fy:=jm3 p dP gb E8 mC
 unfold Ft at fy
 rw[if_neg hb]at fy
 refine ez (fn:=f11) (by kernel_rfl) func11 rfl (bN rfl) fun c hc hp=>?_
 refine dG (τ':=aG [(0,.d (cv p))]) (by repeat (first|exact bT _|refine bM ?_ (by first|rfl|(simp[aR];done)|simp[aR, *]))) ?_
 refine aj (Ad ·) ?_
 refine bC hp ax hc rfl fun K2 bG=>?_
 refine Ad ?_
 refine cQ (fy) rfl ?_
 refine Ad ?_
 refine bG _ _ ?_
 refine aj (Ad ·) ?_
 refine bh ?_
 try dsimp only[fb,fc]
 refine iH rfl ?_
 refine XL ?_
 show aC _ _=_
 refine WJ ?_
 simp[rW,eZ,cH,jf,av,iD,D.fix,Jw,jeo]
theorem jm5(p:Pr)(dP:bJ p)(gb:(dN p).length≤1000)(E8:qB p≤80000)(mC:p.mems.length≤100)(hb:600<2+(dN p).length+(eV p).aO.length):cC prog 11 [cv p] (.d (.agg (rW ⟨[],[],[],[]⟩ 2))):=by
 have fy:=jm3 p dP gb E8 mC
 unfold Ft at fy
 rw[if_pos hb]at fy
 refine ez (fn:=f11) (by kernel_rfl) func11 rfl (bN rfl) fun c hc hp=>?_
 refine dG (τ':=aG [(0,.d (cv p))]) (by repeat (first|exact bT _|refine bM ?_ (by first|rfl|(simp[aR];done)|simp[aR, *]))) ?_
 refine aj (Ad ·) ?_
 refine bC hp ax hc rfl fun K2 bG=>?_
 refine Ad ?_
 refine cQ (fy) rfl ?_
 refine Ad ?_
 refine bG _ _ ?_
 refine aj (Ad ·) ?_
 refine bh ?_
 try dsimp only[fb,fc]
 refine iH rfl ?_
 refine XL ?_
 show aC _ _=_
 refine WJ ?_
 rfl
def ug(n w k:Nat):List ly:=(List.range k).map (GU n w)
theorem yhi{n w k:Nat}:((ug n w k).flatMap lH).map D.fix=(ug n w k).flatMap lH:=by
 rw[List.map_flatMap];unfold ug;rw[List.flatMap_map,List.flatMap_map];rfl
theorem yt{n w k:Nat}:(ug n w k).length=k:=by simp[ug]
theorem ymh{n w k:Nat}:ug n w (k+1)=ug n w k++[GU n w k]:=by simp[ug,xt]
def sV:bq:=.cells [.d (sD ⟨#[]⟩),.d (sD ⟨#[]⟩),.d (.val (.slice none 0 0)),.d (.val (.slice none 0 0)),.d (.val (.slice none 0 0)),.d (.val (.slice none 0 0))]
def uf(k:Nat):bq:=.cells [.d (sD ⟨#[108,97,114,103,101]⟩),.d (sD ⟨#[97]⟩),.os 13 2 0 k,.d (.val (.slice none 0 0)),.d (.val (.slice none 0 0)),.d (.val (.slice none 0 0))]
theorem Ac{p q:Prop}(hq:q)(h:p=q:=by
 conv=>lhs;simp -dsimp -implicitDefEqProofs (disch:=first|assumption|omega|(simp only[aK,dK,yt]<;>omega)|decide) only[aP,↓reduceIte,Nat.reduceEqDiff,Nat.reduceAdd,D.fix,Int.reduceToNat,Nat.reduceMul,Nat.reduceBNe,Nat.reduceBEq,aD,cv,sD,nS,cg,k8,bW,sV,uf,List.cons_append,List.nil_append,bw]):p:=h.mpr hq
theorem En(k:List Nat){m:List Nat}{τ τ1:Fr}{H H1:ak}(h:Rt m (fun t=>c7 k (τ t)) (dg k H) τ1 H1)(a:∀i∈m,k[i]? =some i:=by decide)(b:k.Nodup:=by decide)(c:∀i∈k,i<H.length:=by
 simp[eS,dg]):Rt m τ H τ1 H1:=Rt.trans (Rt.gc a b c) h
theorem Em{m:List Nat}{τ τ':Fr}{H H':ak}(h2:H=H')(h:fm τ τ':=by
 repeat (first|exact bT _|refine bM ?_ (by first|rfl|(simp[aR,dK,yt];done)|simp[aR,dK,yt, *]))):Rt m τ H τ' H':=Rt.end h h2
theorem JV{p:Prop}(h:p:=by
 first|rfl|(simp only[cD,Nat.reduceAdd,↓reduceIte,Nat.reduceEqDiff,aD,cv,sD,nS,cg,k8,bW,sV,uf,List.cons_append,List.nil_append];first|done|rfl)):p:=h
theorem WI{p q:Prop}(hq:q)(h:p=q:=by
 conv=>lhs;simp only[cD,Nat.reduceAdd,↓reduceIte,Nat.reduceEqDiff,aD,cv,sD,nS,cg,k8,bW,sV,uf,List.cons_append,List.nil_append]):p:=h.mpr hq
theorem jqm(a b:Nat)(ha:a<256)(hb:b<256):cC prog 10 [.val (.int .u8 a),.val (.int .u8 b)] (.d (cv (iB (1+a % 16) (1+b % 8)))):=by
 obtain⟨n,hn⟩:∃n,n=1+a % 16:=⟨_,rfl⟩
 obtain⟨w,hw⟩:∃w,w=1+b % 8:=⟨_,rfl⟩
 have cZ:1≤n∧n≤16:=by omega
 have th:1≤w∧w≤8:=by omega
 rw[←hn,←hw]
 refine ez (fn:=f10) (by kernel_rfl) func10 rfl (bN rfl) fun c hc hp=>?_
 refine dG (τ':=aG [(0,.d (.val (.int .u8 a))),(1,.d (.val (.int .u8 b)))]) (by repeat (first|exact bT _|refine bM ?_ (by first|rfl|(simp[aR,dK,yt];done)|simp[aR,dK,yt, *]))) ?_
 refine aj (Ac ·) ?_
 refine aj (Ac ·) ?_
 refine aj (Ac ·) ?_
 refine aH fun K4 dD=>?_
 refine bI hp (τ':=aG [(4,.op 0 0),(5,.op 1 0),(6,.d (iD n)),(7,.d (iD w))]) (H':=[sV,.cells [.d (sD ⟨#[108,97,114,103,101]⟩),.d (sD ⟨#[97]⟩),.d (.val (.slice none 0 0)),.d (.val (.slice none 0 0)),.d (.val (.slice none 0 0)),.d (.val (.slice none 0 0))]]) ?_ ?_
 ·refine En [0,1] ?_
  refine Em ?_
  exact JV
 refine bC hp ax hc rfl fun K5 fA=>?_
 simp -dsimp -implicitDefEqProofs (disch:=first|assumption|omega|(simp only[aK,dK,yt]<;>omega)|decide) only[aP,↓reduceIte,Nat.reduceEqDiff,Nat.reduceAdd,D.fix,Int.reduceToNat,Nat.reduceMul,Nat.reduceBNe,Nat.reduceBEq,aD,cv,sD,nS,cg,k8,bW,sV,uf,List.cons_append,List.nil_append]
 refine fA _ _ ?_
 refine aW ?_
 refine c9 hp (fun τ' H' mm=>∃(k:Nat),(k≤n)∧mm=n - k∧H'=[sV,uf k,.cells (au ((ug n w k).flatMap lH))]∧τ'=aG [(4,.op 0 0),(5,.op 1 0),(6,.d (iD n)),(7,.d (iD w)),(8,.d (iD k))]) (n) ?_ ⟨0,cy _,rfl,rfl,rfl⟩ ?_
 ·refine Rt.trans (Rt.gq 1 2 13 rfl rfl) ?_
  refine En [0,1,2] ?_
  refine Em ?_
  refine WI ?_;simp[sV,uf,ug,au,sD]
 rintro τ' H' mm ⟨k,hk,rfl,rfl,rfl⟩
 refine aH fun K6 cF=>?_
 refine aj (Ac ·) ?_
 refine aX rfl (fun ht=>?_) (fun ht=>?_)
 ·have aA:k<n:=by simp at ht;omega
  obtain⟨k',oz⟩:∃k',k'=(k+1) % n:=⟨_,rfl⟩
  have hkn:k'<n:=by rw[oz];exact Nat.mod_lt _ (by omega)
  have hkm:((k:Int)+1) % (n:Int)=(k':Int):=by rw[oz];push_cast;rfl
  have hs9:(⟨#[97,98,99,100,101,102,103,104,105,106,107,108,109,110,111,112]⟩:ByteArray).size=16:=rfl
  have hkt:((k:Int)+1).toNat=k+1:=by omega
  have QP:((⟨#[97,98,99,100,101,102,103,104,105,106,107,108,109,110,111,112]⟩:ByteArray).extract k (k+1)).size≤3:=by rw[ByteArray.size_extract];omega
  refine bB (cF _ _ ?_)
  refine aH fun K8 dC=>?_
  refine aW ?_
  refine eN ax hc mixed rfl (q:=2) (by kernel_rfl) (by kernel_rfl) fun K9 cJ=>?_
  simp -dsimp -implicitDefEqProofs (disch:=first|assumption|omega|(simp only[aK,dK,yt]<;>omega)|decide) only[aP,↓reduceIte,Nat.reduceEqDiff,Nat.reduceAdd,D.fix,Int.reduceToNat,Nat.reduceMul,Nat.reduceBNe,Nat.reduceBEq,aD,cv,sD,nS,cg,k8,bW,sV,uf,List.cons_append,List.nil_append,hkm,bw]
  refine cJ _ _ ?_
  refine bI hp (τ':=aG [(4,.op 0 0),(5,.op 1 0),(6,.d (iD n)),(7,.d (iD w)),(8,.d (iD k)),(9,.op 3 0),(10,.op 4 0)]) (H':=[sV,uf k,.cells (au ((ug n w k).flatMap lH)),.cells (au (bW (.fe k))),.cells (au (bW (.fe k')))]) ?_ ?_
  ·refine Rt.trans (Rt.rF 3 6 rfl rfl) ?_
   refine Rt.trans (Rt.rF 4 6 rfl rfl) ?_
   refine En [0,1,2,3,4] ?_
   refine Em ?_
   exact JV
  refine aj (Ac ·) ?_
  refine bI hp (τ':=aG [(4,.op 0 0),(5,.op 1 0),(6,.d (iD n)),(7,.d (iD w)),(8,.d (iD k)),(9,.op 3 0),(10,.op 4 0),(11,.op 5 0)]) (H':=[sV,uf k,.cells (au ((ug n w k).flatMap lH)),.cells (au (bW (.fe k))),.cells (au (bW (.fe k'))),.cells (au (bW (.add (.fe k) (.fe k'))))]) ?_ ?_
  ·refine Rt.trans (Rt.fz (id:=5) (l:=(bW (.fe k)++bW (.fe k'))) rfl) ?_
   refine En [0,1,2,3,4,6] ?_
   refine Em ?_
   exact JV
  refine aj (Ac ·) ?_
  refine bI hp (τ':=aG [(4,.op 0 0),(5,.op 1 0),(6,.d (iD n)),(7,.d (iD w)),(8,.d (iD k)),(9,.op 3 0),(10,.op 4 0),(11,.op 5 0),(12,.op 6 0)]) (H':=[sV,uf k,.cells (au ((ug n w k).flatMap lH)),.cells (au (bW (.fe k))),.cells (au (bW (.fe k'))),.cells (au (bW (.add (.fe k) (.fe k')))),.cells (au (bW (.lt (.add (.fe k) (.fe k')) (.fe k))))]) ?_ ?_
  ·refine Rt.trans (Rt.fz (id:=6) (l:=(bW (.add (.fe k) (.fe k'))++bW (.fe k))) rfl) ?_
   refine En [0,1,2,3,4,5,7] ?_
   refine Em ?_
   exact JV
  refine uR ax hc mixed rfl (q:=3) (by kernel_rfl) (by kernel_rfl) fun nk cU=>?_
  simp -dsimp -implicitDefEqProofs (disch:=first|assumption|omega|(simp only[aK,dK,yt]<;>omega)|decide) only[aP,↓reduceIte,Nat.reduceEqDiff,Nat.reduceAdd,D.fix,Int.reduceToNat,Nat.reduceMul,Nat.reduceBNe,Nat.reduceBEq,aD,cv,sD,nS,cg,k8,bW,sV,uf,List.cons_append,List.nil_append,hs9,underlying9,hkt,Od QP,bw]
  refine cU _ _ (dC _ _ ?_)
  refine bA hp ax hc rfl fun rN dQ=>?_
  refine Ac ?_
  refine dQ _ _ ⟨_,_,_,?_,⟨k+1,by omega,rfl,rfl,rfl⟩,?_⟩
  ·first|omega|(simp only[List.length_cons];omega)|(dsimp only;omega)
  ·refine En [0,1,9] ?_
   refine Em ?_
   refine WI ?_;rw[ymh];simp[sV,uf,au,sD,GU,lH,AT,oz,Z3,Z2,iD,bW,cg,nS]
 ·have cf:k=n:=by simp at ht;omega
  subst cf
  refine cL (dD _ _ ?_)
  refine aj (Ac ·) ?_
  refine bh ?_
  try dsimp only[fb,fc]
  refine iH rfl ?_
  simp -dsimp -implicitDefEqProofs (disch:=first|assumption|omega|(simp only[aK,dK,yt]<;>omega)|decide) only[aP,↓reduceIte,Nat.reduceEqDiff,Nat.reduceAdd,D.fix,Int.reduceToNat,Nat.reduceMul,Nat.reduceBNe,Nat.reduceBEq,aD,cv,sD,nS,cg,k8,bW,sV,uf,List.cons_append,List.nil_append,zg,F1]
  show aC _ _=_
  simp (disch:=first|assumption|omega|(simp only[aK,dK,yt]<;>omega)|decide) only[gF,Nat.reduceAdd,D.fix,↓reduceIte,Nat.reduceEqDiff,aD,cv,sD,nS,cg,k8,bW,sV,uf,List.cons_append,List.nil_append]
  rw[yhi]
  simp[iB,ug,oX,oW,sb]
section
section
variable {m:Nat} {gs cW:Gs} {x y z:Int}
end
section
variable {n w:Nat}
theorem CL:(iB n w).ag.length=n:=by simp[iB]
theorem JU{i:Nat}(hi:i<n):nth (iB n w).ag i=GU n w i:=tZ hi
theorem G6{i:Nat}(hi:i<n):nth (aI (iB n w)).ag i=w:=by
 unfold aI;simp only;rw[lQ (by rw[CL];exact hi),JU hi];rfl
theorem juj:(aI (iB n w)).ag.length=n:=by simp[aI,iB]
theorem jya{i j:Nat}(hi:i<n)(hj:j<n):bQ (aI (iB n w)) (AT i j)=10*w+1:=by
 simp only[AT,bQ,aM,G6 hi,G6 hj];omega
theorem XK(hn:1≤n):∀k,k≤n→pG (iB n w) k=k*(12*w+1)
 |0,_=>by simp[pG,wP,x9,iB]
 |k+1,hk=>by
  rw[pG,XK hn k (by omega),JU (by omega)]
  show _+(bQ (aI (iB n w)) (AT k ((k+1) % n))+2*w)=_
  rw[jya (by omega) (Nat.mod_lt _ (by omega)),Nat.succ_mul k];omega
theorem jfi(hn:1≤n):qB (iB n w)=n*(12*w+1):=by
 show pG (iB n w) (iB n w).ag.length+0=_
 rw[CL,XK hn n (bm _),Nat.add_zero]
theorem jm7:∀k,k≤n→(eW (iB n w) k).length=k*w
 |0,_=>by simp[eW]
 |k+1,hk=>by rw[eW,List.length_append,cX,jm7 k (by omega),JU (by omega),Nat.succ_mul k];rfl
theorem juk:(dN (iB n w)).length=n*w:=by
 show(eW (iB n w) (iB n w).ag.length).length=_
 rw[CL];exact jm7 n (bm _)
theorem ymi{i j:Nat}(hi:i<n)(hj:j<n){q:Bool}:WT (aI (iB n w)) q (AT i j)∧aM (aI (iB n w)) (AT i j)=w:=by
 have e1:=G6 (w:=w) hi;have e2:=G6 (w:=w) hj
 simp only[AT,WT,aM,e1,e2,juj]
 simp[hi,hj]
theorem XJ(hn:1≤n)(iR:n≤16)(hw:1≤w)(QB:w≤8):bJ (iB n w):=by
 have hc:qB (iB n w)≤100000:=by
  rw[jfi hn]
  have:=Nat.mul_le_mul iR (show 12*w+1≤97 by omega)
  omega
 refine⟨⟨fun i hi=>?_,fun i hi=>?_,fun i hi=>?_,by simp[aI,iB]⟩,fun i hi=>?_,fun i hi=>?_,fun i hi=>?_,fun i hi=>?_,fun i hi=>?_,fun i hi=>?_,fun i hi=>?_,fun i hi=>?_,by rw[CL];omega,by simp[iB],by simp[iB],hc⟩
 ·rw[juj]at hi;rw[G6 hi];exact⟨hw,QB⟩
 ·simp[aI,iB]at hi
 ·simp[aI,iB]at hi
 ·simp[iB]at hi
 ·rw[CL]at hi;rw[JU hi]
  exact ymi hi (Nat.mod_lt _ (by omega))
 all_goals simp[iB]at hi
end
end
end Go.Proofs.YtapjobndmmkanaaGreat
