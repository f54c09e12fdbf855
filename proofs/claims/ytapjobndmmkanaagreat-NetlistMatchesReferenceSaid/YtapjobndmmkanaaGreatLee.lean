/- R21.Large: its process; the netlist of the greatest one has more than 600 nodes. -/
import Derived.Test.YtapjobndmmkanaaGreatWe
import Derived.Test.YtapjobndmmkanaaGreatQr
import Derived.Test.YtapjobndmmkanaaGreatYs
import Derived.Test.YtapjobndmmkanaaGreatPn
import Derived.Test.YtapjobndmmkanaaGreatLd
set_option linter.unusedVariables false
set_option linter.unusedSimpArgs false
set_option maxRecDepth 100000
namespace Go.Proofs.YtapjobndmmkanaaGreat
open Go.Proofs.Tryz
open Go Go.RowKit
def Ax(a b:Nat):Ex:=.oq (.lt (.add (.gQ a) (.gQ b)) (.gQ a)) (.gQ b) (.add (.gQ a) (.gQ b))
def XK:ByteArray:=⟨#[97,98,99,100,101,102,103,104,105,106,107,108,109,110,111,112]⟩
def XL(i:Nat):ByteArray:=⟨#[114]⟩++XK.extract i (i+1)
def FZ(aC wide i:Nat):mf:=⟨XL i,wide,0,Ax i ((i+1) % aC),0,⟨#[]⟩,0⟩
def iz(aC wide:Nat):Pr:=⟨⟨#[108,97,114,103,101]⟩,⟨#[97]⟩,(List.range aC).map (FZ aC wide),[],[],[]⟩
def gR:Pr:=iz 16 8
def mT(p:Pr)(i:Nat)(gs:Gs):Gs:=
 let r:=dW p (bU p) gs (nth p.aC i).next
 (bL (fun gs k=>hU (mP p) gs (ft p) (nth r.2 k) (cG p 1 i k)) r.1 r.2.length).1
theorem vF(p:Pr)(i:Nat):(fg p (i+1)).gs=mT p i (fg p i).gs:=rfl
def ykf:Gs:=[⟨4,2,10,0,0⟩,⟨2,2,10,0,0⟩,⟨4,3,11,0,0⟩,⟨4,131,132,0,0⟩,⟨6,3,11,131,0⟩,⟨4,4,12,0,0⟩,⟨4,134,135,0,0⟩,⟨6,4,12,134,0⟩,⟨4,5,13,0,0⟩,⟨4,137,138,0,0⟩,⟨6,5,13,137,0⟩,⟨4,6,14,0,0⟩,⟨4,140,141,0,0⟩,⟨6,6,14,140,0⟩,⟨4,7,15,0,0⟩,⟨4,143,144,0,0⟩,⟨6,7,15,143,0⟩,⟨4,8,16,0,0⟩,⟨4,146,147,0,0⟩,⟨6,8,16,146,0⟩,⟨4,9,17,0,0⟩,⟨4,149,150,0,0⟩,⟨1,2,0,0,0⟩,⟨3,130,152,0,0⟩,⟨1,3,0,0,0⟩,⟨6,133,153,154,0⟩,⟨1,4,0,0,0⟩,⟨6,136,155,156,0⟩,⟨1,5,0,0,0⟩,⟨6,139,157,158,0⟩,⟨1,6,0,0,0⟩,⟨6,142,159,160,0⟩,⟨1,7,0,0,0⟩,⟨6,145,161,162,0⟩,⟨1,8,0,0,0⟩,⟨6,148,163,164,0⟩,⟨1,9,0,0,0⟩,⟨6,151,165,166,0⟩,⟨1,167,0,0,0⟩,⟨5,168,10,130,0⟩,⟨5,168,11,133,0⟩,⟨5,168,12,136,0⟩,⟨5,168,13,139,0⟩,⟨5,168,14,142,0⟩,⟨5,168,15,145,0⟩,⟨5,168,16,148,0⟩,⟨5,168,17,151,0⟩]
def ykg:Gs:=[⟨4,10,18,0,0⟩,⟨2,10,18,0,0⟩,⟨4,11,19,0,0⟩,⟨4,178,179,0,0⟩,⟨6,11,19,178,0⟩,⟨4,12,20,0,0⟩,⟨4,181,182,0,0⟩,⟨6,12,20,181,0⟩,⟨4,13,21,0,0⟩,⟨4,184,185,0,0⟩,⟨6,13,21,184,0⟩,⟨4,14,22,0,0⟩,⟨4,187,188,0,0⟩,⟨6,14,22,187,0⟩,⟨4,15,23,0,0⟩,⟨4,190,191,0,0⟩,⟨6,15,23,190,0⟩,⟨4,16,24,0,0⟩,⟨4,193,194,0,0⟩,⟨6,16,24,193,0⟩,⟨4,17,25,0,0⟩,⟨4,196,197,0,0⟩,⟨1,10,0,0,0⟩,⟨3,177,199,0,0⟩,⟨1,11,0,0,0⟩,⟨6,180,200,201,0⟩,⟨1,12,0,0,0⟩,⟨6,183,202,203,0⟩,⟨1,13,0,0,0⟩,⟨6,186,204,205,0⟩,⟨1,14,0,0,0⟩,⟨6,189,206,207,0⟩,⟨1,15,0,0,0⟩,⟨6,192,208,209,0⟩,⟨1,16,0,0,0⟩,⟨6,195,210,211,0⟩,⟨1,17,0,0,0⟩,⟨6,198,212,213,0⟩,⟨1,214,0,0,0⟩,⟨5,215,18,177,0⟩,⟨5,215,19,180,0⟩,⟨5,215,20,183,0⟩,⟨5,215,21,186,0⟩,⟨5,215,22,189,0⟩,⟨5,215,23,192,0⟩,⟨5,215,24,195,0⟩,⟨5,215,25,198,0⟩]
def ykh:Gs:=[⟨4,18,26,0,0⟩,⟨2,18,26,0,0⟩,⟨4,19,27,0,0⟩,⟨4,225,226,0,0⟩,⟨6,19,27,225,0⟩,⟨4,20,28,0,0⟩,⟨4,228,229,0,0⟩,⟨6,20,28,228,0⟩,⟨4,21,29,0,0⟩,⟨4,231,232,0,0⟩,⟨6,21,29,231,0⟩,⟨4,22,30,0,0⟩,⟨4,234,235,0,0⟩,⟨6,22,30,234,0⟩,⟨4,23,31,0,0⟩,⟨4,237,238,0,0⟩,⟨6,23,31,237,0⟩,⟨4,24,32,0,0⟩,⟨4,240,241,0,0⟩,⟨6,24,32,240,0⟩,⟨4,25,33,0,0⟩,⟨4,243,244,0,0⟩,⟨1,18,0,0,0⟩,⟨3,224,246,0,0⟩,⟨1,19,0,0,0⟩,⟨6,227,247,248,0⟩,⟨1,20,0,0,0⟩,⟨6,230,249,250,0⟩,⟨1,21,0,0,0⟩,⟨6,233,251,252,0⟩,⟨1,22,0,0,0⟩,⟨6,236,253,254,0⟩,⟨1,23,0,0,0⟩,⟨6,239,255,256,0⟩,⟨1,24,0,0,0⟩,⟨6,242,257,258,0⟩,⟨1,25,0,0,0⟩,⟨6,245,259,260,0⟩,⟨1,261,0,0,0⟩,⟨5,262,26,224,0⟩,⟨5,262,27,227,0⟩,⟨5,262,28,230,0⟩,⟨5,262,29,233,0⟩,⟨5,262,30,236,0⟩,⟨5,262,31,239,0⟩,⟨5,262,32,242,0⟩,⟨5,262,33,245,0⟩]
def yki:Gs:=[⟨4,26,34,0,0⟩,⟨2,26,34,0,0⟩,⟨4,27,35,0,0⟩,⟨4,272,273,0,0⟩,⟨6,27,35,272,0⟩,⟨4,28,36,0,0⟩,⟨4,275,276,0,0⟩,⟨6,28,36,275,0⟩,⟨4,29,37,0,0⟩,⟨4,278,279,0,0⟩,⟨6,29,37,278,0⟩,⟨4,30,38,0,0⟩,⟨4,281,282,0,0⟩,⟨6,30,38,281,0⟩,⟨4,31,39,0,0⟩,⟨4,284,285,0,0⟩,⟨6,31,39,284,0⟩,⟨4,32,40,0,0⟩,⟨4,287,288,0,0⟩,⟨6,32,40,287,0⟩,⟨4,33,41,0,0⟩,⟨4,290,291,0,0⟩,⟨1,26,0,0,0⟩,⟨3,271,293,0,0⟩,⟨1,27,0,0,0⟩,⟨6,274,294,295,0⟩,⟨1,28,0,0,0⟩,⟨6,277,296,297,0⟩,⟨1,29,0,0,0⟩,⟨6,280,298,299,0⟩,⟨1,30,0,0,0⟩,⟨6,283,300,301,0⟩,⟨1,31,0,0,0⟩,⟨6,286,302,303,0⟩,⟨1,32,0,0,0⟩,⟨6,289,304,305,0⟩,⟨1,33,0,0,0⟩,⟨6,292,306,307,0⟩,⟨1,308,0,0,0⟩,⟨5,309,34,271,0⟩,⟨5,309,35,274,0⟩,⟨5,309,36,277,0⟩,⟨5,309,37,280,0⟩,⟨5,309,38,283,0⟩,⟨5,309,39,286,0⟩,⟨5,309,40,289,0⟩,⟨5,309,41,292,0⟩]
def ykj:Gs:=[⟨4,34,42,0,0⟩,⟨2,34,42,0,0⟩,⟨4,35,43,0,0⟩,⟨4,319,320,0,0⟩,⟨6,35,43,319,0⟩,⟨4,36,44,0,0⟩,⟨4,322,323,0,0⟩,⟨6,36,44,322,0⟩,⟨4,37,45,0,0⟩,⟨4,325,326,0,0⟩,⟨6,37,45,325,0⟩,⟨4,38,46,0,0⟩,⟨4,328,329,0,0⟩,⟨6,38,46,328,0⟩,⟨4,39,47,0,0⟩,⟨4,331,332,0,0⟩,⟨6,39,47,331,0⟩,⟨4,40,48,0,0⟩,⟨4,334,335,0,0⟩,⟨6,40,48,334,0⟩,⟨4,41,49,0,0⟩,⟨4,337,338,0,0⟩,⟨1,34,0,0,0⟩,⟨3,318,340,0,0⟩,⟨1,35,0,0,0⟩,⟨6,321,341,342,0⟩,⟨1,36,0,0,0⟩,⟨6,324,343,344,0⟩,⟨1,37,0,0,0⟩,⟨6,327,345,346,0⟩,⟨1,38,0,0,0⟩,⟨6,330,347,348,0⟩,⟨1,39,0,0,0⟩,⟨6,333,349,350,0⟩,⟨1,40,0,0,0⟩,⟨6,336,351,352,0⟩,⟨1,41,0,0,0⟩,⟨6,339,353,354,0⟩,⟨1,355,0,0,0⟩,⟨5,356,42,318,0⟩,⟨5,356,43,321,0⟩,⟨5,356,44,324,0⟩,⟨5,356,45,327,0⟩,⟨5,356,46,330,0⟩,⟨5,356,47,333,0⟩,⟨5,356,48,336,0⟩,⟨5,356,49,339,0⟩]
def ykk:Gs:=[⟨4,42,50,0,0⟩,⟨2,42,50,0,0⟩,⟨4,43,51,0,0⟩,⟨4,366,367,0,0⟩,⟨6,43,51,366,0⟩,⟨4,44,52,0,0⟩,⟨4,369,370,0,0⟩,⟨6,44,52,369,0⟩,⟨4,45,53,0,0⟩,⟨4,372,373,0,0⟩,⟨6,45,53,372,0⟩,⟨4,46,54,0,0⟩,⟨4,375,376,0,0⟩,⟨6,46,54,375,0⟩,⟨4,47,55,0,0⟩,⟨4,378,379,0,0⟩,⟨6,47,55,378,0⟩,⟨4,48,56,0,0⟩,⟨4,381,382,0,0⟩,⟨6,48,56,381,0⟩,⟨4,49,57,0,0⟩,⟨4,384,385,0,0⟩,⟨1,42,0,0,0⟩,⟨3,365,387,0,0⟩,⟨1,43,0,0,0⟩,⟨6,368,388,389,0⟩,⟨1,44,0,0,0⟩,⟨6,371,390,391,0⟩,⟨1,45,0,0,0⟩,⟨6,374,392,393,0⟩,⟨1,46,0,0,0⟩,⟨6,377,394,395,0⟩,⟨1,47,0,0,0⟩,⟨6,380,396,397,0⟩,⟨1,48,0,0,0⟩,⟨6,383,398,399,0⟩,⟨1,49,0,0,0⟩,⟨6,386,400,401,0⟩,⟨1,402,0,0,0⟩,⟨5,403,50,365,0⟩,⟨5,403,51,368,0⟩,⟨5,403,52,371,0⟩,⟨5,403,53,374,0⟩,⟨5,403,54,377,0⟩,⟨5,403,55,380,0⟩,⟨5,403,56,383,0⟩,⟨5,403,57,386,0⟩]
def ykl:Gs:=[⟨4,50,58,0,0⟩,⟨2,50,58,0,0⟩,⟨4,51,59,0,0⟩,⟨4,413,414,0,0⟩,⟨6,51,59,413,0⟩,⟨4,52,60,0,0⟩,⟨4,416,417,0,0⟩,⟨6,52,60,416,0⟩,⟨4,53,61,0,0⟩,⟨4,419,420,0,0⟩,⟨6,53,61,419,0⟩,⟨4,54,62,0,0⟩,⟨4,422,423,0,0⟩,⟨6,54,62,422,0⟩,⟨4,55,63,0,0⟩,⟨4,425,426,0,0⟩,⟨6,55,63,425,0⟩,⟨4,56,64,0,0⟩,⟨4,428,429,0,0⟩,⟨6,56,64,428,0⟩,⟨4,57,65,0,0⟩,⟨4,431,432,0,0⟩,⟨1,50,0,0,0⟩,⟨3,412,434,0,0⟩,⟨1,51,0,0,0⟩,⟨6,415,435,436,0⟩,⟨1,52,0,0,0⟩,⟨6,418,437,438,0⟩,⟨1,53,0,0,0⟩,⟨6,421,439,440,0⟩,⟨1,54,0,0,0⟩,⟨6,424,441,442,0⟩,⟨1,55,0,0,0⟩,⟨6,427,443,444,0⟩,⟨1,56,0,0,0⟩,⟨6,430,445,446,0⟩,⟨1,57,0,0,0⟩,⟨6,433,447,448,0⟩,⟨1,449,0,0,0⟩,⟨5,450,58,412,0⟩,⟨5,450,59,415,0⟩,⟨5,450,60,418,0⟩,⟨5,450,61,421,0⟩,⟨5,450,62,424,0⟩,⟨5,450,63,427,0⟩,⟨5,450,64,430,0⟩,⟨5,450,65,433,0⟩]
def ykm:Gs:=[⟨4,58,66,0,0⟩,⟨2,58,66,0,0⟩,⟨4,59,67,0,0⟩,⟨4,460,461,0,0⟩,⟨6,59,67,460,0⟩,⟨4,60,68,0,0⟩,⟨4,463,464,0,0⟩,⟨6,60,68,463,0⟩,⟨4,61,69,0,0⟩,⟨4,466,467,0,0⟩,⟨6,61,69,466,0⟩,⟨4,62,70,0,0⟩,⟨4,469,470,0,0⟩,⟨6,62,70,469,0⟩,⟨4,63,71,0,0⟩,⟨4,472,473,0,0⟩,⟨6,63,71,472,0⟩,⟨4,64,72,0,0⟩,⟨4,475,476,0,0⟩,⟨6,64,72,475,0⟩,⟨4,65,73,0,0⟩,⟨4,478,479,0,0⟩,⟨1,58,0,0,0⟩,⟨3,459,481,0,0⟩,⟨1,59,0,0,0⟩,⟨6,462,482,483,0⟩,⟨1,60,0,0,0⟩,⟨6,465,484,485,0⟩,⟨1,61,0,0,0⟩,⟨6,468,486,487,0⟩,⟨1,62,0,0,0⟩,⟨6,471,488,489,0⟩,⟨1,63,0,0,0⟩,⟨6,474,490,491,0⟩,⟨1,64,0,0,0⟩,⟨6,477,492,493,0⟩,⟨1,65,0,0,0⟩,⟨6,480,494,495,0⟩,⟨1,496,0,0,0⟩,⟨5,497,66,459,0⟩,⟨5,497,67,462,0⟩,⟨5,497,68,465,0⟩,⟨5,497,69,468,0⟩,⟨5,497,70,471,0⟩,⟨5,497,71,474,0⟩,⟨5,497,72,477,0⟩,⟨5,497,73,480,0⟩]
def ykn:Gs:=[⟨4,66,74,0,0⟩,⟨2,66,74,0,0⟩,⟨4,67,75,0,0⟩,⟨4,507,508,0,0⟩,⟨6,67,75,507,0⟩,⟨4,68,76,0,0⟩,⟨4,510,511,0,0⟩,⟨6,68,76,510,0⟩,⟨4,69,77,0,0⟩,⟨4,513,514,0,0⟩,⟨6,69,77,513,0⟩,⟨4,70,78,0,0⟩,⟨4,516,517,0,0⟩,⟨6,70,78,516,0⟩,⟨4,71,79,0,0⟩,⟨4,519,520,0,0⟩,⟨6,71,79,519,0⟩,⟨4,72,80,0,0⟩,⟨4,522,523,0,0⟩,⟨6,72,80,522,0⟩,⟨4,73,81,0,0⟩,⟨4,525,526,0,0⟩,⟨1,66,0,0,0⟩,⟨3,506,528,0,0⟩,⟨1,67,0,0,0⟩,⟨6,509,529,530,0⟩,⟨1,68,0,0,0⟩,⟨6,512,531,532,0⟩,⟨1,69,0,0,0⟩,⟨6,515,533,534,0⟩,⟨1,70,0,0,0⟩,⟨6,518,535,536,0⟩,⟨1,71,0,0,0⟩,⟨6,521,537,538,0⟩,⟨1,72,0,0,0⟩,⟨6,524,539,540,0⟩,⟨1,73,0,0,0⟩,⟨6,527,541,542,0⟩,⟨1,543,0,0,0⟩,⟨5,544,74,506,0⟩,⟨5,544,75,509,0⟩,⟨5,544,76,512,0⟩,⟨5,544,77,515,0⟩,⟨5,544,78,518,0⟩,⟨5,544,79,521,0⟩,⟨5,544,80,524,0⟩,⟨5,544,81,527,0⟩]
def yko:Gs:=[⟨4,74,82,0,0⟩,⟨2,74,82,0,0⟩,⟨4,75,83,0,0⟩,⟨4,554,555,0,0⟩,⟨6,75,83,554,0⟩,⟨4,76,84,0,0⟩,⟨4,557,558,0,0⟩,⟨6,76,84,557,0⟩,⟨4,77,85,0,0⟩,⟨4,560,561,0,0⟩,⟨6,77,85,560,0⟩,⟨4,78,86,0,0⟩,⟨4,563,564,0,0⟩,⟨6,78,86,563,0⟩,⟨4,79,87,0,0⟩,⟨4,566,567,0,0⟩,⟨6,79,87,566,0⟩,⟨4,80,88,0,0⟩,⟨4,569,570,0,0⟩,⟨6,80,88,569,0⟩,⟨4,81,89,0,0⟩,⟨4,572,573,0,0⟩,⟨1,74,0,0,0⟩,⟨3,553,575,0,0⟩,⟨1,75,0,0,0⟩,⟨6,556,576,577,0⟩,⟨1,76,0,0,0⟩,⟨6,559,578,579,0⟩,⟨1,77,0,0,0⟩,⟨6,562,580,581,0⟩,⟨1,78,0,0,0⟩,⟨6,565,582,583,0⟩,⟨1,79,0,0,0⟩,⟨6,568,584,585,0⟩,⟨1,80,0,0,0⟩,⟨6,571,586,587,0⟩,⟨1,81,0,0,0⟩,⟨6,574,588,589,0⟩,⟨1,590,0,0,0⟩,⟨5,591,82,553,0⟩,⟨5,591,83,556,0⟩,⟨5,591,84,559,0⟩,⟨5,591,85,562,0⟩,⟨5,591,86,565,0⟩,⟨5,591,87,568,0⟩,⟨5,591,88,571,0⟩,⟨5,591,89,574,0⟩]
def ygu:Gs:=[⟨4,82,90,0,0⟩,⟨2,82,90,0,0⟩,⟨4,83,91,0,0⟩,⟨4,601,602,0,0⟩,⟨6,83,91,601,0⟩,⟨4,84,92,0,0⟩,⟨4,604,605,0,0⟩,⟨6,84,92,604,0⟩,⟨4,85,93,0,0⟩,⟨4,607,608,0,0⟩,⟨6,85,93,607,0⟩,⟨4,86,94,0,0⟩,⟨4,610,611,0,0⟩,⟨6,86,94,610,0⟩,⟨4,87,95,0,0⟩,⟨4,613,614,0,0⟩,⟨6,87,95,613,0⟩,⟨4,88,96,0,0⟩,⟨4,616,617,0,0⟩,⟨6,88,96,616,0⟩,⟨4,89,97,0,0⟩,⟨4,619,620,0,0⟩,⟨1,82,0,0,0⟩,⟨3,600,622,0,0⟩,⟨1,83,0,0,0⟩,⟨6,603,623,624,0⟩,⟨1,84,0,0,0⟩,⟨6,606,625,626,0⟩,⟨1,85,0,0,0⟩,⟨6,609,627,628,0⟩,⟨1,86,0,0,0⟩,⟨6,612,629,630,0⟩,⟨1,87,0,0,0⟩,⟨6,615,631,632,0⟩,⟨1,88,0,0,0⟩,⟨6,618,633,634,0⟩,⟨1,89,0,0,0⟩,⟨6,621,635,636,0⟩,⟨1,637,0,0,0⟩,⟨5,638,90,600,0⟩,⟨5,638,91,603,0⟩,⟨5,638,92,606,0⟩,⟨5,638,93,609,0⟩,⟨5,638,94,612,0⟩,⟨5,638,95,615,0⟩,⟨5,638,96,618,0⟩,⟨5,638,97,621,0⟩]
def ML:Gs:=[]
theorem lg0:(fg gR 0).gs=ML:=rfl
def Jb:Gs:=ML++ykf
theorem ykp:mT gR 0 ML=Jb:=by kernel_rfl
theorem lg1:(fg gR 1).gs=Jb:=(vF gR 0).trans ((congrArg (mT gR 0) lg0).trans ykp)
def Ja:Gs:=Jb++ykg
theorem ykq:mT gR 1 Jb=Ja:=by kernel_rfl
theorem lg2:(fg gR 2).gs=Ja:=(vF gR 1).trans ((congrArg (mT gR 1) lg1).trans ykq)
def JI:Gs:=Ja++ykh
theorem ykr:mT gR 2 Ja=JI:=by kernel_rfl
theorem lg3:(fg gR 3).gs=JI:=(vF gR 2).trans ((congrArg (mT gR 2) lg2).trans ykr)
def JH:Gs:=JI++yki
theorem yks:mT gR 3 JI=JH:=by kernel_rfl
theorem lg4:(fg gR 4).gs=JH:=(vF gR 3).trans ((congrArg (mT gR 3) lg3).trans yks)
def JG:Gs:=JH++ykj
theorem ykt:mT gR 4 JH=JG:=by kernel_rfl
theorem lg5:(fg gR 5).gs=JG:=(vF gR 4).trans ((congrArg (mT gR 4) lg4).trans ykt)
def JF:Gs:=JG++ykk
theorem yku:mT gR 5 JG=JF:=by kernel_rfl
theorem lg6:(fg gR 6).gs=JF:=(vF gR 5).trans ((congrArg (mT gR 5) lg5).trans yku)
def JE:Gs:=JF++ykl
theorem ykv:mT gR 6 JF=JE:=by kernel_rfl
theorem lg7:(fg gR 7).gs=JE:=(vF gR 6).trans ((congrArg (mT gR 6) lg6).trans ykv)
def JD:Gs:=JE++ykm
theorem ykw:mT gR 7 JE=JD:=by kernel_rfl
theorem lg8:(fg gR 8).gs=JD:=(vF gR 7).trans ((congrArg (mT gR 7) lg7).trans ykw)
def JC:Gs:=JD++ykn
theorem ykx:mT gR 8 JD=JC:=by kernel_rfl
theorem lg9:(fg gR 9).gs=JC:=(vF gR 8).trans ((congrArg (mT gR 8) lg8).trans ykx)
def J5:Gs:=JC++yko
theorem ygw:mT gR 9 JC=J5:=by kernel_rfl
theorem yky:(fg gR 10).gs=J5:=(vF gR 9).trans ((congrArg (mT gR 9) lg9).trans ygw)
def tA:Gs:=J5++ygu
theorem ygx:mT gR 10 J5=tA:=by kernel_rfl
theorem ykz:(fg gR 11).gs=tA:=(vF gR 10).trans ((congrArg (mT gR 10) yky).trans ygx)
set_option maxHeartbeats 4000000
def oB(n:Net)(e:Int):List D:=dp n++[iD e]
theorem zF{p q:Prop}(hq:q)(h:p=q:=by
 conv=>lhs;simp -dsimp -implicitDefEqProofs (disch:=first|assumption|omega|(simp only[aH]<;>omega)|decide) only[aN,↓reduceIte,Nat.reduceEqDiff,Nat.reduceAdd,D.fix,Int.reduceToNat,Nat.reduceMul,Nat.reduceBNe,Nat.reduceBEq,aK,dI,dt,dp,bQ,bt,sD,nS,bw]):p:=h.mpr hq
theorem WV{p q:Prop}(hq:q)(h:p=q:=by
 conv=>lhs;simp -dsimp -implicitDefEqProofs (disch:=first|assumption|omega|(simp only[aH]<;>omega)|decide) only[aN,↓reduceIte,Nat.reduceEqDiff,Nat.reduceAdd,D.fix,Int.reduceToNat,Nat.reduceMul,Nat.reduceBNe,Nat.reduceBEq,aK,dI,dt,dp,bQ,bt,sD,nS,ID,Yn]):p:=h.mpr hq
theorem VB{p q:Prop}(hq:q)(h:p=q:=by
 conv=>lhs;simp (disch:=first|assumption|omega|(simp only[aH]<;>omega)|decide) only[fA,Nat.reduceAdd,D.fix,↓reduceIte,Nat.reduceEqDiff,aK,dI,dt,dp,bQ,bt,sD,nS]):p:=h.mpr hq
theorem IH(p:Pr)(eZ:cB p)(gL:(aU p).length≤1000)(nQ:oG p≤80000)(p9:p.au.length≤100)(hb:¬600<2+(aU p).length+(kh p).gates.length):dq prog 11 [dI p] (.d (.agg (oB (kh p) 0))):=by
 have c8:=jj2 p eZ gL nQ p9
 unfold EO at c8
 rw[if_neg hb]at c8
 refine fh (fn:=f11) (by kernel_rfl) func11 rfl (cn rfl) fun c hc hp=>?_
 refine dY (τ':=aF [(0,.d (dI p))]) (by repeat (first|exact cw _|refine cg ?_ (by first|rfl|(simp[aX];done)|simp[aX, *]))) ?_
 refine ah (zF ·) ?_
 refine aZ hp ax hc rfl fun K2 bS=>?_
 refine zF ?_
 refine bx (c8) rfl ?_
 refine zF ?_
 refine bS _ _ ?_
 refine ah (zF ·) ?_
 refine aM ?_
 try dsimp only[cC,cI]
 refine cS rfl ?_
 refine WV ?_
 show ai _ _=_
 refine VB ?_
 simp[oB,dp,bQ,bt,ae,iD,D.fix,jcm,L6]
theorem Rm(p:Pr)(eZ:cB p)(gL:(aU p).length≤1000)(nQ:oG p≤80000)(p9:p.au.length≤100)(hb:600<2+(aU p).length+(kh p).gates.length):dq prog 11 [dI p] (.d (.agg (oB ⟨[],[],[],[]⟩ 2))):=by
 have c8:=jj2 p eZ gL nQ p9
 unfold EO at c8
 rw[if_pos hb]at c8
 refine fh (fn:=f11) (by kernel_rfl) func11 rfl (cn rfl) fun c hc hp=>?_
 refine dY (τ':=aF [(0,.d (dI p))]) (by repeat (first|exact cw _|refine cg ?_ (by first|rfl|(simp[aX];done)|simp[aX, *]))) ?_
 refine ah (zF ·) ?_
 refine aZ hp ax hc rfl fun K2 bS=>?_
 refine zF ?_
 refine bx (c8) rfl ?_
 refine zF ?_
 refine bS _ _ ?_
 refine ah (zF ·) ?_
 refine aM ?_
 try dsimp only[cC,cI]
 refine cS rfl ?_
 refine WV ?_
 show ai _ _=_
 refine VB ?_
 rfl
def tz(n w k:Nat):List mf:=(List.range k).map (FZ n w)
theorem ycg{n w k:Nat}:((tz n w k).flatMap nf).map D.fix=(tz n w k).flatMap nf:=by
 rw[List.map_flatMap];unfold tz;rw[List.flatMap_map,List.flatMap_map];rfl
theorem xG{n w k:Nat}:(tz n w k).length=k:=by simp[tz]
theorem ygy{n w k:Nat}:tz n w (k+1)=tz n w k++[FZ n w k]:=by simp[tz,List.range_succ]
def sy:bB:=.cells [.d (sD ⟨#[]⟩),.d (sD ⟨#[]⟩),.d (.val (.slice none 0 0)),.d (.val (.slice none 0 0)),.d (.val (.slice none 0 0)),.d (.val (.slice none 0 0))]
def tx(k:Nat):bB:=.cells [.d (sD ⟨#[108,97,114,103,101]⟩),.d (sD ⟨#[97]⟩),.os 13 2 0 k,.d (.val (.slice none 0 0)),.d (.val (.slice none 0 0)),.d (.val (.slice none 0 0))]
theorem zE{p q:Prop}(hq:q)(h:p=q:=by
 conv=>lhs;simp -dsimp -implicitDefEqProofs (disch:=first|assumption|omega|(simp only[aH,lP,xG]<;>omega)|decide) only[aN,↓reduceIte,Nat.reduceEqDiff,Nat.reduceAdd,D.fix,Int.reduceToNat,Nat.reduceMul,Nat.reduceBNe,Nat.reduceBEq,aK,dI,sD,nS,cv,lj,bR,sy,tx,List.cons_append,List.nil_append,bw]):p:=h.mpr hq
theorem Dw(k:List Nat){m:List Nat}{τ τ1:Fr}{H H1:av}(h:Rt m (fun t=>du k (τ t)) (dg k H) τ1 H1)(a:∀i∈m,k[i]? =some i:=by decide)(b:k.Nodup:=by decide)(c:∀i∈k,i<H.length:=by
 simp[eJ,dg]):Rt m τ H τ1 H1:=Rt.trans (Rt.gc a b c) h
theorem Dv{m:List Nat}{τ τ':Fr}{H H':av}(h2:H=H')(h:fw τ τ':=by
 repeat (first|exact cw _|refine cg ?_ (by first|rfl|(simp[aX,lP,xG];done)|simp[aX,lP,xG, *]))):Rt m τ H τ' H':=Rt.end h h2
theorem JB{p:Prop}(h:p:=by
 first|rfl|(simp only[cP,Nat.reduceAdd,↓reduceIte,Nat.reduceEqDiff,aK,dI,sD,nS,cv,lj,bR,sy,tx,List.cons_append,List.nil_append];first|done|rfl)):p:=h
theorem VA{p q:Prop}(hq:q)(h:p=q:=by
 conv=>lhs;simp only[cP,Nat.reduceAdd,↓reduceIte,Nat.reduceEqDiff,aK,dI,sD,nS,cv,lj,bR,sy,tx,List.cons_append,List.nil_append]):p:=h.mpr hq
theorem jdk(a b:Nat)(ha:a<256)(hb:b<256):dq prog 10 [.val (.int .u8 a),.val (.int .u8 b)] (.d (dI (iz (1+a % 16) (1+b % 8)))):=by
 obtain⟨n,hn⟩:∃n,n=1+a % 16:=⟨_,rfl⟩
 obtain⟨w,hw⟩:∃w,w=1+b % 8:=⟨_,rfl⟩
 have de:1≤n∧n≤16:=by omega
 have rQ:1≤w∧w≤8:=by omega
 rw[←hn,←hw]
 refine fh (fn:=f10) (by kernel_rfl) func10 rfl (cn rfl) fun c hc hp=>?_
 refine dY (τ':=aF [(0,.d (.val (.int .u8 a))),(1,.d (.val (.int .u8 b)))]) (by repeat (first|exact cw _|refine cg ?_ (by first|rfl|(simp[aX,lP,xG];done)|simp[aX,lP,xG, *]))) ?_
 refine ah (zE ·) ?_
 refine ah (zE ·) ?_
 refine ah (zE ·) ?_
 refine aD fun K4 dE=>?_
 refine bC hp (τ':=aF [(4,.op 0 0),(5,.op 1 0),(6,.d (iD n)),(7,.d (iD w))]) (H':=[sy,.cells [.d (sD ⟨#[108,97,114,103,101]⟩),.d (sD ⟨#[97]⟩),.d (.val (.slice none 0 0)),.d (.val (.slice none 0 0)),.d (.val (.slice none 0 0)),.d (.val (.slice none 0 0))]]) ?_ ?_
 ·refine Dw [0,1] ?_
  refine Dv ?_
  exact JB
 refine aZ hp ax hc rfl fun K5 dx=>?_
 simp -dsimp -implicitDefEqProofs (disch:=first|assumption|omega|(simp only[aH,lP,xG]<;>omega)|decide) only[aN,↓reduceIte,Nat.reduceEqDiff,Nat.reduceAdd,D.fix,Int.reduceToNat,Nat.reduceMul,Nat.reduceBNe,Nat.reduceBEq,aK,dI,sD,nS,cv,lj,bR,sy,tx,List.cons_append,List.nil_append]
 refine dx _ _ ?_
 refine aW ?_
 refine cU hp (fun τ' H' mm=>∃(k:Nat),(k≤n)∧mm=n - k∧H'=[sy,tx k,.cells (ak ((tz n w k).flatMap nf))]∧τ'=aF [(4,.op 0 0),(5,.op 1 0),(6,.d (iD n)),(7,.d (iD w)),(8,.d (iD k))]) (n) ?_ ⟨0,cF _,rfl,rfl,rfl⟩ ?_
 ·refine Rt.trans (Rt.fm 1 2 13 rfl rfl) ?_
  refine Dw [0,1,2] ?_
  refine Dv ?_
  refine VA ?_;simp[sy,tx,tz,ak,sD]
 rintro τ' H' mm ⟨k,hk,rfl,rfl,rfl⟩
 refine aD fun K6 cK=>?_
 refine ah (zE ·) ?_
 refine bf rfl (fun ht=>?_) (fun ht=>?_)
 ·have aA:k<n:=by simp at ht;omega
  obtain⟨k',vu⟩:∃k',k'=(k+1) % n:=⟨_,rfl⟩
  have hkn:k'<n:=by rw[vu];exact Nat.mod_lt _ (by omega)
  have hkm:((k:Int)+1) % (n:Int)=(k':Int):=by rw[vu];push_cast;rfl
  have hs9:(⟨#[97,98,99,100,101,102,103,104,105,106,107,108,109,110,111,112]⟩:ByteArray).size=16:=rfl
  have hkt:((k:Int)+1).toNat=k+1:=by omega
  have hnx:((⟨#[97,98,99,100,101,102,103,104,105,106,107,108,109,110,111,112]⟩:ByteArray).extract k (k+1)).size≤3:=by rw[ByteArray.size_extract];omega
  refine bg (cK _ _ ?_)
  refine aD fun K8 dP=>?_
  refine aW ?_
  refine dO ax hc mixed rfl (q:=2) (by kernel_rfl) (by kernel_rfl) fun K9 cX=>?_
  simp -dsimp -implicitDefEqProofs (disch:=first|assumption|omega|(simp only[aH,lP,xG]<;>omega)|decide) only[aN,↓reduceIte,Nat.reduceEqDiff,Nat.reduceAdd,D.fix,Int.reduceToNat,Nat.reduceMul,Nat.reduceBNe,Nat.reduceBEq,aK,dI,sD,nS,cv,lj,bR,sy,tx,List.cons_append,List.nil_append,hkm,bw]
  refine cX _ _ ?_
  refine bC hp (τ':=aF [(4,.op 0 0),(5,.op 1 0),(6,.d (iD n)),(7,.d (iD w)),(8,.d (iD k)),(9,.op 3 0),(10,.op 4 0)]) (H':=[sy,tx k,.cells (ak ((tz n w k).flatMap nf)),.cells (ak (bR (.gQ k))),.cells (ak (bR (.gQ k')))]) ?_ ?_
  ·refine Rt.trans (Rt.px 3 6 rfl rfl) ?_
   refine Rt.trans (Rt.px 4 6 rfl rfl) ?_
   refine Dw [0,1,2,3,4] ?_
   refine Dv ?_
   exact JB
  refine ah (zE ·) ?_
  refine bC hp (τ':=aF [(4,.op 0 0),(5,.op 1 0),(6,.d (iD n)),(7,.d (iD w)),(8,.d (iD k)),(9,.op 3 0),(10,.op 4 0),(11,.op 5 0)]) (H':=[sy,tx k,.cells (ak ((tz n w k).flatMap nf)),.cells (ak (bR (.gQ k))),.cells (ak (bR (.gQ k'))),.cells (ak (bR (.add (.gQ k) (.gQ k'))))]) ?_ ?_
  ·refine Rt.trans (Rt.fz (id:=5) (l:=(bR (.gQ k)++bR (.gQ k'))) rfl) ?_
   refine Dw [0,1,2,3,4,6] ?_
   refine Dv ?_
   exact JB
  refine ah (zE ·) ?_
  refine bC hp (τ':=aF [(4,.op 0 0),(5,.op 1 0),(6,.d (iD n)),(7,.d (iD w)),(8,.d (iD k)),(9,.op 3 0),(10,.op 4 0),(11,.op 5 0),(12,.op 6 0)]) (H':=[sy,tx k,.cells (ak ((tz n w k).flatMap nf)),.cells (ak (bR (.gQ k))),.cells (ak (bR (.gQ k'))),.cells (ak (bR (.add (.gQ k) (.gQ k')))),.cells (ak (bR (.lt (.add (.gQ k) (.gQ k')) (.gQ k))))]) ?_ ?_
  ·refine Rt.trans (Rt.fz (id:=6) (l:=(bR (.add (.gQ k) (.gQ k'))++bR (.gQ k))) rfl) ?_
   refine Dw [0,1,2,3,4,5,7] ?_
   refine Dv ?_
   exact JB
  refine z8 ax hc mixed rfl (q:=3) (by kernel_rfl) (by kernel_rfl) fun lK bN=>?_
  simp -dsimp -implicitDefEqProofs (disch:=first|assumption|omega|(simp only[aH,lP,xG]<;>omega)|decide) only[aN,↓reduceIte,Nat.reduceEqDiff,Nat.reduceAdd,D.fix,Int.reduceToNat,Nat.reduceMul,Nat.reduceBNe,Nat.reduceBEq,aK,dI,sD,nS,cv,lj,bR,sy,tx,List.cons_append,List.nil_append,hs9,underlying9,hkt,Nu hnx,bw]
  refine bN _ _ (dP _ _ ?_)
  refine bT hp ax hc rfl fun nV df=>?_
  refine zE ?_
  refine df _ _ ⟨_,_,_,?_,⟨k+1,by omega,rfl,rfl,rfl⟩,?_⟩
  ·first|omega|(simp only[List.length_cons];omega)|(dsimp only;omega)
  ·refine Dw [0,1,9] ?_
   refine Dv ?_
   refine VA ?_;rw[ygy];simp[sy,tx,ak,sD,FZ,nf,Ax,vu,XL,XK,iD,bR,cv,nS]
 ·have bM:k=n:=by simp at ht;omega
  subst bM
  refine cJ (dE _ _ ?_)
  refine ah (zE ·) ?_
  refine aM ?_
  try dsimp only[cC,cI]
  refine cS rfl ?_
  simp -dsimp -implicitDefEqProofs (disch:=first|assumption|omega|(simp only[aH,lP,xG]<;>omega)|decide) only[aN,↓reduceIte,Nat.reduceEqDiff,Nat.reduceAdd,D.fix,Int.reduceToNat,Nat.reduceMul,Nat.reduceBNe,Nat.reduceBEq,aK,dI,sD,nS,cv,lj,bR,sy,tx,List.cons_append,List.nil_append,BW,Fp]
  show ai _ _=_
  simp (disch:=first|assumption|omega|(simp only[aH,lP,xG]<;>omega)|decide) only[fA,Nat.reduceAdd,D.fix,↓reduceIte,Nat.reduceEqDiff,aK,dI,sD,nS,cv,lj,bR,sy,tx,List.cons_append,List.nil_append]
  rw[ycg]
  simp[iz,tz,pb,qJ,rO]
section
section
variable {m:Nat} {gs fH:Gs} {x y z:Int}
end
section
variable {n w:Nat}
theorem Bl:(iz n w).aC.length=n:=by simp[iz]
theorem JA{i:Nat}(hi:i<n):nth (iz n w).aC i=FZ n w i:=L4 hi
theorem Gp{i:Nat}(hi:i<n):nth (aR (iz n w)).aC i=w:=by
 unfold aR;simp only;rw[tE (by rw[Bl];exact hi),JA hi];rfl
theorem ZC:(aR (iz n w)).aC.length=n:=by simp[aR,iz]
theorem juk{i j:Nat}(hi:i<n)(hj:j<n):cf (aR (iz n w)) (Ax i j)=10*w+1:=by
 simp only[Ax,cf,bV,Gp hi,Gp hj];omega
theorem WU(hn:1≤n):∀k,k≤n→oT (iz n w) k=k*(12*w+1)
 |0,_=>by simp[oT,uP,vx,iz]
 |k+1,hk=>by
  rw[oT,WU hn k (by omega),JA (by omega)]
  show _+(cf (aR (iz n w)) (Ax k ((k+1) % n))+2*w)=_
  rw[juk (by omega) (Nat.mod_lt _ (by omega)),Nat.succ_mul k];omega
theorem LV(hn:1≤n):oG (iz n w)=n*(12*w+1):=by
 show oT (iz n w) (iz n w).aC.length+0=_
 rw[Bl,WU hn n (bJ _),Nat.add_zero]
theorem jj4:∀k,k≤n→(gW (iz n w) k).length=k*w
 |0,_=>by simp[gW]
 |k+1,hk=>by rw[gW,List.length_append,dD,jj4 k (by omega),JA (by omega),Nat.succ_mul k];rfl
theorem Oz:(aU (iz n w)).length=n*w:=by
 show(gW (iz n w) (iz n w).aC.length).length=_
 rw[Bl];exact jj4 n (bJ _)
theorem ygz{i j:Nat}(hi:i<n)(hj:j<n){q:Bool}:WT (aR (iz n w)) q (Ax i j)∧bV (aR (iz n w)) (Ax i j)=w:=by
 have e1:=Gp (w:=w) hi;have e2:=Gp (w:=w) hj
 simp only[Ax,WT,bV,e1,e2,ZC]
 simp[hi,hj]
theorem NQ(hn:1≤n)(iU:n≤16)(hw:1≤w)(Pl:w≤8):cB (iz n w):=by
 have hc:oG (iz n w)≤100000:=by
  rw[LV hn]
  have:=Nat.mul_le_mul iU (show 12*w+1≤97 by omega)
  omega
 refine⟨⟨fun i hi=>?_,fun i hi=>?_,fun i hi=>?_,by simp[aR,iz]⟩,fun i hi=>?_,fun i hi=>?_,fun i hi=>?_,fun i hi=>?_,fun i hi=>?_,fun i hi=>?_,fun i hi=>?_,fun i hi=>?_,by rw[Bl];omega,by simp[iz],by simp[iz],hc⟩
 ·rw[ZC]at hi;rw[Gp hi];exact⟨hw,Pl⟩
 ·simp[aR,iz]at hi
 ·simp[aR,iz]at hi
 ·simp[iz]at hi
 ·rw[Bl]at hi;rw[JA hi]
  exact ygz hi (Nat.mod_lt _ (by omega))
 all_goals simp[iz]at hi
end
end
theorem WS{p:Pr}(h:jL p):uR (kh p):=by
 have hw:=yfp h
 have ho:=ub h.ok _ (bJ _)
 have h1:=ho.len;have h2:=h.cost;have h3:=h.ins
 have hc:tS p p.au.length=oG p:=rfl
 have nN:=hw.ol
 refine⟨by show 2+(aU p).length+(eu p p.au.length).gs.length≤600;omega,hw.od,hw.wi,hw.wo,hw.g,fun g hg=>?_,hw.d,by rw[←hw.od];exact nN⟩
 obtain⟨k,hk,e⟩:=List.mem_iff_getElem.1 hg
 have vu:k<(eu p p.au.length).gs.length:=hk
 have:=ho.gi.rg k vu
 rw[show nth (eu p p.au.length).gs k=g by rw[o7 vu];exact e]at this
 exact⟨this.cz,this.bz,this.nz,by have:=this.n1;omega⟩
theorem NP{p q:Prop}(hq:q)(h:p=q:=by
 conv=>lhs;simp -dsimp -implicitDefEqProofs (disch:=first|assumption|omega|(simp only[aH,aQ,bc]<;>omega)|decide) only[aN,↓reduceIte,Nat.reduceEqDiff,Nat.reduceAdd,D.fix,Int.reduceToNat,Nat.reduceMul,Nat.reduceBNe,Nat.reduceBEq,dt,dp,bQ,bt,aY,mY,bw]):p:=h.mpr hq
theorem J4{p q:Prop}(hq:q)(h:p=q:=by
 conv=>lhs;simp -dsimp -implicitDefEqProofs (disch:=first|assumption|omega|(simp only[aH,aQ,bc]<;>omega)|decide) only[aN,↓reduceIte,Nat.reduceEqDiff,Nat.reduceAdd,D.fix,Int.reduceToNat,Nat.reduceMul,Nat.reduceBNe,Nat.reduceBEq,dt,dp,bQ,bt,aY,mY,bne_self_eq_false,bw]):p:=h.mpr hq
theorem WR{p q:Prop}(hq:q)(h:p=q:=by
 conv=>lhs;simp -dsimp -implicitDefEqProofs (disch:=first|assumption|omega|(simp only[aH,aQ,bc]<;>omega)|decide) only[aN,↓reduceIte,Nat.reduceEqDiff,Nat.reduceAdd,D.fix,Int.reduceToNat,Nat.reduceMul,Nat.reduceBNe,Nat.reduceBEq,dt,dp,bQ,bt,aY,mY]):p:=h.mpr hq
theorem Vz{m:List Nat}{τ τ':Fr}{H H':av}(h2:H=H')(h:fw τ τ':=by
 repeat (first|exact cw _|refine cg ?_ (by first|rfl|(simp[aX,aQ,bc];done)|simp[aX,aQ,bc, *]))):Rt m τ H τ' H':=Rt.end h h2
theorem Vy{p:Prop}(h:p:=by
 first|rfl|(simp only[cP,Nat.reduceAdd,↓reduceIte,Nat.reduceEqDiff,dt,dp,bQ,bt,aY,mY];first|done|rfl)):p:=h
theorem KH(n:Net)(h1:n.ins.length≤1000000)(h2:n.gates.length≤1000000)(h3:n.out.length≤1000000)(h4:n.aP.length≤1000000):dq prog 13 [dt n,dt n] (.d (oD true)):=by
 have fk:=jxy n.aP n.aP (by unfold maxLen;omega)
 rw[show decide (n.aP=n.aP)=true by simp]at fk
 refine fh (fn:=f13) (by kernel_rfl) func13 rfl (cn rfl) fun c hc hp=>?_
 refine dY (τ':=aF [(0,.d (dt n)),(1,.d (dt n))]) (by repeat (first|exact cw _|refine cg ?_ (by first|rfl|(simp[aX,aQ,bc];done)|simp[aX,aQ,bc, *]))) ?_
 refine ah (NP ·) ?_
 refine aD fun K2 bS=>?_
 refine aZ hp ax hc rfl fun K3 cm=>?_
 refine J4 ?_
 refine bx (ji2 n.ins h1) rfl ?_
 refine J4 ?_
 refine bx (ji2 n.out h3) rfl ?_
 refine J4 ?_
 refine bx (fk) rfl ?_
 refine J4 ?_
 refine cm _ _ ?_
 refine bA ?_
 refine bg (bS _ _ ?_)
 refine aD fun K4 dE=>?_
 refine ah (WR ·) ?_
 refine aW ?_
 refine cU hp (fun τ' H' mm=>∃(k:Nat),(k≤n.gates.length)∧mm=n.gates.length - k∧H'=[.cells (ak (dp n)),.cells (ak (dp n))]∧τ'=aF [(2,.op 0 0),(3,.op 1 0),(5,.d (iD k))]) (n.gates.length) ?_ ⟨0,cF _,rfl,rfl,rfl⟩ ?_
 ·refine Vz ?_
  exact Vy
 rintro τ' H' mm ⟨k,hk,rfl,rfl,rfl⟩
 refine aD fun K6 cK=>?_
 refine ah (NP ·) ?_
 refine bf rfl (fun ht=>?_) (fun ht=>?_)
 ·have aA:k<n.gates.length:=by simp at ht;omega
  refine bg (cK _ _ ?_)
  refine aD fun K8 dP=>?_
  refine aW ?_
  refine dO ax hc mixed rfl (q:=0) (by kernel_rfl) (by kernel_rfl) fun K9 cX=>?_
  simp -dsimp -implicitDefEqProofs (disch:=first|assumption|omega|(simp only[aH,aQ,bc]<;>omega)|decide) only[aN,↓reduceIte,Nat.reduceEqDiff,Nat.reduceAdd,D.fix,Int.reduceToNat,Nat.reduceMul,Nat.reduceBNe,Nat.reduceBEq,dt,dp,bQ,bt,aY,mY,ve,qA,bw,z7 KQ,z7 KQ]
  refine cX _ _ ?_
  refine bf rfl (fun ht=>?_) (fun ht=>?_)
  ·simp at ht
  ·refine bg (dP _ _ ?_)
   refine bT hp ax hc rfl fun j4 bW=>?_
   refine NP ?_
   refine bW _ _ ⟨_,_,_,?_,⟨k+1,by omega,rfl,rfl,rfl⟩,?_⟩
   ·first|omega|(simp only[List.length_cons];omega)|(dsimp only;omega)
   ·refine Vz ?_
    exact Vy
 ·refine cJ (dE _ _ ?_)
  refine ah (WR ·) ?_
  refine aM ?_
  show ai _ _=_
  simp (disch:=first|assumption|omega|(simp only[aH,aQ,bc]<;>omega)|decide) only[fA,Nat.reduceAdd,D.fix,↓reduceIte,Nat.reduceEqDiff,dt,dp,bQ,bt,aY,mY]
def lY:Pr:=⟨⟨#[112]⟩,⟨#[97]⟩,[⟨⟨#[114]⟩,1,0,.not (.gQ 0),0,⟨#[]⟩,0⟩],[],[],[]⟩
def tB:Pr:={lY with ag:=[⟨0,1,.ny 1 1⟩]}
def r4:Net:=⟨[⟨1,0,0⟩],[⟨1,2,0,0,0⟩],[⟨1,0,0⟩],[3]⟩
def lG:Net:=⟨[⟨1,0,0⟩,⟨2,0,0⟩,⟨3,0,0⟩],[⟨1,2,0,0,0⟩,⟨5,4,5,2,0⟩],[⟨1,0,0⟩,⟨5,0,0⟩],[6,4]⟩
theorem jj7:kh lY=r4:=by kernel_rfl
theorem jj8:kh tB=lG:=by kernel_rfl
theorem Aw{P:Nat→Prop}(h:P 0):∀i,i<1→P i:=fun i hi=>by rw[show i=0 by omega];exact h
theorem yck:cB lY:=by
 refine⟨⟨Aw (by decide),fun i hi=>absurd hi (by simp[aR,lY]),fun i hi=>absurd hi (by simp[aR,lY]),by decide⟩,fun i hi=>absurd hi (by simp[lY]),Aw ?_,fun i hi=>absurd hi (by simp[lY]),fun i hi=>absurd hi (by simp[lY]),fun i hi=>absurd hi (by simp[lY]),fun i hi=>absurd hi (by simp[lY]),fun i hi=>absurd hi (by simp[lY]),fun i hi=>absurd hi (by simp[lY]),by decide,by decide,by decide,by decide⟩
 exact⟨show 0<1 by decide,rfl⟩
theorem ycl:cB tB:=by
 refine⟨⟨Aw (by decide),Aw (by decide),fun i hi=>absurd hi (by simp[aR,tB,lY]),by decide⟩,Aw ?_,Aw ?_,fun i hi=>absurd hi (by simp[tB,lY]),fun i hi=>absurd hi (by simp[tB,lY]),fun i hi=>absurd hi (by simp[tB,lY]),fun i hi=>absurd hi (by simp[tB,lY]),fun i hi=>absurd hi (by simp[tB,lY]),fun i hi=>absurd hi (by simp[tB,lY]),by decide,by decide,by decide,by decide⟩
 ·exact⟨⟨by decide,by decide,by decide⟩,rfl⟩
 ·exact⟨show 0<1 by decide,rfl⟩
theorem yg0:dq prog 11 [dI lY] (.d (.agg (oB r4 0))):=by
 have h:=IH lY yck (by decide) (by decide) (by decide) (by rw[jj7];decide)
 rwa[jj7]at h
theorem yg1:dq prog 11 [dI tB] (.d (.agg (oB lG 0))):=by
 have h:=IH tB ycl (by decide) (by decide) (by decide) (by rw[jj8];decide)
 rwa[jj8]at h
theorem WQ:uR r4:=⟨by decide,rfl,fun w hw=>by simp[r4]at hw;subst hw;exact⟨by decide,by decide,by decide,by decide,by decide,by decide⟩,fun w hw=>by simp[r4]at hw;subst hw;exact⟨by decide,by decide,by decide,by decide,by decide⟩,Aw ⟨by decide,by decide,by decide,by decide,by decide,by decide,by decide,by decide,by decide,by decide⟩,fun g hg=>by simp[r4]at hg;subst hg;exact⟨by decide,by decide,by decide,by decide⟩,Aw (by decide),by decide⟩
theorem XI{P:Nat→Prop}(h0:P 0)(h1:P 1):∀i,i<2→P i:=fun i hi=>by
 rcases(show i=0∨i=1 by omega)with rfl|rfl
 ·exact h0
 ·exact h1
theorem yg2:uS lG:=⟨by decide,rfl,XI ⟨by decide,by decide,by decide,by decide,by decide,by decide,by decide,by decide,by decide,by decide⟩ ⟨by decide,by decide,by decide,by decide,by decide,by decide,by decide,by decide,by decide,by decide⟩,fun g hg=>by simp[lG]at hg;rcases hg with rfl|rfl<;>exact⟨by decide,by decide,by decide,by decide⟩,XI (by decide) (by decide),by decide⟩
theorem yg3:dq prog 16 [dt r4] (.d (iD 1)):=jtf r4 WQ
theorem yg4:dq prog 16 [dt lG] (.d (iD 2)):=E7 lG yg2
theorem yg5:dq prog 14 [dt r4] (.d (oD true)):=ji1 r4 WQ
theorem xb{p q:Prop}(hq:q)(h:p=q:=by
 conv=>lhs;simp -dsimp -implicitDefEqProofs (disch:=first|assumption|omega|(simp only[aH]<;>omega)|decide) only[aN,↓reduceIte,Nat.reduceEqDiff,Nat.reduceAdd,D.fix,Int.reduceToNat,Nat.reduceMul,Nat.reduceBNe,Nat.reduceBEq,aY,bne_self_eq_false,bw]):p:=h.mpr hq
theorem NO{p q r:Prop}(e:r)(hq:q)(h:r→p=q:=by
 intro hY
 conv=>lhs;simp -dsimp -implicitDefEqProofs (disch:=first|assumption|omega|(simp only[aH]<;>omega)|decide) only[aN,↓reduceIte,Nat.reduceEqDiff,Nat.reduceAdd,D.fix,Int.reduceToNat,Nat.reduceMul,Nat.reduceBNe,Nat.reduceBEq,aY,bne_self_eq_false,bw,hY]):p:=(h e).mpr hq
theorem NN{p q:Prop}(hq:q)(h:p=q:=by
 conv=>lhs;simp -dsimp -implicitDefEqProofs (disch:=first|assumption|omega|(simp only[aH]<;>omega)|decide) only[aN,↓reduceIte,Nat.reduceEqDiff,Nat.reduceAdd,D.fix,Int.reduceToNat,Nat.reduceMul,Nat.reduceBNe,Nat.reduceBEq,aY,bne_self_eq_false]):p:=h.mpr hq
theorem Vx{m:List Nat}{τ τ':Fr}{H H':av}(h2:H=H')(h:fw τ τ':=by
 repeat (first|exact cw _|refine cg ?_ (by first|rfl|(simp[aX];done)|simp[aX, *]))):Rt m τ H τ' H':=Rt.end h h2
theorem Vw{p:Prop}(h:p:=by
 first|rfl|(simp only[cP,Nat.reduceAdd,↓reduceIte,Nat.reduceEqDiff,aY,bne_self_eq_false];first|done|rfl)):p:=h
theorem Vv{p:Prop}(h:p:=by
 simp (disch:=first|assumption|omega|(simp only[aH]<;>omega)|decide) only[fA,Nat.reduceAdd,D.fix,↓reduceIte,Nat.reduceEqDiff,aY,bne_self_eq_false]):p:=h
theorem yg6:dq prog 14 [.agg [.fs [] 0,.fs (aY ⟨1,2,0,0,0⟩) 1,.fs [] 0,.fs [] 0]] (.d (oD false)):=by
 have k9:=Dp ⟨1,2,0,0,0⟩ (by decide) (by decide)
 have nQ:=Mo (gj ⟨1,2,0,0,0⟩) (2+((0:Nat):Int)) 0 (by decide) (by decide) (by unfold maxLen;decide)
 rw[show(gj ⟨1,2,0,0,0⟩).any (n8 (2+((0:Nat):Int)+0))=true by decide]at nQ
 have pg:=Fa (g:=⟨1,2,0,0,0⟩) (by decide) (by decide)
 have q0:decide ((600:Int)<2+((0:Nat):Int)+((1:Nat):Int))=false:=by decide
 refine fh (fn:=f14) (by kernel_rfl) func14 rfl (cn rfl) fun c hc hp=>?_
 refine dY (τ':=aF [(0,.d (.agg [.fs [] 0,.fs (aY ⟨1,2,0,0,0⟩) 1,.fs [] 0,.fs [] 0]))]) (by repeat (first|exact cw _|refine cg ?_ (by first|rfl|(simp[aX];done)|simp[aX, *]))) ?_
 refine ah (xb ·) ?_
 refine ah (xb ·) ?_
 refine ah (xb ·) ?_
 refine aD fun K4 dE=>?_
 refine ah (NO q0 ·) ?_
 refine bA ?_
 refine bg (dE _ _ ?_)
 refine ah (NN ·) ?_
 refine aD fun K7 cL=>?_
 refine ah (xb ·) ?_
 refine aW ?_
 refine cU hp (fun τ' H' mm=>∃(k:Int),(k=0)∧mm=0∧H'=[.cells [.d (.fs [] 0),.d (.fs (aY ⟨1,2,0,0,0⟩) 1),.d (.fs [] 0),.d (.fs [] 0)],.cells [.d (iD (2+((0:Nat):Int)))]]∧τ'=aF [(1,.op 0 0),(3,.op 1 0),(4,.d (iD (2+((0:Nat):Int)+((1:Nat):Int)))),(5,.d (.val (.func (.func 65) #[] #[]))),(36,.d (.fs [] 0)),(37,.d (iD ((0:Nat):Int))),(38,.d (iD k))]) (0) ?_ ⟨0,rfl,rfl,rfl,rfl⟩ ?_
 ·refine Rt.trans (Rt.gc (keep:=[0,1]) (by decide) (by decide) (by simp[eJ,dg])) ?_
  refine Vx ?_
  exact Vw
 rintro τ' H' mm ⟨k,hk,rfl,rfl,rfl⟩
 subst hk
 refine ah (xb ·) ?_
 refine aD fun j4 bW=>?_
 refine bf rfl (fun ht=>?_) (fun ht=>?_)
 ·exact absurd ht (by decide)
 ·refine cJ (cL _ _ ?_)
  refine aD fun mh cQ=>?_
  refine ah (xb ·) ?_
  refine aW ?_
  refine cU hp (fun τ' H' mm=>∃(k:Int),(k=0)∧mm=0∧H'=[.cells [.d (.fs [] 0),.d (.fs (aY ⟨1,2,0,0,0⟩) 1),.d (.fs [] 0),.d (.fs [] 0)],.cells [.d (iD (2+((0:Nat):Int)))]]∧τ'=aF [(1,.op 0 0),(3,.op 1 0),(4,.d (iD (2+((0:Nat):Int)+((1:Nat):Int)))),(5,.d (.val (.func (.func 65) #[] #[]))),(58,.d (.fs (aY ⟨1,2,0,0,0⟩) 1)),(59,.d (iD ((1:Nat):Int))),(60,.d (iD k))]) (0) ?_ ⟨0,rfl,rfl,rfl,rfl⟩ ?_
  ·refine Rt.trans (Rt.gc (keep:=[0,1]) (by decide) (by decide) (by simp[eJ,dg])) ?_
   refine Vx ?_
   exact Vw
  rintro τ' H' mm ⟨k,hk,rfl,rfl,rfl⟩
  subst hk
  refine ah (xb ·) ?_
  refine aD fun re dT=>?_
  refine bf rfl (fun ht=>?_) (fun ht=>?_)
  ·refine bg (dT _ _ ?_)
   refine aD fun sY eG=>?_
   refine aW ?_
   refine ah (xb ·) ?_
   refine aZ hp ax hc rfl fun rZ ey=>?_
   refine xb ?_
   refine bx (k9) rfl ?_
   refine xb ?_
   refine ey _ _ ?_
   refine ah (NN ·) ?_
   refine aD fun rY eN=>?_
   refine aZ hp ax hc rfl fun sX fa=>?_
   refine NO pg ?_
   refine BB (nQ) ?_ ?_
   ·exact Vv
   refine NO pg ?_
   refine fa _ _ ?_
   refine bf rfl (fun ht=>?_) (fun ht=>?_)
   ·refine ah (NN ·) ?_
    refine aM ?_
    show ai _ _=_
    exact Vv
   ·exact absurd ht (by decide)
  ·exact absurd ht (by decide)
theorem jdn{p:Pr}(h:cB p){i:Nat}:∀j,i≤j→j≤p.aC.length→(fg p i).gs<+:(fg p j).gs
 |0,hi,_=>by rw[show i=0 by omega];exact List.prefix_refl _
 |j+1,hi,hj=>by
  by_cases e:i=j+1
  ·subst e;exact List.prefix_refl _
  ·have ih:=jdn h (i:=i) j (by omega) (by omega)
   obtain⟨hb,ht⟩:=zY h (show j<p.aC.length by omega) (yA h j (by omega))
   rw[←hb.wid]at ht
   exact ih.trans (hb.pre.trans ht.pre)
theorem ycn{n w:Nat}:(kh (iz n w)).gates=(fg (iz n w) n).gs:=by
 show(fg (iz n w) (iz n w).aC.length).gs=_
 rw[Bl]
theorem yg7:(fg (iz 16 8) 11).gs=tA:=ykz
theorem jup:600<2+(aU (iz 16 8)).length+(kh (iz 16 8)).gates.length:=by
 have hk:=(jdn (NQ (n:=16) (w:=8) (by decide) (by decide) (by decide) (by decide)) (i:=11) 16 (by decide) (by rw[Bl];decide)).length_le
 have h3:600<130+tA.length:=by decide +kernel
 rw[yg7]at hk
 rw[Oz,ycn]
 omega
theorem yco:dq prog 11 [dI (iz 16 8)] (.d (.agg (oB ⟨[],[],[],[]⟩ 2))):=
 Rm (iz 16 8) (NQ (by decide) (by decide) (by decide) (by decide)) (by rw[Oz];decide) (by rw[LV (by decide)];decide) (by decide) jup
theorem yg8:dq prog 10 [.val (.int .u8 15),.val (.int .u8 7)] (.d (dI (iz 16 8))):=jdk 15 7 (by decide) (by decide)
theorem jnn:dq prog 13 [dt r4,dt r4] (.d (oD true)):=KH r4 (by decide) (by decide) (by decide) (by decide)
theorem jno:dq prog 13 [dt lG,dt lG] (.d (oD true)):=KH lG (by decide) (by decide) (by decide) (by decide)
theorem o6{p q:Prop}(hq:q)(h:p=q:=by
 conv=>lhs;simp -dsimp -implicitDefEqProofs (disch:=first|assumption|omega|(simp only[aH]<;>omega)|decide) only[aN,↓reduceIte,Nat.reduceEqDiff,Nat.reduceAdd,D.fix,Int.reduceToNat,Nat.reduceMul,Nat.reduceBNe,Nat.reduceBEq,beq_self_eq_true,Int.reduceBEq,lj,aK,dI,dp,dt,sD,nS,oB,bR,cv,List.cons_append,List.nil_append,List.append_eq,bw]):p:=h.mpr hq
theorem J3(k:List Nat){m:List Nat}{τ τ1:Fr}{H H1:av}(h:Rt m (fun t=>du k (τ t)) (dg k H) τ1 H1)(a:∀i∈m,k[i]? =some i:=by decide)(b:k.Nodup:=by decide)(c:∀i∈k,i<H.length:=by
 simp[eJ,dg]):Rt m τ H τ1 H1:=Rt.trans (Rt.gc a b c) h
theorem J2{m:List Nat}{τ τ':Fr}{H H':av}(h2:H=H')(h:fw τ τ':=by
 repeat (first|exact cw _|refine cg ?_ (by first|rfl|(simp[aX];done)|simp[aX, *]))):Rt m τ H τ' H':=Rt.end h h2
theorem J1{p:Prop}(h:p:=by
 first|rfl|(simp only[cP,Nat.reduceAdd,↓reduceIte,Nat.reduceEqDiff,beq_self_eq_true,Int.reduceBEq,lj,aK,dI,dp,dt,sD,nS,oB,bR,cv,List.cons_append,List.nil_append,List.append_eq];first|done|rfl)):p:=h
theorem zxq:dq prog 8 [] (.d (oD true)):=by
 refine fh (fn:=f8) (by kernel_rfl) func8 rfl (cn rfl) fun c hc hp=>?_
 refine dY (τ':=aF []) (cw _) ?_
 refine aZ hp ax hc rfl fun K1 nw=>?_
 simp -dsimp -implicitDefEqProofs (disch:=first|assumption|omega|(simp only[aH]<;>omega)|decide) only[aN,↓reduceIte,Nat.reduceEqDiff,Nat.reduceAdd,D.fix,Int.reduceToNat,Nat.reduceMul,Nat.reduceBNe,Nat.reduceBEq,beq_self_eq_true,Int.reduceBEq,lj,aK,dI,dp,dt,sD,nS,oB,bR,cv,List.cons_append,List.nil_append,List.append_eq]
 refine nw _ _ ?_
 refine ah (o6 ·) ?_
 refine ah (o6 ·) ?_
 refine bC hp (τ':=aF [(2,.op 0 0)]) (H':=[.cells (ak (aK lY))]) ?_ ?_
 ·refine Rt.trans (Rt.px 1 6 rfl rfl) ?_
  refine Rt.trans (Rt.fz (id:=1) (l:=(bR (.gQ 0))) rfl) ?_
  refine Rt.trans (Rt.fz (id:=2) (l:=(nf ⟨⟨#[114]⟩,1,0,.not (.gQ 0),0,⟨#[]⟩,0⟩)) rfl) ?_
  refine Rt.trans (Rt.px 3 3 rfl rfl) ?_
  refine Rt.trans (Rt.px 3 4 rfl rfl) ?_
  refine Rt.trans (Rt.px 3 5 rfl rfl) ?_
  refine J3 [3] ?_
  refine J2 ?_
  exact J1
 refine ah (o6 ·) ?_
 refine ah (o6 ·) ?_
 refine bC hp (τ':=aF [(2,.op 0 0),(3,.op 1 0)]) (H':=[.cells (ak (aK lY)),.cells (ak (aK tB))]) ?_ ?_
 ·refine Rt.trans (Rt.px 2 8 rfl rfl) ?_
  refine Rt.trans (Rt.fz (id:=2) (l:=(qJ ⟨0,1,.ny 1 1⟩)) rfl) ?_
  refine J3 [0,1] ?_
  refine J2 ?_
  exact J1
 refine ah (o6 ·) ?_
 refine ah (o6 ·) ?_
 refine bC hp (τ':=aF [(2,.op 0 0),(3,.op 1 0),(4,.op 2 0),(5,.op 3 0)]) (H':=[.cells (ak (aK lY)),.cells (ak (aK tB)),.cells (ak (cr ⟨1,0,0⟩)),.cells (ak (dp r4))]) ?_ ?_
 ·refine Rt.trans (Rt.fz (id:=3) (l:=(cr ⟨1,0,0⟩)) rfl) ?_
  refine Rt.trans (Rt.fz (id:=4) (l:=(aY ⟨1,2,0,0,0⟩)) rfl) ?_
  refine Rt.trans (Rt.fz (id:=5) (l:=(cr ⟨1,0,0⟩)) rfl) ?_
  refine Rt.trans (Rt.fz (id:=6) (l:=[iD 3]) rfl) ?_
  refine J3 [0,1,2,7] ?_
  refine J2 ?_
  exact J1
 refine ah (o6 ·) ?_
 refine bC hp (τ':=aF [(2,.op 0 0),(3,.op 1 0),(5,.op 2 0),(6,.op 3 0)]) (H':=[.cells (ak (aK lY)),.cells (ak (aK tB)),.cells (ak (dp r4)),.cells (ak (dp lG))]) ?_ ?_
 ·refine Rt.trans (Rt.fz (id:=4) (l:=(lG.ins.flatMap cr)) rfl) ?_
  refine Rt.trans (Rt.fz (id:=5) (l:=(lG.gates.flatMap aY)) rfl) ?_
  refine Rt.trans (Rt.fz (id:=6) (l:=(lG.out.flatMap cr)) rfl) ?_
  refine Rt.trans (Rt.fz (id:=7) (l:=[iD 6,iD 4]) rfl) ?_
  refine J3 [0,1,3,8] ?_
  refine J2 ?_
  exact J1
 refine dO ax hc mixed rfl (q:=2) (by kernel_rfl) (by kernel_rfl) fun K9 cX=>?_
 refine o6 ?_
 refine bx (yg0) rfl ?_
 refine o6 ?_
 refine bx (yg1) rfl ?_
 refine o6 ?_
 refine cX _ _ ?_
 refine aZ hp ax hc rfl fun j4 bW=>?_
 refine o6 ?_
 refine bx (jnn) rfl ?_
 refine o6 ?_
 refine bx (jno) rfl ?_
 refine o6 ?_
 refine bx (yg5) rfl ?_
 refine o6 ?_
 refine bx (yg3) rfl ?_
 refine o6 ?_
 refine bx (yg4) rfl ?_
 refine o6 ?_
 refine BB (yg6) ?_ ?_
 ·simp (disch:=first|assumption|omega|(simp only[aH]<;>omega)|decide) only[fA,Nat.reduceAdd,D.fix,↓reduceIte,Nat.reduceEqDiff,beq_self_eq_true,Int.reduceBEq,lj,aK,dI,dp,dt,sD,nS,oB,bR,cv,List.cons_append,List.nil_append,List.append_eq,aY]
 refine o6 ?_
 refine bx (yg8) rfl ?_
 refine o6 ?_
 refine bx (yco) rfl ?_
 refine o6 ?_
 refine bW _ _ ?_
 refine aM ?_
 show ai _ _=_
 simp (disch:=first|assumption|omega|(simp only[aH]<;>omega)|decide) only[fA,Nat.reduceAdd,D.fix,↓reduceIte,Nat.reduceEqDiff,beq_self_eq_true,Int.reduceBEq,lj,aK,dI,dp,dt,sD,nS,oB,bR,cv,List.cons_append,List.nil_append,List.append_eq]
theorem jns{p:Pr}(h:jL p):2+(aU p).length+(kh p).gates.length≤600:=(WS h).len
theorem jey{p:Pr}(h:jL p):dq prog 11 [dI p] (.d (.agg (oB (kh p) 0))):=
 IH p h.ok (by have:=h.ins;omega) (by have:=h.cost;omega) (by have:=h.m1;omega) (by have:=jns h;omega)
end Go.Proofs.YtapjobndmmkanaaGreat
