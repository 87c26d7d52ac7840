/- A part of the proof. -/
import Derived.Test.YtameldglfobjkaaGreatProg
import Derived.Test.YtameldglfobjkaaGreatL4P11
set_option linter.unusedSimpArgs false
set_option linter.unusedVariables false
section
namespace Go.Ab.T
open Go.Proofs
def T:Nat→Option TI
 |2=>some ⟨(.int .i64),1,8, [(.d (.sc (.int .i64 0)))]⟩
 |3=>some ⟨(.int .i64),1,8, [(.d (.sc (.int .i64 0)))]⟩
 |4=>some ⟨.bool,1,1, [(.d (.sc (.bool false)))]⟩
 |5=>some ⟨(.int .u8),1,1, [(.d (.sc (.int .u8 0)))]⟩
 |9=>some ⟨.sc,1,16, [(.d (.sc (.string ⟨#[]⟩)))]⟩
 |12=>some ⟨(.int .u64),1,8, [(.d (.sc (.int .u64 0)))]⟩
 |21=>some ⟨(.int .i32),1,4, [(.d (.sc (.int .i32 0)))]⟩
 |22=>some ⟨(.sl 56),1,24, [(.nil 56)]⟩
 |24=>some ⟨(.st [(0,3),(1,22)]),2,32, [(.d (.sc (.int .i64 0))),(.nil 56)]⟩
 |25=>some ⟨(.sl 3),1,24, [(.nil 3)]⟩
 |26=>some ⟨(.sl 25),1,24, [(.nil 25)]⟩
 |28=>some ⟨(.st [(0,25),(1,26)]),2,48, [(.nil 3),(.nil 25)]⟩
 |32=>some ⟨(.st [(0,25),(1,25),(2,25),(3,25)]),4,96, [(.nil 3),(.nil 3),(.nil 3),(.nil 3)]⟩
 |33=>some ⟨(.int .i64),1,8, [(.d (.sc (.int .i64 0)))]⟩
 |36=>some ⟨(.sl 25),1,24, [(.nil 25)]⟩
 |42=>some ⟨(.st [(0,25),(1,25),(2,25),(3,25)]),4,96, [(.nil 3),(.nil 3),(.nil 3),(.nil 3)]⟩
 |45=>some ⟨(.mp 3 3),1,8, [(.d (.sc (.map none)))]⟩
 |47=>some ⟨(.sl 54),1,24, [(.nil 54)]⟩
 |48=>some ⟨(.sl 47),1,24, [(.nil 47)]⟩
 |50=>some ⟨(.st [(0,47),(1,48)]),2,48, [(.nil 54),(.nil 47)]⟩
 |54=>some ⟨(.st [(0,3),(1,3)]),2,16, [(.d (.sc (.int .i64 0))),(.d (.sc (.int .i64 0)))]⟩
 |56=>some ⟨(.st [(0,3),(1,3)]),2,16, [(.d (.sc (.int .i64 0))),(.d (.sc (.int .i64 0)))]⟩
 |60=>some ⟨.sc,1,8, [(.d (.sc .nilFunc))]⟩
 |64=>some ⟨(.st [(0,33),(1,3),(2,25)]),3,40, [(.d (.sc (.int .i64 0))),(.d (.sc (.int .i64 0))),(.nil 3)]⟩
 |72=>some ⟨(.st [(0,25),(1,25),(2,25),(3,25)]),4,96, [(.nil 3),(.nil 3),(.nil 3),(.nil 3)]⟩
 |77=>some ⟨(.sl 78),1,24, [(.nil 78)]⟩
 |78=>some ⟨(.sl 92),1,24, [(.nil 92)]⟩
 |81=>some ⟨(.pt 146),1,8, [(.d (.sc (.pointer none)))]⟩
 |84=>some ⟨(.pt 86),1,8, [(.d (.sc (.pointer none)))]⟩
 |86=>some ⟨(.st [(0,25),(1,25),(2,32)]),6,144, [(.nil 3),(.nil 3),(.nil 3),(.nil 3),(.nil 3),(.nil 3)]⟩
 |92=>some ⟨(.st [(0,3),(1,3),(2,3)]),3,24, [(.d (.sc (.int .i64 0))),(.d (.sc (.int .i64 0))),(.d (.sc (.int .i64 0)))]⟩
 |107=>some ⟨(.pt 113),1,8, [(.d (.sc (.pointer none)))]⟩
 |113=>some ⟨(.st [(0,24),(2,28),(4,45)]),5,88, [(.d (.sc (.int .i64 0))),(.nil 56),(.nil 3),(.nil 25),(.d (.sc (.map none)))]⟩
 |119=>some ⟨(.pt 121),1,8, [(.d (.sc (.pointer none)))]⟩
 |121=>some ⟨(.st [(0,24),(2,50)]),4,80, [(.d (.sc (.int .i64 0))),(.nil 56),(.nil 54),(.nil 47)]⟩
 |134=>some ⟨(.pt 144),1,8, [(.d (.sc (.pointer none)))]⟩
 |142=>some ⟨(.st [(0,78)]),1,24, [(.nil 92)]⟩
 |144=>some ⟨(.st [(0,142),(1,81),(2,25)]),3,56, [(.nil 92),(.d (.sc (.pointer none))),(.nil 3)]⟩
 |146=>some ⟨(.st [(0,24),(2,26),(3,26)]),4,80, [(.d (.sc (.int .i64 0))),(.nil 56),(.nil 25),(.nil 25)]⟩
 |154=>some ⟨(.pt 156),1,8, [(.d (.sc (.pointer none)))]⟩
 |156=>some ⟨(.st [(0,24),(2,28)]),4,80, [(.d (.sc (.int .i64 0))),(.nil 56),(.nil 3),(.nil 25)]⟩
 |174=>some ⟨(.sl 176),1,24, [(.nil 176)]⟩
 |176=>some ⟨(.st [(0,54),(2,54)]),4,32, [(.d (.sc (.int .i64 0))),(.d (.sc (.int .i64 0))),(.d (.sc (.int .i64 0))),(.d (.sc (.int .i64 0)))]⟩
 |184=>some ⟨(.int .u64),1,8, [(.d (.sc (.int .u64 0)))]⟩
 |185=>some ⟨(.pt 187),1,8, [(.d (.sc (.pointer none)))]⟩
 |187=>some ⟨(.st [(0,24),(2,78),(3,25)]),4,80, [(.d (.sc (.int .i64 0))),(.nil 56),(.nil 92),(.nil 3)]⟩
 |198=>some ⟨(.pt 142),1,8, [(.d (.sc (.pointer none)))]⟩
 |204=>some ⟨(.sl 208),1,24, [(.nil 208)]⟩
 |207=>some ⟨(.int .u64),1,8, [(.d (.sc (.int .u64 0)))]⟩
 |208=>some ⟨(.int .u64),1,8, [(.d (.sc (.int .u64 0)))]⟩
 |221=>some ⟨(.ar 2 3),2,16, [(.d (.sc (.int .i64 0))),(.d (.sc (.int .i64 0)))]⟩
 |222=>some ⟨(.mp 54 3),1,8, [(.d (.sc (.map none)))]⟩
 |223=>some ⟨(.ar 2 54),4,32, [(.d (.sc (.int .i64 0))),(.d (.sc (.int .i64 0))),(.d (.sc (.int .i64 0))),(.d (.sc (.int .i64 0)))]⟩
 |226=>some ⟨(.int .i64),1,8, [(.d (.sc (.int .i64 0)))]⟩
 |233=>some ⟨(.int .u32),1,4, [(.d (.sc (.int .u32 0)))]⟩
 |239=>some ⟨(.sl 4),1,24, [(.nil 4)]⟩
 |241=>some ⟨(.int .u64),1,8, [(.d (.sc (.int .u64 0)))]⟩
 |245=>some ⟨(.pt 3),1,8, [(.d (.sc (.pointer none)))]⟩
 |252=>some ⟨(.pt 241),1,8, [(.d (.sc (.pointer none)))]⟩
 |273=>some ⟨(.pt 5),1,8, [(.d (.sc (.pointer none)))]⟩
 |_=>none
theorem T2:T 2=some ⟨(.int .i64),1,8, [(.d (.sc (.int .i64 0)))]⟩:=rfl
theorem T3:T 3=some ⟨(.int .i64),1,8, [(.d (.sc (.int .i64 0)))]⟩:=rfl
theorem T4:T 4=some ⟨.bool,1,1, [(.d (.sc (.bool false)))]⟩:=rfl
theorem T5:T 5=some ⟨(.int .u8),1,1, [(.d (.sc (.int .u8 0)))]⟩:=rfl
theorem T9:T 9=some ⟨.sc,1,16, [(.d (.sc (.string ⟨#[]⟩)))]⟩:=rfl
theorem T12:T 12=some ⟨(.int .u64),1,8, [(.d (.sc (.int .u64 0)))]⟩:=rfl
theorem T21:T 21=some ⟨(.int .i32),1,4, [(.d (.sc (.int .i32 0)))]⟩:=rfl
theorem T22:T 22=some ⟨(.sl 56),1,24, [(.nil 56)]⟩:=rfl
theorem T24:T 24=some ⟨(.st [(0,3),(1,22)]),2,32, [(.d (.sc (.int .i64 0))),(.nil 56)]⟩:=rfl
theorem T25:T 25=some ⟨(.sl 3),1,24, [(.nil 3)]⟩:=rfl
theorem T26:T 26=some ⟨(.sl 25),1,24, [(.nil 25)]⟩:=rfl
theorem T28:T 28=some ⟨(.st [(0,25),(1,26)]),2,48, [(.nil 3),(.nil 25)]⟩:=rfl
theorem T32:T 32=some ⟨(.st [(0,25),(1,25),(2,25),(3,25)]),4,96, [(.nil 3),(.nil 3),(.nil 3),(.nil 3)]⟩:=rfl
theorem T33:T 33=some ⟨(.int .i64),1,8, [(.d (.sc (.int .i64 0)))]⟩:=rfl
theorem T36:T 36=some ⟨(.sl 25),1,24, [(.nil 25)]⟩:=rfl
theorem T42:T 42=some ⟨(.st [(0,25),(1,25),(2,25),(3,25)]),4,96, [(.nil 3),(.nil 3),(.nil 3),(.nil 3)]⟩:=rfl
theorem T45:T 45=some ⟨(.mp 3 3),1,8, [(.d (.sc (.map none)))]⟩:=rfl
theorem T47:T 47=some ⟨(.sl 54),1,24, [(.nil 54)]⟩:=rfl
theorem T48:T 48=some ⟨(.sl 47),1,24, [(.nil 47)]⟩:=rfl
theorem T50:T 50=some ⟨(.st [(0,47),(1,48)]),2,48, [(.nil 54),(.nil 47)]⟩:=rfl
theorem T54:T 54=some ⟨(.st [(0,3),(1,3)]),2,16, [(.d (.sc (.int .i64 0))),(.d (.sc (.int .i64 0)))]⟩:=rfl
theorem T56:T 56=some ⟨(.st [(0,3),(1,3)]),2,16, [(.d (.sc (.int .i64 0))),(.d (.sc (.int .i64 0)))]⟩:=rfl
theorem T60:T 60=some ⟨.sc,1,8, [(.d (.sc .nilFunc))]⟩:=rfl
theorem T64:T 64=some ⟨(.st [(0,33),(1,3),(2,25)]),3,40, [(.d (.sc (.int .i64 0))),(.d (.sc (.int .i64 0))),(.nil 3)]⟩:=rfl
theorem T72:T 72=some ⟨(.st [(0,25),(1,25),(2,25),(3,25)]),4,96, [(.nil 3),(.nil 3),(.nil 3),(.nil 3)]⟩:=rfl
theorem T77:T 77=some ⟨(.sl 78),1,24, [(.nil 78)]⟩:=rfl
theorem T78:T 78=some ⟨(.sl 92),1,24, [(.nil 92)]⟩:=rfl
theorem T81:T 81=some ⟨(.pt 146),1,8, [(.d (.sc (.pointer none)))]⟩:=rfl
theorem T84:T 84=some ⟨(.pt 86),1,8, [(.d (.sc (.pointer none)))]⟩:=rfl
theorem T86:T 86=some ⟨(.st [(0,25),(1,25),(2,32)]),6,144, [(.nil 3),(.nil 3),(.nil 3),(.nil 3),(.nil 3),(.nil 3)]⟩:=rfl
theorem T92:T 92=some ⟨(.st [(0,3),(1,3),(2,3)]),3,24, [(.d (.sc (.int .i64 0))),(.d (.sc (.int .i64 0))),(.d (.sc (.int .i64 0)))]⟩:=rfl
theorem T107:T 107=some ⟨(.pt 113),1,8, [(.d (.sc (.pointer none)))]⟩:=rfl
theorem T113:T 113=some ⟨(.st [(0,24),(2,28),(4,45)]),5,88, [(.d (.sc (.int .i64 0))),(.nil 56),(.nil 3),(.nil 25),(.d (.sc (.map none)))]⟩:=rfl
theorem T119:T 119=some ⟨(.pt 121),1,8, [(.d (.sc (.pointer none)))]⟩:=rfl
theorem T121:T 121=some ⟨(.st [(0,24),(2,50)]),4,80, [(.d (.sc (.int .i64 0))),(.nil 56),(.nil 54),(.nil 47)]⟩:=rfl
theorem T134:T 134=some ⟨(.pt 144),1,8, [(.d (.sc (.pointer none)))]⟩:=rfl
theorem T142:T 142=some ⟨(.st [(0,78)]),1,24, [(.nil 92)]⟩:=rfl
theorem T144:T 144=some ⟨(.st [(0,142),(1,81),(2,25)]),3,56, [(.nil 92),(.d (.sc (.pointer none))),(.nil 3)]⟩:=rfl
theorem T146:T 146=some ⟨(.st [(0,24),(2,26),(3,26)]),4,80, [(.d (.sc (.int .i64 0))),(.nil 56),(.nil 25),(.nil 25)]⟩:=rfl
theorem T154:T 154=some ⟨(.pt 156),1,8, [(.d (.sc (.pointer none)))]⟩:=rfl
theorem T156:T 156=some ⟨(.st [(0,24),(2,28)]),4,80, [(.d (.sc (.int .i64 0))),(.nil 56),(.nil 3),(.nil 25)]⟩:=rfl
theorem T174:T 174=some ⟨(.sl 176),1,24, [(.nil 176)]⟩:=rfl
theorem T176:T 176=some ⟨(.st [(0,54),(2,54)]),4,32, [(.d (.sc (.int .i64 0))),(.d (.sc (.int .i64 0))),(.d (.sc (.int .i64 0))),(.d (.sc (.int .i64 0)))]⟩:=rfl
theorem T184:T 184=some ⟨(.int .u64),1,8, [(.d (.sc (.int .u64 0)))]⟩:=rfl
theorem T185:T 185=some ⟨(.pt 187),1,8, [(.d (.sc (.pointer none)))]⟩:=rfl
theorem T187:T 187=some ⟨(.st [(0,24),(2,78),(3,25)]),4,80, [(.d (.sc (.int .i64 0))),(.nil 56),(.nil 92),(.nil 3)]⟩:=rfl
theorem T198:T 198=some ⟨(.pt 142),1,8, [(.d (.sc (.pointer none)))]⟩:=rfl
theorem T204:T 204=some ⟨(.sl 208),1,24, [(.nil 208)]⟩:=rfl
theorem T207:T 207=some ⟨(.int .u64),1,8, [(.d (.sc (.int .u64 0)))]⟩:=rfl
theorem T208:T 208=some ⟨(.int .u64),1,8, [(.d (.sc (.int .u64 0)))]⟩:=rfl
theorem T221:T 221=some ⟨(.ar 2 3),2,16, [(.d (.sc (.int .i64 0))),(.d (.sc (.int .i64 0)))]⟩:=rfl
theorem T222:T 222=some ⟨(.mp 54 3),1,8, [(.d (.sc (.map none)))]⟩:=rfl
theorem T223:T 223=some ⟨(.ar 2 54),4,32, [(.d (.sc (.int .i64 0))),(.d (.sc (.int .i64 0))),(.d (.sc (.int .i64 0))),(.d (.sc (.int .i64 0)))]⟩:=rfl
theorem T226:T 226=some ⟨(.int .i64),1,8, [(.d (.sc (.int .i64 0)))]⟩:=rfl
theorem T233:T 233=some ⟨(.int .u32),1,4, [(.d (.sc (.int .u32 0)))]⟩:=rfl
theorem T239:T 239=some ⟨(.sl 4),1,24, [(.nil 4)]⟩:=rfl
theorem T241:T 241=some ⟨(.int .u64),1,8, [(.d (.sc (.int .u64 0)))]⟩:=rfl
theorem T245:T 245=some ⟨(.pt 3),1,8, [(.d (.sc (.pointer none)))]⟩:=rfl
theorem T252:T 252=some ⟨(.pt 241),1,8, [(.d (.sc (.pointer none)))]⟩:=rfl
theorem T273:T 273=some ⟨(.pt 5),1,8, [(.d (.sc (.pointer none)))]⟩:=rfl
def yw:Nat→Option Nat
 |54=>some 2
 |56=>some 2
 |92=>some 3
 |_=>none
theorem eqn54:yw 54=some 2:=rfl
theorem eqn56:yw 56=some 2:=rfl
theorem eqn92:yw 92=some 3:=rfl
theorem PA:aB Tryz.prog 2 ⟨(.int .i64),1,8, [(.d (.sc (.int .i64 0)))]⟩:=aB.mk' (by kernel_rfl) (by kernel_rfl) rfl Tryz.underlying2
theorem PB:aB Tryz.prog 3 ⟨(.int .i64),1,8, [(.d (.sc (.int .i64 0)))]⟩:=aB.mk' (by kernel_rfl) (by kernel_rfl) rfl Tryz.underlying3
theorem PC:aB Tryz.prog 4 ⟨.bool,1,1, [(.d (.sc (.bool false)))]⟩:=aB.mk' (by kernel_rfl) (by kernel_rfl) rfl Tryz.underlying4
theorem PD:aB Tryz.prog 5 ⟨(.int .u8),1,1, [(.d (.sc (.int .u8 0)))]⟩:=aB.mk' (by kernel_rfl) (by kernel_rfl) rfl Tryz.underlying5
theorem PE:aB Tryz.prog 9 ⟨.sc,1,16, [(.d (.sc (.string ⟨#[]⟩)))]⟩:=aB.mk' (by kernel_rfl) (by kernel_rfl) rfl ⟨_,Tryz.underlying9,trivial⟩
theorem MC:aB Tryz.prog 12 ⟨(.int .u64),1,8, [(.d (.sc (.int .u64 0)))]⟩:=aB.mk' (by kernel_rfl) (by kernel_rfl) rfl Tryz.underlying12
theorem MD:aB Tryz.prog 21 ⟨(.int .i32),1,4, [(.d (.sc (.int .i32 0)))]⟩:=aB.mk' (by kernel_rfl) (by kernel_rfl) rfl Tryz.underlying21
theorem ME:aB Tryz.prog 22 ⟨(.sl 56),1,24, [(.nil 56)]⟩:=aB.mk' (by kernel_rfl) (by kernel_rfl) rfl Tryz.underlying22
theorem MF:aB Tryz.prog 24 ⟨(.st [(0,3),(1,22)]),2,32, [(.d (.sc (.int .i64 0))),(.nil 56)]⟩:=aB.mk' (by kernel_rfl) (by kernel_rfl) rfl ⟨_,Tryz.underlying24,rfl⟩
theorem MG:aB Tryz.prog 25 ⟨(.sl 3),1,24, [(.nil 3)]⟩:=aB.mk' (by kernel_rfl) (by kernel_rfl) rfl Tryz.underlying25
theorem MH:aB Tryz.prog 26 ⟨(.sl 25),1,24, [(.nil 25)]⟩:=aB.mk' (by kernel_rfl) (by kernel_rfl) rfl Tryz.underlying26
theorem MI:aB Tryz.prog 28 ⟨(.st [(0,25),(1,26)]),2,48, [(.nil 3),(.nil 25)]⟩:=aB.mk' (by kernel_rfl) (by kernel_rfl) rfl ⟨_,Tryz.underlying28,rfl⟩
theorem MJ:aB Tryz.prog 32 ⟨(.st [(0,25),(1,25),(2,25),(3,25)]),4,96, [(.nil 3),(.nil 3),(.nil 3),(.nil 3)]⟩:=aB.mk' (by kernel_rfl) (by kernel_rfl) rfl ⟨_,Tryz.underlying32,rfl⟩
theorem MK:aB Tryz.prog 33 ⟨(.int .i64),1,8, [(.d (.sc (.int .i64 0)))]⟩:=aB.mk' (by kernel_rfl) (by kernel_rfl) rfl Tryz.underlying33
theorem ML:aB Tryz.prog 36 ⟨(.sl 25),1,24, [(.nil 25)]⟩:=aB.mk' (by kernel_rfl) (by kernel_rfl) rfl Tryz.underlying36
theorem MM:aB Tryz.prog 42 ⟨(.st [(0,25),(1,25),(2,25),(3,25)]),4,96, [(.nil 3),(.nil 3),(.nil 3),(.nil 3)]⟩:=aB.mk' (by kernel_rfl) (by kernel_rfl) rfl ⟨_,Tryz.underlying42,rfl⟩
theorem MN:aB Tryz.prog 45 ⟨(.mp 3 3),1,8, [(.d (.sc (.map none)))]⟩:=aB.mk' (by kernel_rfl) (by kernel_rfl) rfl ⟨Tryz.underlying45,fun w=>by kernel_rfl⟩
theorem MO:aB Tryz.prog 47 ⟨(.sl 54),1,24, [(.nil 54)]⟩:=aB.mk' (by kernel_rfl) (by kernel_rfl) rfl Tryz.underlying47
theorem MP:aB Tryz.prog 48 ⟨(.sl 47),1,24, [(.nil 47)]⟩:=aB.mk' (by kernel_rfl) (by kernel_rfl) rfl Tryz.underlying48
theorem MQ:aB Tryz.prog 50 ⟨(.st [(0,47),(1,48)]),2,48, [(.nil 54),(.nil 47)]⟩:=aB.mk' (by kernel_rfl) (by kernel_rfl) rfl ⟨_,Tryz.underlying50,rfl⟩
theorem MR:aB Tryz.prog 54 ⟨(.st [(0,3),(1,3)]),2,16, [(.d (.sc (.int .i64 0))),(.d (.sc (.int .i64 0)))]⟩:=aB.mk' (by kernel_rfl) (by kernel_rfl) rfl ⟨_,Tryz.underlying54,rfl⟩
theorem MT:aB Tryz.prog 56 ⟨(.st [(0,3),(1,3)]),2,16, [(.d (.sc (.int .i64 0))),(.d (.sc (.int .i64 0)))]⟩:=aB.mk' (by kernel_rfl) (by kernel_rfl) rfl ⟨_,Tryz.underlying56,rfl⟩
theorem MU:aB Tryz.prog 60 ⟨.sc,1,8, [(.d (.sc .nilFunc))]⟩:=aB.mk' (by kernel_rfl) (by kernel_rfl) rfl ⟨_,Tryz.underlying60,trivial⟩
theorem MV:aB Tryz.prog 64 ⟨(.st [(0,33),(1,3),(2,25)]),3,40, [(.d (.sc (.int .i64 0))),(.d (.sc (.int .i64 0))),(.nil 3)]⟩:=aB.mk' (by kernel_rfl) (by kernel_rfl) rfl ⟨_,Tryz.underlying64,rfl⟩
theorem MW:aB Tryz.prog 72 ⟨(.st [(0,25),(1,25),(2,25),(3,25)]),4,96, [(.nil 3),(.nil 3),(.nil 3),(.nil 3)]⟩:=aB.mk' (by kernel_rfl) (by kernel_rfl) rfl ⟨_,Tryz.underlying72,rfl⟩
theorem MX:aB Tryz.prog 77 ⟨(.sl 78),1,24, [(.nil 78)]⟩:=aB.mk' (by kernel_rfl) (by kernel_rfl) rfl Tryz.underlying77
theorem MY:aB Tryz.prog 78 ⟨(.sl 92),1,24, [(.nil 92)]⟩:=aB.mk' (by kernel_rfl) (by kernel_rfl) rfl Tryz.underlying78
theorem MZ:aB Tryz.prog 81 ⟨(.pt 146),1,8, [(.d (.sc (.pointer none)))]⟩:=aB.mk' (by kernel_rfl) (by kernel_rfl) rfl Tryz.underlying81
theorem M0:aB Tryz.prog 84 ⟨(.pt 86),1,8, [(.d (.sc (.pointer none)))]⟩:=aB.mk' (by kernel_rfl) (by kernel_rfl) rfl Tryz.underlying84
theorem M1:aB Tryz.prog 86 ⟨(.st [(0,25),(1,25),(2,32)]),6,144, [(.nil 3),(.nil 3),(.nil 3),(.nil 3),(.nil 3),(.nil 3)]⟩:=aB.mk' (by kernel_rfl) (by kernel_rfl) rfl ⟨_,Tryz.underlying86,rfl⟩
theorem M3:aB Tryz.prog 92 ⟨(.st [(0,3),(1,3),(2,3)]),3,24, [(.d (.sc (.int .i64 0))),(.d (.sc (.int .i64 0))),(.d (.sc (.int .i64 0)))]⟩:=aB.mk' (by kernel_rfl) (by kernel_rfl) rfl ⟨_,Tryz.underlying92,rfl⟩
theorem JM:aB Tryz.prog 107 ⟨(.pt 113),1,8, [(.d (.sc (.pointer none)))]⟩:=aB.mk' (by kernel_rfl) (by kernel_rfl) rfl Tryz.underlying107
theorem JN:aB Tryz.prog 113 ⟨(.st [(0,24),(2,28),(4,45)]),5,88, [(.d (.sc (.int .i64 0))),(.nil 56),(.nil 3),(.nil 25),(.d (.sc (.map none)))]⟩:=aB.mk' (by kernel_rfl) (by kernel_rfl) rfl ⟨_,Tryz.underlying113,rfl⟩
theorem JO:aB Tryz.prog 119 ⟨(.pt 121),1,8, [(.d (.sc (.pointer none)))]⟩:=aB.mk' (by kernel_rfl) (by kernel_rfl) rfl Tryz.underlying119
theorem JP:aB Tryz.prog 121 ⟨(.st [(0,24),(2,50)]),4,80, [(.d (.sc (.int .i64 0))),(.nil 56),(.nil 54),(.nil 47)]⟩:=aB.mk' (by kernel_rfl) (by kernel_rfl) rfl ⟨_,Tryz.underlying121,rfl⟩
theorem JQ:aB Tryz.prog 134 ⟨(.pt 144),1,8, [(.d (.sc (.pointer none)))]⟩:=aB.mk' (by kernel_rfl) (by kernel_rfl) rfl Tryz.underlying134
theorem JR:aB Tryz.prog 142 ⟨(.st [(0,78)]),1,24, [(.nil 92)]⟩:=aB.mk' (by kernel_rfl) (by kernel_rfl) rfl ⟨_,Tryz.underlying142,rfl⟩
theorem JS:aB Tryz.prog 144 ⟨(.st [(0,142),(1,81),(2,25)]),3,56, [(.nil 92),(.d (.sc (.pointer none))),(.nil 3)]⟩:=aB.mk' (by kernel_rfl) (by kernel_rfl) rfl ⟨_,Tryz.underlying144,rfl⟩
theorem JT:aB Tryz.prog 146 ⟨(.st [(0,24),(2,26),(3,26)]),4,80, [(.d (.sc (.int .i64 0))),(.nil 56),(.nil 25),(.nil 25)]⟩:=aB.mk' (by kernel_rfl) (by kernel_rfl) rfl ⟨_,Tryz.underlying146,rfl⟩
theorem JU:aB Tryz.prog 154 ⟨(.pt 156),1,8, [(.d (.sc (.pointer none)))]⟩:=aB.mk' (by kernel_rfl) (by kernel_rfl) rfl Tryz.underlying154
theorem JV:aB Tryz.prog 156 ⟨(.st [(0,24),(2,28)]),4,80, [(.d (.sc (.int .i64 0))),(.nil 56),(.nil 3),(.nil 25)]⟩:=aB.mk' (by kernel_rfl) (by kernel_rfl) rfl ⟨_,Tryz.underlying156,rfl⟩
theorem JW:aB Tryz.prog 174 ⟨(.sl 176),1,24, [(.nil 176)]⟩:=aB.mk' (by kernel_rfl) (by kernel_rfl) rfl Tryz.underlying174
theorem JX:aB Tryz.prog 176 ⟨(.st [(0,54),(2,54)]),4,32, [(.d (.sc (.int .i64 0))),(.d (.sc (.int .i64 0))),(.d (.sc (.int .i64 0))),(.d (.sc (.int .i64 0)))]⟩:=aB.mk' (by kernel_rfl) (by kernel_rfl) rfl ⟨_,Tryz.underlying176,rfl⟩
theorem JY:aB Tryz.prog 184 ⟨(.int .u64),1,8, [(.d (.sc (.int .u64 0)))]⟩:=aB.mk' (by kernel_rfl) (by kernel_rfl) rfl Tryz.underlying184
theorem JZ:aB Tryz.prog 185 ⟨(.pt 187),1,8, [(.d (.sc (.pointer none)))]⟩:=aB.mk' (by kernel_rfl) (by kernel_rfl) rfl Tryz.underlying185
theorem J0:aB Tryz.prog 187 ⟨(.st [(0,24),(2,78),(3,25)]),4,80, [(.d (.sc (.int .i64 0))),(.nil 56),(.nil 92),(.nil 3)]⟩:=aB.mk' (by kernel_rfl) (by kernel_rfl) rfl ⟨_,Tryz.underlying187,rfl⟩
theorem J1:aB Tryz.prog 198 ⟨(.pt 142),1,8, [(.d (.sc (.pointer none)))]⟩:=aB.mk' (by kernel_rfl) (by kernel_rfl) rfl Tryz.underlying198
theorem J2:aB Tryz.prog 204 ⟨(.sl 208),1,24, [(.nil 208)]⟩:=aB.mk' (by kernel_rfl) (by kernel_rfl) rfl Tryz.underlying204
theorem J3:aB Tryz.prog 207 ⟨(.int .u64),1,8, [(.d (.sc (.int .u64 0)))]⟩:=aB.mk' (by kernel_rfl) (by kernel_rfl) rfl Tryz.underlying207
theorem J4:aB Tryz.prog 208 ⟨(.int .u64),1,8, [(.d (.sc (.int .u64 0)))]⟩:=aB.mk' (by kernel_rfl) (by kernel_rfl) rfl Tryz.underlying208
theorem J5:aB Tryz.prog 221 ⟨(.ar 2 3),2,16, [(.d (.sc (.int .i64 0))),(.d (.sc (.int .i64 0)))]⟩:=aB.mk' (by kernel_rfl) (by kernel_rfl) rfl Tryz.underlying221
theorem J6:aB Tryz.prog 222 ⟨(.mp 54 3),1,8, [(.d (.sc (.map none)))]⟩:=aB.mk' (by kernel_rfl) (by kernel_rfl) rfl ⟨Tryz.underlying222,fun w=>by kernel_rfl⟩
theorem J7:aB Tryz.prog 223 ⟨(.ar 2 54),4,32, [(.d (.sc (.int .i64 0))),(.d (.sc (.int .i64 0))),(.d (.sc (.int .i64 0))),(.d (.sc (.int .i64 0)))]⟩:=aB.mk' (by kernel_rfl) (by kernel_rfl) rfl Tryz.underlying223
theorem J8:aB Tryz.prog 226 ⟨(.int .i64),1,8, [(.d (.sc (.int .i64 0)))]⟩:=aB.mk' (by kernel_rfl) (by kernel_rfl) rfl Tryz.underlying226
theorem J9:aB Tryz.prog 233 ⟨(.int .u32),1,4, [(.d (.sc (.int .u32 0)))]⟩:=aB.mk' (by kernel_rfl) (by kernel_rfl) rfl Tryz.underlying233
theorem Ka:aB Tryz.prog 239 ⟨(.sl 4),1,24, [(.nil 4)]⟩:=aB.mk' (by kernel_rfl) (by kernel_rfl) rfl Tryz.underlying239
theorem Kb:aB Tryz.prog 241 ⟨(.int .u64),1,8, [(.d (.sc (.int .u64 0)))]⟩:=aB.mk' (by kernel_rfl) (by kernel_rfl) rfl Tryz.underlying241
theorem Kc:aB Tryz.prog 245 ⟨(.pt 3),1,8, [(.d (.sc (.pointer none)))]⟩:=aB.mk' (by kernel_rfl) (by kernel_rfl) rfl Tryz.underlying245
theorem Ke:aB Tryz.prog 252 ⟨(.pt 241),1,8, [(.d (.sc (.pointer none)))]⟩:=aB.mk' (by kernel_rfl) (by kernel_rfl) rfl Tryz.underlying252
theorem Kf:aB Tryz.prog 273 ⟨(.pt 5),1,8, [(.d (.sc (.pointer none)))]⟩:=aB.mk' (by kernel_rfl) (by kernel_rfl) rfl Tryz.underlying273
theorem M4:nL Tryz.prog 54 2:=nL.two (by kernel_rfl) (by kernel_rfl) Tryz.underlying54 (by decide) rfl Tryz.underlying3 (by decide) rfl Tryz.underlying3
theorem M5:nL Tryz.prog 56 2:=nL.two (by kernel_rfl) (by kernel_rfl) Tryz.underlying56 (by decide) rfl Tryz.underlying3 (by decide) rfl Tryz.underlying3
theorem M6:nL Tryz.prog 92 3:=nL.three (by kernel_rfl) (by kernel_rfl) Tryz.underlying92 (by decide) rfl Tryz.underlying3 (by decide) rfl Tryz.underlying3 (by decide) rfl Tryz.underlying3
set_option maxHeartbeats 4000000 in
theorem PF:∀t ti,T t=some ti→aB Tryz.prog t ti:=by
 intro t ti h
 unfold T at h
 split at h
 ·cases h;exact PA
 ·cases h;exact PB
 ·cases h;exact PC
 ·cases h;exact PD
 ·cases h;exact PE
 ·cases h;exact MC
 ·cases h;exact MD
 ·cases h;exact ME
 ·cases h;exact MF
 ·cases h;exact MG
 ·cases h;exact MH
 ·cases h;exact MI
 ·cases h;exact MJ
 ·cases h;exact MK
 ·cases h;exact ML
 ·cases h;exact MM
 ·cases h;exact MN
 ·cases h;exact MO
 ·cases h;exact MP
 ·cases h;exact MQ
 ·cases h;exact MR
 ·cases h;exact MT
 ·cases h;exact MU
 ·cases h;exact MV
 ·cases h;exact MW
 ·cases h;exact MX
 ·cases h;exact MY
 ·cases h;exact MZ
 ·cases h;exact M0
 ·cases h;exact M1
 ·cases h;exact M3
 ·cases h;exact JM
 ·cases h;exact JN
 ·cases h;exact JO
 ·cases h;exact JP
 ·cases h;exact JQ
 ·cases h;exact JR
 ·cases h;exact JS
 ·cases h;exact JT
 ·cases h;exact JU
 ·cases h;exact JV
 ·cases h;exact JW
 ·cases h;exact JX
 ·cases h;exact JY
 ·cases h;exact JZ
 ·cases h;exact J0
 ·cases h;exact J1
 ·cases h;exact J2
 ·cases h;exact J3
 ·cases h;exact J4
 ·cases h;exact J5
 ·cases h;exact J6
 ·cases h;exact J7
 ·cases h;exact J8
 ·cases h;exact J9
 ·cases h;exact Ka
 ·cases h;exact Kb
 ·cases h;exact Kc
 ·cases h;exact Ke
 ·cases h;exact Kf
 ·cases h
theorem PG:∀t n,yw t=some n→nL Tryz.prog t n:=by
 intro t n h
 unfold yw at h
 split at h
 ·cases h;exact M4
 ·cases h;exact M5
 ·cases h;exact M6
 ·cases h
def cfg (own yh:List Nat):Cfg:=⟨T,own,yw,yh⟩
theorem cfg_T (own yh:List Nat):(cfg own yh).T=T:=rfl
theorem cfg_own (own yh:List Nat):(cfg own yh).own=own:=rfl
theorem cfg_nst (own yh:List Nat):(cfg own yh).yh=yh:=rfl
theorem cfg_eqn (own yh:List Nat):(cfg own yh).yw=yw:=rfl
theorem ai (own yh:List Nat):(cfg own yh).Ok Tryz.prog:=⟨PF,PG⟩
theorem mixed:Tryz.prog.follows .mixedOrders=true:=by kernel_rfl
attribute [go_sem] T2 T3 T4 T5 T9 T12 T21 T22 T24 T25 T26 T28 T32 T33 T36 T42 T45 T47 T48 T50 T54 T56 T60 T64 T72 T77 T78 T81 T84 T86 T92 T107 T113 T119 T121 T134 T142 T144 T146 T154 T156 T174 T176 T184 T185 T187 T198 T204 T207 T208 T221 T222 T223 T226 T233 T239 T241 T245 T252 T273 eqn54 eqn56 eqn92 cfg_T cfg_own cfg_nst cfg_eqn
end Go.Ab.T
end
section
namespace Go.Ab
open Go.Proofs
attribute [local congr] ACall.congr gd.congr Nx.congr
set_option maxRecDepth 10000
def eN (n:Int):AV:= .d (.sc (.int .i64 n))
def eB (b:Bool):AV:= .d (.sc (.bool b))
abbrev Edge:=Int × Int
structure Gr where
 n:Int
 es:List Edge
def rE (e:Edge):List D:= [.sc (.int .i64 e.1), .sc (.int .i64 e.2)]
def rI (n:Int):List D:= [.sc (.int .i64 n)]
def eE (e:Edge):AV:= .agg [.d (.sc (.int .i64 e.1)), .d (.sc (.int .i64 e.2))]
def sE (es:List Edge):D:= .sl 2 (es.map rE)
def sI (l:List Int):D:= .sl 1 (l.map rI)
def eG (g:Gr):AV:= .agg [eN g.n, .d (sE g.es)]
attribute [go_sem] eN eB eE sE sI eG Args AVrs
theorem getD_rE (ps:List Edge) (i:Nat):(ps.map rE).getD i [.sc (.int .i64 0), .sc (.int .i64 0)]= [.sc (.int .i64 (ps.getD i (0,0)).1), .sc (.int .i64 (ps.getD i (0,0)).2)]:=by
 simp only [List.getD_eq_getElem?_getD,List.getElem?_map]
 cases ps[i]? <;>rfl
theorem getD_rI (ps:List Int) (i:Nat):(ps.map rI).getD i [.sc (.int .i64 0)]= [.sc (.int .i64 (ps.getD i 0))]:=by
 simp only [List.getD_eq_getElem?_getD,List.getElem?_map]
 cases ps[i]? <;>rfl
theorem Dc (l:List Int) (k:Nat) (v:Int):(l.map rI).set k [.sc (.int .i64 v)]=(l.set k v).map rI:=by
 rw [List.map_set];rfl
attribute [go_sem] getD_rE getD_rI Int.toNat_natCast List.length_set
def Ry (n:Int):Prop:= -9223372036854775808≤n∧n≤9223372036854775807
def Len (n:Nat):Prop:=n≤9223372036854775807
end Go.Ab
end
section
namespace Go.Ab
open Go.Proofs
attribute [local congr] ACall.congr gd.congr Nx.congr
set_option maxRecDepth 10000
def bV {α:Type} (g:α→Bool) (ps:List α):Int:=match ps.findIdx? g with|some i=>i|none=> -1
theorem cG {α:Type} {g:α→Bool} {ps:List α} (d:α) (h:∀j,j<ps.length→g (ps.getD j d)=false):bV g ps= -1:=by
 have:ps.findIdx? g=none:=by
  rw [List.findIdx?_eq_none_iff]
  intro x hx
  obtain ⟨j,hj,rfl⟩:=List.getElem_of_mem hx
  simpa [List.getD_eq_getElem?_getD,List.getElem?_eq_getElem hj] using h j hj
 simp [bV,this]
theorem dK {α:Type} {g:α→Bool} {ps:List α} {d:α} {k:Nat} (hk:k<ps.length) (h:∀j,j<k→g (ps.getD j d)=false) (hg:g (ps.getD k d)=true):bV g ps=k:=by
 have:ps.findIdx? g=some k:=by
  rw [List.findIdx?_eq_some_iff_getElem]
  refine ⟨hk,by simpa [List.getD_eq_getElem?_getD,List.getElem?_eq_getElem hk] using hg,fun j hj=> ?_⟩
  have:=h j hj
  simpa [List.getD_eq_getElem?_getD,List.getElem?_eq_getElem (Nat.lt_trans hj hk)] using this
 simp [bV,this]
theorem gR {α:Type} (g:α→Bool) (ps:List α):decide (0≤bV g ps)=ps.any g:=by
 cases h:ps.findIdx? g with
 |none=>
  have:bV g ps= -1:=by simp [bV,h]
  rw [this]
  rw [List.findIdx?_eq_none_iff] at h
  symm
  simpa using h
 |some i=>
  have:bV g ps=i:=by simp [bV,h]
  rw [this]
  obtain ⟨hi,hg,_⟩:=List.findIdx?_eq_some_iff_getElem.1 h
  have:ps.any g=true:=List.any_eq_true.2 ⟨_,List.getElem_mem hi,hg⟩
  rw [this];simp
theorem xq {α:Type} (g:α→Bool) (ps:List α):bV g ps= -1∨(0≤bV g ps∧bV g ps<ps.length):=by
 cases h:ps.findIdx? g with
 |none=>exact .inl (by simp [bV,h])
 |some i=>
  obtain ⟨hi,hg,_⟩:=List.findIdx?_eq_some_iff_getElem.1 h
  exact .inr (by simp [bV,h];omega)
theorem xu (rn:List (Nat × Nat)) (h0:rn= []) {m:List (Nat × AObj)} :∀ {r:List (Nat × AObj)},(∀p∈r,look m p.1=some p.2)→leR m rn r
 | [],_=>trivial
 |p::r,h=>by
  subst h0
  have h1:=h p List.mem_cons_self
  refine ⟨?_,xu [] rfl fun q hq=>h q (List.mem_cons_of_mem _ hq)⟩
  have e:renO [] p.2=p.2:=rfl
  show look m p.1=some (renO [] p.2)
  rw [e];exact h1
theorem fk {m:List (Nat × AObj)} (h:bA m):leR m [] m:=xu [] rfl fun _ hp=>aM h.nd hp
theorem bI {m:List (Nat × AObj)} (hR:bA m) (f:Nat) (caps:List AV) (g:Edge→Bool) (hf:∀p,Spec Tryz.prog f (Args (eE p::caps)) m (eB (g p)) m) (ps:List Edge) (hl:ps.length≤9223372036854775807):
 Spec Tryz.prog 111 (Args [.d (sE ps), .fn f [] caps]) m (eN (bV g ps)) m:=by
 (refine Spec.hd (C:=T.cfg [] []) (rs:= [.t 4]) (T.ai _ _) Tryz.func111 rfl rfl Tryz.ntmps111 Tryz.results111 (fun p hp=>⟨(bA.low hR p hp).1,bA.nest hR p hp⟩) (fun p hp=>⟨(bA.low hR p hp).2,bA.nest hR p hp⟩) (by kernel_rfl) T.mixed fun X hX hP hC aK cw=> ?_)
 repeat' (first|refine Rn.p ?_|(with_reducible apply And.intro)|((first|(refine hK _ ?_;clear hK K)|with_reducible intro K hK|refine Rs.p ?_|((with_reducible first|apply oP|apply oQ);exact rfl)|(first|(refine bf hX hC hP hR (hf _) rfl rfl rfl ?_ ?_ rfl rfl ?_;(focus (simp only [go_sem,simprocAttr];done));(focus (first|(intro p hp;exact aM (bA.nd hR) hp)|(simp [go_sem,simprocAttr];done))))|(refine bf hX hC hP hR (hf _) rfl rfl rfl ?_ ?_ ?_ rfl ?_;(focus (simp only [go_sem,simprocAttr];done));(focus (first|(intro p hp;exact aM (bA.nd hR) hp)|(simp [go_sem,simprocAttr];done)));(focus (simp [go_sem,simprocAttr];done)))));try simp only [go_sem,simprocAttr])|((with_reducible refine oD ?_ ?_);kernel_rfl)|((with_reducible intro h);try simp only [go_sem,simprocAttr] at h)|omega|intro h)
 refine ag (fun k:Nat=>k≤ps.length∧∀j,j<k→g (ps.getD j (0,0))=false) (fun k=>⟨[(0, .d (sE ps)),(1, .fn f [] caps),(7,eN ps.length),(8,eN k)],m⟩) (fun k=>ps.length - k) 0 (by simp) ?_ ?_
 ·(refine ⟨bL ?_,fun _ _ h=>h⟩;simp [go_sem,simprocAttr])
 rintro k ⟨hk,hg⟩
 repeat' (first|refine Rn.p ?_|(with_reducible apply And.intro)|((first|(refine hK _ ?_;clear hK K)|with_reducible intro K hK|refine Rs.p ?_|((with_reducible first|apply oP|apply oQ);exact rfl)|(first|(refine bf hX hC hP hR (hf _) rfl rfl rfl ?_ ?_ rfl rfl ?_;(focus (simp only [go_sem,simprocAttr];done));(focus (first|(intro p hp;exact aM (bA.nd hR) hp)|(simp [go_sem,simprocAttr];done))))|(refine bf hX hC hP hR (hf _) rfl rfl rfl ?_ ?_ ?_ rfl ?_;(focus (simp only [go_sem,simprocAttr];done));(focus (first|(intro p hp;exact aM (bA.nd hR) hp)|(simp [go_sem,simprocAttr];done)));(focus (simp [go_sem,simprocAttr];done)))));try simp only [go_sem,simprocAttr])|((with_reducible refine oD ?_ ?_);kernel_rfl)|((with_reducible intro h);try simp only [go_sem,simprocAttr] at h)|omega|intro h)
 ·exact (dK (by omega) hg h).symm
 ·exact fk hR
 ·refine ⟨k+1,⟨by omega,fun j hj=> ?_⟩, ?_,by omega⟩
  ·by_cases hjk:j=k
   ·subst hjk;exact h
   ·exact hg j (by omega)
  ·(refine ⟨bL ?_,fun _ _ h=>h⟩;simp [go_sem,simprocAttr])
 ·exact (cG (0,0) fun j hj=>hg j (by omega)).symm
 ·exact fk hR
theorem cM {m:List (Nat × AObj)} (hR:bA m) (f:Nat) (caps:List AV) (g:Int→Bool) (hf:∀p,Spec Tryz.prog f (Args (eN p::caps)) m (eB (g p)) m) (ps:List Int) (hl:ps.length≤9223372036854775807):
 Spec Tryz.prog 162 (Args [.d (sI ps), .fn f [] caps]) m (eN (bV g ps)) m:=by
 (refine Spec.hd (C:=T.cfg [] []) (rs:= [.t 4]) (T.ai _ _) Tryz.func162 rfl rfl Tryz.ntmps162 Tryz.results162 (fun p hp=>⟨(bA.low hR p hp).1,bA.nest hR p hp⟩) (fun p hp=>⟨(bA.low hR p hp).2,bA.nest hR p hp⟩) (by kernel_rfl) T.mixed fun X hX hP hC aK cw=> ?_)
 repeat' (first|refine Rn.p ?_|(with_reducible apply And.intro)|((first|(refine hK _ ?_;clear hK K)|with_reducible intro K hK|refine Rs.p ?_|((with_reducible first|apply oP|apply oQ);exact rfl)|(first|(refine bf hX hC hP hR (hf _) rfl rfl rfl ?_ ?_ rfl rfl ?_;(focus (simp only [go_sem,simprocAttr];done));(focus (first|(intro p hp;exact aM (bA.nd hR) hp)|(simp [go_sem,simprocAttr];done))))|(refine bf hX hC hP hR (hf _) rfl rfl rfl ?_ ?_ ?_ rfl ?_;(focus (simp only [go_sem,simprocAttr];done));(focus (first|(intro p hp;exact aM (bA.nd hR) hp)|(simp [go_sem,simprocAttr];done)));(focus (simp [go_sem,simprocAttr];done)))));try simp only [go_sem,simprocAttr])|((with_reducible refine oD ?_ ?_);kernel_rfl)|((with_reducible intro h);try simp only [go_sem,simprocAttr] at h)|omega|intro h)
 refine ag (fun k:Nat=>k≤ps.length∧∀j,j<k→g (ps.getD j 0)=false) (fun k=>⟨[(0, .d (sI ps)),(1, .fn f [] caps),(7,eN ps.length),(8,eN k)],m⟩) (fun k=>ps.length - k) 0 (by simp) ?_ ?_
 ·(refine ⟨bL ?_,fun _ _ h=>h⟩;simp [go_sem,simprocAttr])
 rintro k ⟨hk,hg⟩
 repeat' (first|refine Rn.p ?_|(with_reducible apply And.intro)|((first|(refine hK _ ?_;clear hK K)|with_reducible intro K hK|refine Rs.p ?_|((with_reducible first|apply oP|apply oQ);exact rfl)|(first|(refine bf hX hC hP hR (hf _) rfl rfl rfl ?_ ?_ rfl rfl ?_;(focus (simp only [go_sem,simprocAttr];done));(focus (first|(intro p hp;exact aM (bA.nd hR) hp)|(simp [go_sem,simprocAttr];done))))|(refine bf hX hC hP hR (hf _) rfl rfl rfl ?_ ?_ ?_ rfl ?_;(focus (simp only [go_sem,simprocAttr];done));(focus (first|(intro p hp;exact aM (bA.nd hR) hp)|(simp [go_sem,simprocAttr];done)));(focus (simp [go_sem,simprocAttr];done)))));try simp only [go_sem,simprocAttr])|((with_reducible refine oD ?_ ?_);kernel_rfl)|((with_reducible intro h);try simp only [go_sem,simprocAttr] at h)|omega|intro h)
 ·exact (dK (by omega) hg h).symm
 ·exact fk hR
 ·refine ⟨k+1,⟨by omega,fun j hj=> ?_⟩, ?_,by omega⟩
  ·by_cases hjk:j=k
   ·subst hjk;exact h
   ·exact hg j (by omega)
  ·(refine ⟨bL ?_,fun _ _ h=>h⟩;simp [go_sem,simprocAttr])
 ·exact (cG 0 fun j hj=>hg j (by omega)).symm
 ·exact fk hR
theorem nc {m:List (Nat × AObj)} (hR:bA m) (f:Nat) (caps:List AV) (g:Edge→Bool) (hf:∀p,Spec Tryz.prog f (Args (eE p::caps)) m (eB (g p)) m) (ps:List Edge) (hl:ps.length≤9223372036854775807):
 Spec Tryz.prog 144 (Args [.d (sE ps), .fn f [] caps]) m (eB (ps.any g)) m:=by
 (refine Spec.hd (C:=T.cfg [] []) (rs:= [.t 4]) (T.ai _ _) Tryz.func144 rfl rfl Tryz.ntmps144 Tryz.results144 (fun p hp=>⟨(bA.low hR p hp).1,bA.nest hR p hp⟩) (fun p hp=>⟨(bA.low hR p hp).2,bA.nest hR p hp⟩) (by kernel_rfl) T.mixed fun X hX hP hC aK cw=> ?_)
 repeat' (first|refine Rn.p ?_|(with_reducible apply And.intro)|((first|(refine hK _ ?_;clear hK K)|with_reducible intro K hK|refine Rs.p ?_|((with_reducible first|apply oP|apply oQ);exact rfl)|(first|(refine bf hX hC hP hR (bI hR _ _ g hf ps hl) rfl rfl rfl ?_ ?_ rfl rfl ?_;(focus (simp only [go_sem,simprocAttr];done));(focus (first|(intro p hp;exact aM (bA.nd hR) hp)|(simp [go_sem,simprocAttr];done))))|(refine bf hX hC hP hR (bI hR _ _ g hf ps hl) rfl rfl rfl ?_ ?_ ?_ rfl ?_;(focus (simp only [go_sem,simprocAttr];done));(focus (first|(intro p hp;exact aM (bA.nd hR) hp)|(simp [go_sem,simprocAttr];done)));(focus (simp [go_sem,simprocAttr];done)))));try simp only [go_sem,simprocAttr])|((with_reducible refine oD ?_ ?_);kernel_rfl)|((with_reducible intro h);try simp only [go_sem,simprocAttr] at h)|omega|intro h)
 ·exact gR g ps
 ·exact fk hR
def tr (g:Gr) (x:Int):Bool:=decide (x<0)||decide (g.n≤x)
def ot (g:Gr) (e:Edge):Bool:=tr g e.1||tr g e.2
def aP (g:Gr):Bool:=decide (0<g.n)&&decide (g.n≤64)&&decide ((g.es.length:Int)≤128)&& !g.es.any (ot g)
def rG (g:Gr):AObj:= .rob [eN g.n, .d (sE g.es)]
theorem tM (g:Gr) (x:Int):Spec Tryz.prog 143 (Args [eN x, .ptr 10000 0]) [(10000,rG g)] (eB (tr g x)) [(10000,rG g)]:=by
 unfold rG
 (refine Spec.hd (C:=T.cfg [] []) (rs:= [.t 3]) (T.ai _ _) Tryz.func143 rfl rfl Tryz.ntmps143 Tryz.results143 (by simp [AObj.isNest]) (by simp [AObj.isNest]) (by kernel_rfl) T.mixed fun X hX hP hC aK cw=> ?_)
 repeat' (first|refine Rn.p ?_|(with_reducible apply And.intro)|((first|(refine hK _ ?_;clear hK K)|with_reducible intro K hK|refine Rs.p ?_|((with_reducible first|apply oP|apply oQ);exact rfl)|(first|(refine bf hX hC hP hR (bI hR _ _ g hf ps hl) rfl rfl rfl ?_ ?_ rfl rfl ?_;(focus (simp only [go_sem,simprocAttr];done));(focus (first|(intro p hp;exact aM (bA.nd hR) hp)|(simp [go_sem,simprocAttr];done))))|(refine bf hX hC hP hR (bI hR _ _ g hf ps hl) rfl rfl rfl ?_ ?_ ?_ rfl ?_;(focus (simp only [go_sem,simprocAttr];done));(focus (first|(intro p hp;exact aM (bA.nd hR) hp)|(simp [go_sem,simprocAttr];done)));(focus (simp [go_sem,simprocAttr];done)))));try simp only [go_sem,simprocAttr])|((with_reducible refine oD ?_ ?_);kernel_rfl)|((with_reducible intro h);try simp only [go_sem,simprocAttr] at h)|omega|intro h)
 ·simp [tr, *]
 ·simp [tr, *]
theorem FF (g:Gr):bA [(10000,rG g)]:=⟨by simp [rG,AObj.ro],by simp [nodupM,look],by simp,by simp [rG,AObj.ids,AV.ids,AV.idss,eN]⟩
def rF:AObj:= .rob [.fn 143 [] [.ptr 10000 0]]
attribute [go_sem] rG rF
theorem Bb (g:Gr) (e:Edge):Spec Tryz.prog 145 (Args [eE e, .ptr 10001 0]) [(10001,rF),(10000,rG g)] (eB (ot g e)) [(10001,rF),(10000,rG g)]:=by
 unfold rF rG
 (refine Spec.hd (C:=T.cfg [] []) (rs:= [.t 3]) (T.ai _ _) Tryz.func145 rfl rfl Tryz.ntmps145 Tryz.results145 (by simp [AObj.isNest]) (by simp [AObj.isNest]) (by kernel_rfl) T.mixed fun X hX hP hC aK cw=> ?_)
 repeat' (first|refine Rn.p ?_|(with_reducible apply And.intro)|((first|(refine hK _ ?_;clear hK K)|with_reducible intro K hK|refine Rs.p ?_|((with_reducible first|apply oP|apply oQ);exact rfl)|(first|(refine bf hX hC hP (FF g) (tM g _) rfl rfl rfl ?_ ?_ rfl rfl ?_;(focus (simp only [go_sem,simprocAttr];done));(focus (first|(intro p hp;exact aM (bA.nd (FF g)) hp)|(simp [go_sem,simprocAttr];done))))|(refine bf hX hC hP (FF g) (tM g _) rfl rfl rfl ?_ ?_ ?_ rfl ?_;(focus (simp only [go_sem,simprocAttr];done));(focus (first|(intro p hp;exact aM (bA.nd (FF g)) hp)|(simp [go_sem,simprocAttr];done)));(focus (simp [go_sem,simprocAttr];done)))));try simp only [go_sem,simprocAttr])|((with_reducible refine oD ?_ ?_);kernel_rfl)|((with_reducible intro h);try simp only [go_sem,simprocAttr] at h)|omega|intro h)
 ·simp [ot, *]
 ·simp [ot, *]
theorem M7 (g:Gr):bA [(10001,rF),(10000,rG g)]:=⟨by simp [rG,rF,AObj.ro],by simp [nodupM,look],by simp,by simp [rG,rF,AObj.ids,AV.ids,AV.idss,eN,look]⟩
theorem gi (g:Gr) (hl:g.es.length≤9223372036854775807):Spec Tryz.prog 91 (Args [eG g]) [] (eB (aP g)) []:=by
 (refine Spec.hd (C:=T.cfg [] []) (rs:= [.t 2]) (T.ai _ _) Tryz.func91 rfl rfl Tryz.ntmps91 Tryz.results91 (by simp [AObj.isNest]) (by simp [AObj.isNest]) (by kernel_rfl) T.mixed fun X hX hP hC aK cw=> ?_)
 repeat' (first|refine Rn.p ?_|(with_reducible apply And.intro)|((first|(refine hK _ ?_;clear hK K)|with_reducible intro K hK|refine Rs.p ?_|((with_reducible first|apply oP|apply oQ);exact rfl)|(refine aS hX hC hP [(10000,1),(10001,3)] (nc (M7 g) _ _ (ot g) (Bb g) g.es hl) rfl rfl rfl ?_ ?_ ?_ ?_ ?_ ?_ rfl rfl ?_ ?_;(focus (simp only [go_sem,simprocAttr];done));(iterate 6 (focus (simp [go_sem,simprocAttr];done)));try simp only [List.map_cons,List.map_nil]));try simp only [go_sem,simprocAttr])|((with_reducible refine oD ?_ ?_);kernel_rfl)|((with_reducible intro h);try simp only [go_sem,simprocAttr] at h)|omega|intro h)
 all_goals simp [aP, *]
end Go.Ab
end
section
namespace Go.Ab
open Go.Proofs
attribute [local congr] ACall.congr gd.congr Nx.congr
set_option maxRecDepth 10000
def dA (l:List Int) (x:Int):Int:=bV (fun y=>decide (x=y)) l
def HK (l:List Edge) (x:Edge):Int:=bV (fun y=>decide (x=y)) l
theorem Dd (l:List Int) (x:Int):decide (0≤dA l x)=decide (x∈l):=by
 unfold dA;rw [gR,Bool.eq_iff_iff];simp
theorem De (l:List Edge) (x:Edge):decide (0≤HK l x)=decide (x∈l):=by
 unfold HK;rw [gR,Bool.eq_iff_iff];simp [-Prod.exists, -Prod.forall]
theorem rR (x y:Edge):(decide (x.1=y.1)&&decide (x.2=y.2))=decide (x=y):=by
 obtain ⟨a,b⟩:=x;obtain ⟨c,d⟩:=y
 rw [Bool.eq_iff_iff];simp
theorem aQ (ps:List Int) (x:Int) (hl:ps.length≤9223372036854775807):
 Spec Tryz.prog 46 (Args [.d (sI ps),eN x]) [] (eN (dA ps x)) []:=by
 (refine Spec.hd (C:=T.cfg [] []) (rs:= [.t 4]) (T.ai _ _) Tryz.func46 rfl rfl Tryz.ntmps46 Tryz.results46 (by simp [AObj.isNest]) (by simp [AObj.isNest]) (by kernel_rfl) T.mixed fun X hX hP hC aK cw=> ?_)
 repeat' (first|refine Rn.p ?_|(with_reducible apply And.intro)|((first|(refine hK _ ?_;clear hK K)|with_reducible intro K hK|refine Rs.p ?_|((with_reducible first|apply oP|apply oQ);exact rfl));try simp only [go_sem,simprocAttr])|((with_reducible refine oD ?_ ?_);kernel_rfl)|((with_reducible intro h);try simp only [go_sem,simprocAttr] at h)|omega|intro h)
 refine ag (fun k:Nat=>k≤ps.length∧∀j,j<k→decide (x=ps.getD j 0)=false) (fun k=>⟨[(0, .d (sI ps)),(1,eN x),(7,eN ps.length),(8,eN k)], []⟩) (fun k=>ps.length - k) 0 (by simp) ?_ ?_
 ·(refine ⟨bL ?_,fun _ _ h=>h⟩;simp [go_sem,simprocAttr])
 rintro k ⟨hk,hg⟩
 repeat' (first|refine Rn.p ?_|(with_reducible apply And.intro)|((first|(refine hK _ ?_;clear hK K)|with_reducible intro K hK|refine Rs.p ?_|((with_reducible first|apply oP|apply oQ);exact rfl));try simp only [go_sem,simprocAttr])|((with_reducible refine oD ?_ ?_);kernel_rfl)|((with_reducible intro h);try simp only [go_sem,simprocAttr] at h)|omega|intro h)
 ·exact (dK (by omega) hg (by simpa using h)).symm
 ·refine ⟨k+1,⟨by omega,fun j hj=> ?_⟩, ?_,by omega⟩
  ·by_cases hjk:j=k
   ·subst hjk;simpa using h
   ·simpa using hg j (by omega)
  ·(refine ⟨bL ?_,fun _ _ h=>h⟩;simp [go_sem,simprocAttr])
 ·exact (cG 0 fun j hj=>hg j (by omega)).symm
theorem bp (ps:List Int) (x:Int) (hl:ps.length≤9223372036854775807):
 Spec Tryz.prog 164 (Args [.d (sI ps),eN x]) [] (eB (decide (x∈ps))) []:=by
 rw [← Dd]
 (refine Spec.hd (C:=T.cfg [] []) (rs:= [.t 4]) (T.ai _ _) Tryz.func164 rfl rfl Tryz.ntmps164 Tryz.results164 (by simp [AObj.isNest]) (by simp [AObj.isNest]) (by kernel_rfl) T.mixed fun X hX hP hC aK cw=> ?_)
 repeat' (first|refine Rn.p ?_|(with_reducible apply And.intro)|((first|(refine hK _ ?_;clear hK K)|with_reducible intro K hK|refine Rs.p ?_|((with_reducible first|apply oP|apply oQ);exact rfl)|refine aa hX hC hP (aQ ps x hl) rfl rfl rfl (by simp only [go_sem,simprocAttr]) rfl ?_);try simp only [go_sem,simprocAttr])|((with_reducible refine oD ?_ ?_);kernel_rfl)|((with_reducible intro h);try simp only [go_sem,simprocAttr] at h)|omega|intro h)
theorem xw (ps:List Edge) (x:Edge) (hl:ps.length≤9223372036854775807):
 Spec Tryz.prog 160 (Args [.d (sE ps),eE x]) [] (eN (HK ps x)) []:=by
 (refine Spec.hd (C:=T.cfg [] []) (rs:= [.t 4]) (T.ai _ _) Tryz.func160 rfl rfl Tryz.ntmps160 Tryz.results160 (by simp [AObj.isNest]) (by simp [AObj.isNest]) (by kernel_rfl) T.mixed fun X hX hP hC aK cw=> ?_)
 repeat' (first|refine Rn.p ?_|(with_reducible apply And.intro)|((first|(refine hK _ ?_;clear hK K)|with_reducible intro K hK|refine Rs.p ?_|((with_reducible first|apply oP|apply oQ);exact rfl));try simp only [go_sem,simprocAttr])|((with_reducible refine oD ?_ ?_);kernel_rfl)|((with_reducible intro h);try simp only [go_sem,simprocAttr] at h)|omega|intro h)
 refine ag (fun k:Nat=>k≤ps.length∧∀j,j<k→decide (x=ps.getD j (0,0))=false) (fun k=>⟨[(0, .d (sE ps)),(3, .ptr 3 0),(7,eN ps.length),(8,eN k)], [(3, .box [eN x.1,eN x.2])]⟩) (fun k=>ps.length - k) 0 (by simp) ?_ ?_
 ·(refine Le.of ?_ ?_<;>simp [go_sem,simprocAttr])
 rintro k ⟨hk,hg⟩
 repeat' (first|refine Rn.p ?_|(with_reducible apply And.intro)|((first|(refine hK _ ?_;clear hK K)|with_reducible intro K hK|refine Rs.p ?_|((with_reducible first|apply oP|apply oQ);exact rfl));try simp only [go_sem,simprocAttr,rR])|((with_reducible refine oD ?_ ?_);kernel_rfl)|((with_reducible intro h);try simp only [go_sem,simprocAttr,rR] at h)|omega|intro h)
 ·exact (dK (d:=(0,0)) (by omega) hg (by simpa using h)).symm
 ·refine ⟨k+1,⟨by omega,fun j hj=> ?_⟩, ?_,by omega⟩
  ·by_cases hjk:j=k
   ·subst hjk;exact h
   ·simpa using hg j (by omega)
  ·(refine Le.of ?_ ?_<;>simp [go_sem,simprocAttr,rR])
 ·exact (cG (0,0) fun j hj=>hg j (by omega)).symm
theorem dP (ps:List Edge) (x:Edge) (hl:ps.length≤9223372036854775807):
 Spec Tryz.prog 113 (Args [.d (sE ps),eE x]) [] (eB (decide (x∈ps))) []:=by
 rw [← De]
 (refine Spec.hd (C:=T.cfg [] []) (rs:= [.t 4]) (T.ai _ _) Tryz.func113 rfl rfl Tryz.ntmps113 Tryz.results113 (by simp [AObj.isNest]) (by simp [AObj.isNest]) (by kernel_rfl) T.mixed fun X hX hP hC aK cw=> ?_)
 repeat' (first|refine Rn.p ?_|(with_reducible apply And.intro)|((first|(refine hK _ ?_;clear hK K)|with_reducible intro K hK|refine Rs.p ?_|((with_reducible first|apply oP|apply oQ);exact rfl)|refine aa hX hC hP (xw ps x hl) rfl rfl rfl (by simp only [go_sem,simprocAttr,rR]) rfl ?_);try simp only [go_sem,simprocAttr,rR])|((with_reducible refine oD ?_ ?_);kernel_rfl)|((with_reducible intro h);try simp only [go_sem,simprocAttr,rR] at h)|omega|intro h)
theorem ld (ps:List Edge) (hl:ps.length≤1000000):
 Spec Tryz.prog 92 (Args [.d (sE ps)]) [] (.d (sE ps)) []:=by
 (refine Spec.hd (C:=T.cfg [] []) (rs:= [.t 2]) (T.ai _ _) Tryz.func92 rfl rfl Tryz.ntmps92 Tryz.results92 (by simp [AObj.isNest]) (by simp [AObj.isNest]) (by kernel_rfl) T.mixed fun X hX hP hC aK cw=> ?_)
 repeat' (first|refine Rn.p ?_|(with_reducible apply And.intro)|((first|(refine hK _ ?_;clear hK K)|with_reducible intro K hK|refine Rs.p ?_|((with_reducible first|apply oP|apply oQ);exact rfl));try simp only [go_sem,simprocAttr])|((with_reducible refine oD ?_ ?_);kernel_rfl)|((with_reducible intro h);try simp only [go_sem,simprocAttr] at h)|omega|intro h)
 exact h.symm
theorem lg (ps:List Int) (hl:ps.length≤1000000):
 Spec Tryz.prog 44 (Args [.d (sI ps)]) [] (.d (sI ps)) []:=by
 (refine Spec.hd (C:=T.cfg [] []) (rs:= [.t 2]) (T.ai _ _) Tryz.func44 rfl rfl Tryz.ntmps44 Tryz.results44 (by simp [AObj.isNest]) (by simp [AObj.isNest]) (by kernel_rfl) T.mixed fun X hX hP hC aK cw=> ?_)
 repeat' (first|refine Rn.p ?_|(with_reducible apply And.intro)|((first|(refine hK _ ?_;clear hK K)|with_reducible intro K hK|refine Rs.p ?_|((with_reducible first|apply oP|apply oQ);exact rfl));try simp only [go_sem,simprocAttr])|((with_reducible refine oD ?_ ?_);kernel_rfl)|((with_reducible intro h);try simp only [go_sem,simprocAttr] at h)|omega|intro h)
 exact h.symm
theorem tN {α:Type} {xs ys:List α} (d:α) {k:Nat} (h1:k<xs.length) (h2:k<ys.length) (h:xs.take k=ys.take k) (he:xs.getD k d=ys.getD k d):xs.take (k+1)=ys.take (k+1):=by
 rw [List.take_add_one,List.take_add_one,h,List.getElem?_eq_getElem h1,List.getElem?_eq_getElem h2]
 simp only [List.getD_eq_getElem?_getD,List.getElem?_eq_getElem h1,List.getElem?_eq_getElem h2,Option.getD_some] at he
 rw [he]
theorem mI (xs ys:List Int) (hlen:xs.length≤9223372036854775807):Spec Tryz.prog 35 (Args [.d (sI xs), .d (sI ys)]) [] (eB (decide (xs=ys))) []:=by
 (refine Spec.hd (C:=T.cfg [] []) (rs:= [.t 4]) (T.ai _ _) Tryz.func35 rfl rfl Tryz.ntmps35 Tryz.results35 (by simp [AObj.isNest]) (by simp [AObj.isNest]) (by kernel_rfl) T.mixed fun X hX hP hC aK cw=> ?_)
 repeat' (first|refine Rn.p ?_|(with_reducible apply And.intro)|((first|(refine hK _ ?_;clear hK K)|with_reducible intro K hK|refine Rs.p ?_|((with_reducible first|apply oP|apply oQ);exact rfl));try simp only [go_sem,simprocAttr])|((with_reducible refine oD ?_ ?_);kernel_rfl)|((with_reducible intro h);try simp only [go_sem,simprocAttr] at h)|omega|intro h)
 ·have:xs≠ys:=fun e=>h (by rw [e])
  simp [this]
 refine ag (fun k:Nat=>k≤xs.length∧xs.take k=ys.take k) (fun k=>⟨[(0, .d (sI xs)),(1, .d (sI ys)),(5,eN k)], []⟩) (fun k=>xs.length - k) 0 (by simp) ?_ ?_
 ·(refine ⟨bL ?_,fun _ _ h=>h⟩;simp [go_sem,simprocAttr])
 rintro k ⟨hk,hp⟩
 have AO:xs.length=ys.length:=by omega
 repeat' (first|refine Rn.p ?_|(with_reducible apply And.intro)|((first|(refine hK _ ?_;clear hK K)|with_reducible intro K hK|refine Rs.p ?_|((with_reducible first|apply oP|apply oQ);exact rfl));try simp only [go_sem,simprocAttr])|((with_reducible refine oD ?_ ?_);kernel_rfl)|((with_reducible intro h);try simp only [go_sem,simprocAttr] at h)|omega|intro h)
 ·have:xs≠ys:=fun e=>h (by rw [e])
  simp [this]
 ·refine ⟨k+1,⟨by omega,tN 0 (by omega) (by omega) hp h⟩, ?_,by omega⟩
  (refine ⟨bL ?_,fun _ _ h=>h⟩;simp [go_sem,simprocAttr])
 ·have:k=xs.length:=by omega
  subst this
  rw [List.take_of_length_le (Nat.le_refl _),List.take_of_length_le (by omega)] at hp
  simp [hp]
theorem Df {α:Type} {f:α→Bool} {xs:List α} (d:α) {k:Nat} (h1:k<xs.length) (h:(xs.take k).any f=false) (he:f (xs.getD k d)=false):(xs.take (k+1)).any f=false:=by
 rw [List.take_add_one,List.any_append,h,List.getElem?_eq_getElem h1]
 simp only [List.getD_eq_getElem?_getD,List.getElem?_eq_getElem h1,Option.getD_some] at he
 simp [he]
theorem HL {α:Type} {f:α→Bool} {xs:List α} {d:α} {k:Nat} (h1:k<xs.length) (he:f (xs.getD k d)=true):xs.any f=true:=by
 rw [List.any_eq_true]
 refine ⟨_,List.getElem_mem h1, ?_⟩
 simpa only [List.getD_eq_getElem?_getD,List.getElem?_eq_getElem h1,Option.getD_some] using he
theorem xx {g:Gr} {k:Nat} (h1:k<g.es.length) (he:ot g (g.es.getD k (0,0))=true):false=aP g:=by
 simp [aP,HL h1 he]
theorem cB (g:Gr) (hl:g.es.length≤9223372036854775807):Spec Tryz.prog 49 (Args [eG g]) [] (eB (aP g)) []:=by
 (refine Spec.hd (C:=T.cfg [] []) (rs:= [.t 2]) (T.ai _ _) Tryz.func49 rfl rfl Tryz.ntmps49 Tryz.results49 (by simp [AObj.isNest]) (by simp [AObj.isNest]) (by kernel_rfl) T.mixed fun X hX hP hC aK cw=> ?_)
 repeat' (first|refine Rn.p ?_|(with_reducible apply And.intro)|((first|(refine hK _ ?_;clear hK K)|with_reducible intro K hK|refine Rs.p ?_|((with_reducible first|apply oP|apply oQ);exact rfl));try simp only [go_sem,simprocAttr])|((with_reducible refine oD ?_ ?_);kernel_rfl)|((with_reducible intro h);try simp only [go_sem,simprocAttr] at h)|omega|intro h)
 any_goals (simp [aP];omega)
 refine ag (fun k:Nat=>k≤g.es.length∧(g.es.take k).any (ot g)=false) (fun k=>⟨[(1, .ptr 1 0),(3,eN k)], [(1, .box [eN g.n, .d (sE g.es)])]⟩) (fun k=>g.es.length - k) 0 (by simp) ?_ ?_
 ·(refine Le.of ?_ ?_<;>simp [go_sem,simprocAttr])
 rintro k ⟨hk,hp⟩
 repeat' (first|refine Rn.p ?_|(with_reducible apply And.intro)|((first|(refine hK _ ?_;clear hK K)|with_reducible intro K hK|refine Rs.p ?_|((with_reducible first|apply oP|apply oQ);exact rfl));try simp only [go_sem,simprocAttr])|((with_reducible refine oD ?_ ?_);kernel_rfl)|((with_reducible intro h);try simp only [go_sem,simprocAttr] at h)|omega|intro h)
 any_goals (refine xx (k:=k) (by omega) ?_;simp only [ot,tr,Bool.or_eq_true,decide_eq_true_eq];omega)
 ·refine ⟨k+1,⟨by omega,Df (0,0) (by omega) hp ?_⟩, ?_,by omega⟩
  ·simp only [ot,tr,Bool.or_eq_false_iff,decide_eq_false_iff_not];omega
  ·(refine Le.of ?_ ?_<;>simp [go_sem,simprocAttr])
 ·rw [List.take_of_length_le (by omega)] at hp
  simp [aP,hp];omega
end Go.Ab
end
section
namespace Go.Ab
open Go.Proofs
attribute [local congr] ACall.congr gd.congr Nx.congr
set_option maxRecDepth 10000
set_option maxHeartbeats 8000000
def eP (f:Edge→Int) (es:List Edge) (k:Nat) (x:Nat):List Int:=((List.range k).filter fun i=>decide (f (es.getD i (0,0))=(x:Int))).map Int.ofNat
def mJ (f:Edge→Int) (es:List Edge) (n k:Nat):List (List (List D)):=(List.range n).map fun x=>(eP f es k x).map rI
def sL (ls:List (List Int)):D:= .sl 1 (ls.map fun l=> [sI l])
def di (f:Edge→Int) (g:Gr):List (List Int):=(List.range g.n.toNat).map (eP f g.es g.es.length)
def vw (g:Gr):D:= .pt [.sc (.int .i64 g.n),sE g.es,sL (di (·.1) g),sL (di (·.2) g)]
theorem aU {g:Gr} (h:aP g=true):0<g.n∧g.n≤64∧g.es.length≤128:=by
 simp [aP] at h;omega
theorem eA {g:Gr} (h:aP g=true) {k:Nat} (hk:k<g.es.length):(0≤(g.es.getD k (0,0)).1∧(g.es.getD k (0,0)).1<g.n)∧(0≤(g.es.getD k (0,0)).2∧(g.es.getD k (0,0)).2<g.n):=by
 have h2:=xx (g:=g) hk
 rw [h] at h2
 have h3:¬ot g (g.es.getD k (0,0))=true:=fun e=>by simpa using h2 e
 simp only [ot,tr,Bool.or_eq_true,decide_eq_true_eq] at h3
 omega
theorem b9 {f:Edge→Int} {es:List Edge} {n k:Nat} :(mJ f es n k).length=n:=by simp [mJ]
theorem jA {f:Edge→Int} {es:List Edge} {n k x:Nat} (hx:x<n):(mJ f es n k)[x]? =some ((eP f es k x).map rI):=by
 simp [mJ,List.getElem?_range hx]
theorem gS {f:Edge→Int} {es:List Edge} {k x:Nat} :(eP f es k x).length≤k:=by
 simpa [eP] using List.length_filter_le (fun i=>decide (f (es.getD i (0,0))=(x:Int))) (List.range k)
theorem yQ {f:Edge→Int} {es:List Edge} {k x:Nat} :eP f es (k+1) x=eP f es k x++if f (es.getD k (0,0))=(x:Int) then [(k:Int)] else []:=by
 simp only [eP,List.range_succ,List.filter_append,List.map_append,List.filter_cons,List.filter_nil]
 split<;>simp_all
theorem rS {f:Edge→Int} {es:List Edge} {n k:Nat} (h0:0≤f (es.getD k (0,0))):
 (mJ f es n k).set (f (es.getD k (0,0))).toNat ((eP f es k (f (es.getD k (0,0))).toNat).map rI++ [[.sc (.int .i64 k)]])=mJ f es n (k+1):=by
 refine List.ext_getElem? fun i=> ?_
 rw [List.getElem?_set,b9]
 by_cases hi:i<n
 ·rw [jA hi,jA hi,yQ]
  generalize f (es.getD k (0,0))=e at*
  by_cases hq:e=(i:Int)
  ·subst hq;simp [hi,rI]
  ·have:¬e.toNat=i:=by omega
   simp [hq,this]
 ·rw [List.getElem?_eq_none (by rw [b9];omega),List.getElem?_eq_none (by rw [b9];omega)]
  generalize f (es.getD k (0,0))=e at*
  split
  ·rename_i hq;rw [if_neg (by omega)]
  ·rfl
theorem rV {f:Edge→Int} {es:List Edge} {n:Nat} :List.replicate n []=mJ f es n 0:=by
 refine List.ext_getElem? fun i=> ?_
 by_cases hi:i<n
 ·rw [jA hi];simp [hi,eP]
 ·rw [List.getElem?_eq_none (by simp;omega),List.getElem?_eq_none (by rw [b9];omega)]
theorem fV (g:Gr) (hm:aP g=true):Spec Tryz.prog 40 (Args [eG g]) [] (.d (vw g)) []:=by
 have hn:=aU hm
 have hl:g.es.length≤9223372036854775807:=by omega
 have hl':g.es.length≤1000000:=by omega
 (refine Spec.hd (C:=T.cfg [] [13,16]) (rs:= [.t 2]) (T.ai _ _) Tryz.func40 rfl rfl Tryz.ntmps40 Tryz.results40 (by simp [AObj.isNest]) (by simp [AObj.isNest]) (by kernel_rfl) T.mixed fun X hX hP hC aK cw=> ?_)
 repeat' (first|refine Rn.p ?_|(with_reducible apply And.intro)|((first|(refine hK _ ?_;clear hK K)|with_reducible intro K hK|refine Rs.p ?_|((with_reducible first|apply oP|apply oQ);exact rfl)|refine aa hX hC hP (gi g hl) rfl rfl rfl (by simp only [go_sem,simprocAttr,hm]) rfl ?_|refine aa hX hC hP (ld g.es hl') rfl rfl rfl (by simp only [go_sem,simprocAttr,hm]) rfl ?_);try simp only [go_sem,simprocAttr,hm])|((with_reducible refine oD ?_ ?_);kernel_rfl)|((with_reducible intro h);try simp only [go_sem,simprocAttr,hm] at h)|omega|intro h)
 refine xm hX 13 (by simp [go_sem,simprocAttr,hm];exact ⟨rfl,rfl,rfl,rfl⟩) (by decide) (by simp [go_sem,simprocAttr,hm]) (by simp [go_sem,simprocAttr,hm]) ?_
 refine xm hX 16 (by simp [go_sem,simprocAttr,hm];exact ⟨rfl,rfl,rfl,rfl⟩) (by decide) (by simp [go_sem,simprocAttr,hm]) (by simp [go_sem,simprocAttr,hm]) ?_
 simp only [go_sem,simprocAttr,hm]
 refine ag (fun k:Nat=>k≤g.es.length) (fun k=>⟨[(29,eN k),(28,eN g.es.length),(27, .d (sE g.es)),(3, .ptr 18 0)], [(18, .box [eN g.n, .d (sE g.es), .ref 13, .ref 16]),(16, .nest 25 3 1 (mJ (·.2) g.es g.n.toNat k) none),(13, .nest 25 3 1 (mJ (·.1) g.es g.n.toNat k) none)]⟩) (fun k=>g.es.length - k) 0 (by simp) ?_ ?_
 ·refine Le.of ?_ ?_<;>simp [go_sem,simprocAttr,hm]
  exact ⟨rV,rV⟩
 rintro k hk
 rcases Nat.lt_or_ge k g.es.length with hlt|hge
 ·have hb:decide ((k:Int)<(g.es.length:Int))=true:=decide_eq_true (by omega)
  obtain ⟨qd,we⟩:=eA hm hlt
  have ET:=jA (f:=(·.1)) (es:=g.es) (k:=k) (show (g.es.getD k (0,0)).1.toNat<g.n.toNat by omega)
  have EU:=jA (f:=(·.2)) (es:=g.es) (k:=k) (show (g.es.getD k (0,0)).2.toNat<g.n.toNat by omega)
  have M8:=gS (f:=(·.1)) (es:=g.es) (k:=k) (x:=(g.es.getD k (0,0)).1.toNat)
  have PI:=gS (f:=(·.2)) (es:=g.es) (k:=k) (x:=(g.es.getD k (0,0)).2.toNat)
  repeat' (first|refine Rn.p ?_|(with_reducible apply And.intro)|((first|(refine hK _ ?_;clear hK K)|with_reducible intro K hK|refine Rs.p ?_|((with_reducible first|apply oP|apply oQ);exact rfl)|refine aa hX hC hP (gi g hl) rfl rfl rfl (by simp only [go_sem,simprocAttr,hm,hb,ET,EU,b9]) rfl ?_|refine aa hX hC hP (ld g.es hl') rfl rfl rfl (by simp only [go_sem,simprocAttr,hm,hb,ET,EU,b9]) rfl ?_);try simp only [go_sem,simprocAttr,hm,hb,ET,EU,b9])|((with_reducible refine oD ?_ ?_);first|(focus (simp only [wg,lW,gE,meets,rz,mZ,AY,dD,og,mH,Rec.rs,Rec.o3,Rec.GD,fh,Rec.dw,Rec.names,KV.ids,CZ,C0,C3,C4,C5,C6,List.zip_cons_cons,List.zip_nil_right,List.zipIdx_cons,List.zipIdx_nil,List.all_cons,List.all_nil,List.contains_cons,List.contains_nil,List.any_cons,List.any_nil,List.flatMap_nil,List.reverse_cons,List.reverse_nil,jc,AW,Region.binds,go_sem,simprocAttr,hm,hb,ET,EU,b9];done))|kernel_rfl)|((with_reducible intro h);try simp only [go_sem,simprocAttr,hm,hb,ET,EU,b9] at h)|omega|intro h)
  refine ⟨k+1,by omega, ?_,by omega⟩
  refine Le.of ?_ ?_<;>simp [go_sem,simprocAttr,hm,hb,ET,EU,b9]
  exact ⟨rS (f:=(·.2)) we.1,rS (f:=(·.1)) qd.1⟩
 ·repeat' (first|refine Rn.p ?_|(with_reducible apply And.intro)|((first|(refine hK _ ?_;clear hK K)|with_reducible intro K hK|refine Rs.p ?_|((with_reducible first|apply oP|apply oQ);exact rfl)|refine aa hX hC hP (gi g hl) rfl rfl rfl (by simp only [go_sem,simprocAttr]) rfl ?_|refine aa hX hC hP (ld g.es hl') rfl rfl rfl (by simp only [go_sem,simprocAttr]) rfl ?_);try simp only [go_sem,simprocAttr])|((with_reducible refine oD ?_ ?_);first|(focus (simp only [wg,lW,gE,meets,rz,mZ,AY,dD,og,mH,Rec.rs,Rec.o3,Rec.GD,fh,Rec.dw,Rec.names,KV.ids,CZ,C0,C3,C4,C5,C6,List.zip_cons_cons,List.zip_nil_right,List.zipIdx_cons,List.zipIdx_nil,List.all_cons,List.all_nil,List.contains_cons,List.contains_nil,List.any_cons,List.any_nil,List.flatMap_nil,List.reverse_cons,List.reverse_nil,jc,AW,Region.binds,go_sem,simprocAttr];done))|kernel_rfl)|((with_reducible intro h);try simp only [go_sem,simprocAttr] at h)|omega|intro h)
  have:k=g.es.length:=by omega
  subst this
  simp only [vw,sE,sL,di,mJ,List.map_map]
  rfl
end Go.Ab
end
section
namespace Go.Ab
open Go.Proofs
attribute [local congr] ACall.congr gd.congr Nx.congr
set_option maxRecDepth 10000
def tl (g:Gr) (i:Nat):Int:=(g.es.getD i (0,0)).1
def hd (g:Gr) (i:Nat):Int:=(g.es.getD i (0,0)).2
def wt (g:Gr) (out:List Int) (y:Nat):Int:=
 if (y:Int)∈out then -1 else (((List.range g.es.length).countP fun i=>decide (hd g i=(y:Int))&& !decide (tl g i∈out):Nat):Int)
def cE (g:Gr) (out:List Int):List Int:=(List.range g.n.toNat).map (wt g out)
def tu (g:Gr):Nat→List Int→List Int
 |0,out=>out
 |f+1,out=>if dA (cE g out) 0<0 then out else tu g f (out++ [dA (cE g out) 0])
def aI (g:Gr):List Int:=tu g g.n.toNat []
structure ef (g:Gr) (out:List Int):Prop where
 lo:∀x∈out,0≤x∧x<g.n
 back:∀i,i<g.es.length→hd g i∈out→tl g i∈out
 fuel:out.length+(List.range g.n.toNat).countP (fun y:Nat=> !decide ((y:Int)∈out))=g.n.toNat
theorem eC {α:Type} {f:α→Bool} {l:List α} (d:α):bV f l= -1∧(∀x∈l,f x=false)∨∃k:Nat,bV f l=k∧k<l.length∧f (l.getD k d)=true∧∀j,j<k→f (l.getD j d)=false:=by
 cases h:l.findIdx? f with
 |none=>
  rw [List.findIdx?_eq_none_iff] at h
  exact .inl ⟨by simp [bV,List.findIdx?_eq_none_iff.2 h],h⟩
 |some i=>
  obtain ⟨hi,hg,hb⟩:=List.findIdx?_eq_some_iff_getElem.1 h
  refine .inr ⟨i,by simp [bV,h],hi,by simpa [List.getD_eq_getElem?_getD,List.getElem?_eq_getElem hi] using hg,fun j hj=> ?_⟩
  have hjl:j<l.length:=by omega
  have:=hb j hj
  simpa [List.getD_eq_getElem?_getD,List.getElem?_eq_getElem hjl] using this
theorem wts_length {g:Gr} {out:List Int} :(cE g out).length=g.n.toNat:=by simp [cE]
theorem lp {g:Gr} {out:List Int} {y:Nat} (h:y<g.n.toNat) (d:Int):(cE g out).getD y d=wt g out y:=by
 simp [cE,List.getD_eq_getElem?_getD,List.getElem?_range h]
theorem lu {p:Nat→Bool} {x:Nat} (hx:p x=true):∀ {n:Nat},x<n→(List.range n).countP (fun y=>p y&& !decide (y=x))+1=(List.range n).countP p
 |0,h=>by omega
 |n+1,h=>by
  rw [List.range_succ,List.countP_append,List.countP_append]
  by_cases Dg:x=n
  ·subst Dg
   have:(List.range x).countP (fun y=>p y&& !decide (y=x))=(List.range x).countP p:=by
    refine List.countP_congr fun y hy=> ?_
    have:y≠x:=by have:=List.mem_range.1 hy;omega
    simp [this]
   rw [this]
   simp [List.countP_cons,hx]
  ·have:=lu hx (n:=n) (by omega)
   have hn:n≠x:=fun e=>Dg e.symm
   simp only [List.countP_cons,List.countP_nil,hn,decide_false,Bool.not_false,Bool.and_true]
   omega
theorem ef.nil (g:Gr):ef g []:=⟨by simp,by simp,by rw [List.countP_eq_length_filter,List.filter_eq_self.2 (by simp)];simp⟩
theorem ef.next {g:Gr} (hm:aP g=true) {out:List Int} (h:ef g out) {x:Nat} (hx:x<g.n.toNat) (hw:wt g out x=0):ef g (out++ [(x:Int)])∧(x:Int)∉out∧(∀i,i<g.es.length→hd g i=x→tl g i∈out):=by
 have kJ:(x:Int)∉out:=fun hi=>by simp [wt,hi] at hw
 have hb:∀i,i<g.es.length→hd g i=x→tl g i∈out:=by
  intro i hi he
  simp only [wt,kJ,if_false] at hw
  have:=List.countP_eq_zero.1 (Int.ofNat.inj hw) i (List.mem_range.2 hi)
  simpa [he] using this
 refine ⟨⟨?_, ?_, ?_⟩,kJ,hb⟩
 ·intro y hy
  rcases List.mem_append.1 hy with hy|hy
  ·exact h.lo y hy
  ·simp at hy;omega
 ·intro i hi hh
  rcases List.mem_append.1 hh with hh|hh
  ·exact List.mem_append_left _ (h.back i hi hh)
  ·simp at hh
   exact List.mem_append_left _ (hb i hi hh)
 ·have h1:=h.fuel
  have h2:=lu (p:=fun y:Nat=> !decide ((y:Int)∈out)) (x:=x) (by simp [kJ]) hx
  have h3:(List.range g.n.toNat).countP (fun y:Nat=> !decide ((y:Int)∈out++ [(x:Int)]))=(List.range g.n.toNat).countP (fun y:Nat=>(!decide ((y:Int)∈out))&& !decide (y=x)):=by
   refine List.countP_congr fun y _=> ?_
   simp;omega
  rw [h3,List.length_append,List.length_singleton]
  omega
def iH (g:Gr) (x:Nat):List Int:=eP (·.1) g.es g.es.length x
def pF (g:Gr) (x:Nat):List Int:=eP (·.2) g.es g.es.length x
theorem Dh {g:Gr} {x:Nat} {e:Int} (h:e∈iH g x):∃i:Nat,e=i∧i<g.es.length∧tl g i=x:=by
 simp only [iH,eP,List.mem_map,List.mem_filter,List.mem_range,decide_eq_true_eq] at h
 obtain ⟨i,⟨h1,h2⟩,rfl⟩:=h
 exact ⟨i,rfl,h1,h2⟩
def B8 (g:Gr) (out:List Int) (x j y:Nat):Int:=
 if (y:Int)∈out++ [(x:Int)] then -1 else (((List.range g.es.length).countP fun i=>decide (hd g i=(y:Int))&& !decide (tl g i∈out):Nat):Int) - (((iH g x).take j).countP fun e=>decide (hd g e.toNat=(y:Int)):Nat)
def tw (g:Gr) (out:List Int) (x j:Nat):List Int:=(List.range g.n.toNat).map (B8 g out x j)
theorem wtps_length {g:Gr} {out:List Int} {x j:Nat} :(tw g out x j).length=g.n.toNat:=by simp [tw]
theorem ou {g:Gr} {out:List Int} {x j y:Nat} (h:y<g.n.toNat):(tw g out x j)[y]? =some (B8 g out x j y):=by
 simp [tw,List.getElem?_range h]
theorem kg {g:Gr} {out:List Int} {y:Nat} (h:y<g.n.toNat):(cE g out)[y]? =some (wt g out y):=by
 simp [cE,List.getElem?_range h]
theorem Bc {g:Gr} {out:List Int} {x:Nat} :(cE g out).set x (-1)=tw g out x 0:=by
 refine List.ext_getElem? fun i=> ?_
 rw [List.getElem?_set,wts_length]
 by_cases hi:i<g.n.toNat
 ·rw [kg hi,ou hi]
  by_cases hx:x=i
  ·subst hx;simp [hi,B8]
  ·have:¬i=x:=fun e=>hx e.symm
   simp only [hx,if_false,B8,wt,List.mem_append,List.mem_singleton,List.take_zero,List.countP_nil]
   have h2:¬(i:Int)=(x:Int):=by omega
   simp [h2]
 ·rw [List.getElem?_eq_none (by rw [wts_length];omega),List.getElem?_eq_none (by rw [wtps_length];omega)]
  split
  ·rw [if_neg (by omega)]
  ·rfl
theorem ki {α:Type} {p q r:α→Bool} :∀ {l:List α},(∀a∈l,p a=(q a||r a)∧(q a&&r a)=false)→l.countP p=l.countP q+l.countP r
 | [],_=>rfl
 |a::l,h=>by
  obtain ⟨h1,h2⟩:=h a List.mem_cons_self
  have:=ki (l:=l) fun b hb=>h b (List.mem_cons_of_mem _ hb)
  simp only [List.countP_cons,this,h1]
  cases hq:q a<;>cases hr:r a<;>simp [hq,hr] at h2 ⊢ <;>omega
theorem Di {g:Gr} {out:List Int} {x j:Nat} (hx:(x:Int)∉out) (hj:(iH g x).length≤j):tw g out x j=cE g (out++ [(x:Int)]):=by
 refine List.map_congr_left fun y _=> ?_
 simp only [B8,wt]
 split
 ·rfl
 ·rw [List.take_of_length_le hj]
  have h1:(iH g x).countP (fun e=>decide (hd g e.toNat=(y:Int)))=(List.range g.es.length).countP (fun i=>decide (hd g i=(y:Int))&&decide (tl g i=(x:Int))):=by
   simp only [iH,eP,List.countP_map,List.countP_filter]
   exact List.countP_congr fun i _=>by simp [tl]
  have h2:=ki (p:=fun i=>decide (hd g i=(y:Int))&& !decide (tl g i∈out)) (q:=fun i=>decide (hd g i=(y:Int))&& !decide (tl g i∈out++ [(x:Int)])) (r:=fun i=>decide (hd g i=(y:Int))&&decide (tl g i=(x:Int))) (l:=List.range g.es.length) (fun i _=>by
   by_cases h3:tl g i=x
   ·simp [h3,hx]
   ·simp [h3])
  rw [h1,h2];omega
theorem HM {g:Gr} {out:List Int} {x:Nat} (hP:ef g out) (kJ:(x:Int)∉out) (hb:∀i,i<g.es.length→hd g i=x→tl g i∈out) {i:Nat} (hi:i<g.es.length) (ht:tl g i=x):hd g i∉out++ [(x:Int)]:=by
 intro h
 rcases List.mem_append.1 h with h|h
 ·exact kJ (ht ▸ hP.back i hi h)
 ·simp at h
  exact kJ (ht ▸ hb i hi h)
theorem Bd {g:Gr} {out:List Int} {x j i:Nat} (hj:(iH g x)[j]? =some (i:Int)) (h0:0≤hd g i) (hn:hd g i∉out++ [(x:Int)]):
 (tw g out x j).set (hd g i).toNat (B8 g out x j (hd g i).toNat - 1)=tw g out x (j+1):=by
 refine List.ext_getElem? fun y=> ?_
 rw [List.getElem?_set,wtps_length]
 by_cases hy:y<g.n.toNat
 ·rw [ou hy,ou hy]
  have ht:((iH g x).take (j+1)).countP (fun e=>decide (hd g e.toNat=(y:Int)))=((iH g x).take j).countP (fun e=>decide (hd g e.toNat=(y:Int)))+if hd g i=(y:Int) then 1 else 0:=by
   rw [List.take_add_one,List.countP_append,hj]
   simp [List.countP_cons]
  by_cases hq:(hd g i).toNat=y
  ·subst hq
   have he:((hd g i).toNat:Int)=hd g i:=by omega
   rw [if_pos rfl,if_pos (by assumption)]
   rw [he,if_pos rfl] at ht
   simp only [B8,he,hn,if_false,ht]
   congr 1;omega
  ·rw [if_neg hq]
   have lS:¬hd g i=(y:Int):=by omega
   simp only [B8,ht,lS,if_false,Nat.add_zero]
 ·rw [List.getElem?_eq_none (by rw [wtps_length];omega),List.getElem?_eq_none (by rw [wtps_length];omega)]
  split
  ·rw [if_neg (by omega)]
  ·rfl
def FG (f:Edge→Int) (g:Gr):List (List D):=(di f g).map fun l=> [sI l]
theorem ow {f:Edge→Int} {g:Gr} {x:Nat} (h:x<g.n.toNat) (d:List D):(FG f g).getD x d= [sI (eP f g.es g.es.length x)]:=by
 simp [FG,di,List.getD_eq_getElem?_getD,List.getElem?_range h]
theorem vwl_length {f:Edge→Int} {g:Gr} :(FG f g).length=g.n.toNat:=by simp [FG,di]
def II (g:Gr):D:= .pt [.sc (.int .i64 g.n),sE g.es, .sl 1 (FG (·.1) g), .sl 1 (FG (·.2) g)]
theorem au (g:Gr):vw g=II g:=rfl
attribute [go_sem] II wtps_length wts_length vwl_length
theorem Dj {g:Gr} {k:Nat} (h:k<g.n.toNat):(cE g []).take (k+1)=(cE g []).take k++ [((pF g k).length:Int)]:=by
 rw [List.take_add_one,kg h]
 simp [wt,pF,eP,hd,List.countP_eq_length_filter]
theorem Be {g:Gr} (hm:aP g=true) {out:List Int} {x j y:Nat} : -1000≤B8 g out x j y∧B8 g out x j y≤1000:=by
 have hn:=aU hm
 have h1:=List.countP_le_length (p:=fun i=>decide (hd g i=(y:Int))&& !decide (tl g i∈out)) (l:=List.range g.es.length)
 have h2:=List.countP_le_length (p:=fun e:Int=>decide (hd g e.toNat=(y:Int))) (l:=(iH g x).take j)
 have h3:((iH g x).take j).length≤g.es.length:=Nat.le_trans (List.length_take_le' _ _) gS
 simp only [List.length_range] at h1
 unfold B8
 split<;>omega
theorem xy {g:Gr} {out:List Int} (h:dA (cE g out) 0<0):∀f,tu g f out=out
 |0=>rfl
 |f+1=>by simp [tu,h]
def left (g:Gr) (out:List Int):Nat:=(List.range g.n.toNat).countP (fun y:Nat=> !decide ((y:Int)∈out))
theorem tO {g:Gr} {out:List Int} {x:Nat} (h:ef g out) (h':ef g (out++ [(x:Int)])):left g out=left g (out++ [(x:Int)])+1:=by
 have h1:=h.fuel
 have h2:=h'.fuel
 rw [List.length_append,List.length_singleton] at h2
 unfold left;omega
theorem Kg {g:Gr} (out:List Int):dA (cE g out) 0= -1∨∃x:Nat,dA (cE g out) 0=x∧x<g.n.toNat∧wt g out x=0:=by
 rcases eC (f:=fun y:Int=>decide (0=y)) (l:=cE g out) 0 with ⟨h,_⟩|⟨k,h1,h2,h3,_⟩
 ·exact .inl h
 ·rw [wts_length] at h2
  rw [lp h2] at h3
  exact .inr ⟨k,h1,h2,by simpa using (of_decide_eq_true h3).symm⟩
theorem jB (g:Gr) (hm:aP g=true):Spec Tryz.prog 161 (Args [.d (vw g)]) [] (.tup [.d (sI (aI g)), .d (sI (cE g (aI g)))]) []:=by
 rw [au]
 have hn:=aU hm
 (refine Spec.hd (C:=T.cfg [22] []) (rs:= [.t 2, .t 3]) (T.ai _ _) Tryz.func161 rfl rfl Tryz.ntmps161 Tryz.results161 (by simp [AObj.isNest]) (by simp [AObj.isNest]) (by kernel_rfl) T.mixed fun X hX hP hC aK cw=> ?_)
 repeat' (first|refine Rn.p ?_|(with_reducible apply And.intro)|((first|(refine hK _ ?_;clear hK K)|with_reducible intro K hK|refine Rs.p ?_|((with_reducible first|apply oP|apply oQ);exact rfl)|(refine ah hX hC hP (aQ (cE g out) 0 zV) rfl rfl rfl ?_ ?_ ?_ ?_;iterate 3 (focus (simp only [go_sem,simprocAttr];done))));try simp only [go_sem,simprocAttr])|((with_reducible refine oD ?_ ?_);kernel_rfl)|((with_reducible intro h);try simp only [go_sem,simprocAttr] at h)|omega|intro h)
 (refine iN hX 3 22 (.own 3 1 []) (by simp only [go_sem,simprocAttr]) (by simp only [go_sem,simprocAttr]) (by decide) ⟨3,1,by decide, .inl rfl⟩ ?_;simp only [go_sem,simprocAttr])
 refine ag (fun k:Nat=>k≤g.n.toNat) (fun k=>⟨[(14,eN k),(13,eN g.n.toNat),(12, .d (.sl 1 (FG (·.2) g))),(3, .ref 22),(2, .nil 3),(0, .d (II g))], [(22, .own 3 1 (((cE g []).take k).map rI))]⟩) (fun k=>g.n.toNat - k) 0 (by simp) ?_ ?_
 ·(refine Le.of ?_ ?_<;>simp [go_sem,simprocAttr])
 ·rintro k hk
  rcases Nat.lt_or_ge k g.n.toNat with hlt|hge
  ·have hb:decide ((k:Int)<(g.n.toNat:Int))=true:=decide_eq_true (by omega)
   have hv:=ow (f:=(·.2)) hlt
   have M8:(pF g k).length≤g.es.length:=gS
   have hlt':((cE g []).take k).length≤64:=by rw [List.length_take,wts_length];omega
   repeat' (first|refine Rn.p ?_|(with_reducible apply And.intro)|((first|(refine hK _ ?_;clear hK K)|with_reducible intro K hK|refine Rs.p ?_|((with_reducible first|apply oP|apply oQ);exact rfl)|(refine ah hX hC hP (aQ (cE g out) 0 zV) rfl rfl rfl ?_ ?_ ?_ ?_;iterate 3 (focus (simp only [go_sem,simprocAttr,hb,hv];done))));try simp only [go_sem,simprocAttr,hb,hv])|((with_reducible refine oD ?_ ?_);kernel_rfl)|((with_reducible intro h);try simp only [go_sem,simprocAttr,hb,hv] at h)|omega|intro h)
   refine ⟨k+1,by omega, ?_,by omega⟩
   refine Le.of ?_ ?_<;>simp [go_sem,simprocAttr,hb,hv,Dj hlt]
   rfl
  ·obtain rfl:k=g.n.toNat:=by omega
   have hb:decide ((g.n.toNat:Int)<(g.n.toNat:Int))=false:=decide_eq_false (by omega)
   have ht:(cE g []).take g.n.toNat=cE g []:=List.take_of_length_le (by rw [wts_length];omega)
   repeat' (first|refine Rn.p ?_|(with_reducible apply And.intro)|((first|(refine hK _ ?_;clear hK K)|with_reducible intro K hK|refine Rs.p ?_|((with_reducible first|apply oP|apply oQ);exact rfl)|(refine ah hX hC hP (aQ (cE g out) 0 zV) rfl rfl rfl ?_ ?_ ?_ ?_;iterate 3 (focus (simp only [go_sem,simprocAttr,hb,ht];done))));try simp only [go_sem,simprocAttr,hb,ht])|((with_reducible refine oD ?_ ?_);kernel_rfl)|((with_reducible intro h);try simp only [go_sem,simprocAttr,hb,ht] at h)|omega|intro h)
   (refine iN hX 2 33 (.tip 3 1 []) (by simp only [go_sem,simprocAttr,hb,ht]) (by simp only [go_sem,simprocAttr,hb,ht]) (by decide) ⟨3,1,by decide, .inr rfl⟩ ?_;simp only [go_sem,simprocAttr,hb,ht])
   refine ag (fun out:List Int=>ef g out∧tu g (left g out) out=aI g) (fun out=>⟨[(3, .ref 22),(2, .ref 33),(0, .d (II g))], [(22, .own 3 1 ((cE g out).map rI)),(33, .tip 3 1 (out.map rI))]⟩) (left g) [] ⟨ef.nil g, ?_⟩ ?_ ?_
   ·have:=(ef.nil g).fuel
    simp only [List.length_nil,Nat.zero_add] at this
    unfold left aI
    rw [this]
   ·(refine Le.of ?_ ?_<;>simp [go_sem,simprocAttr,hb,ht])
   rintro out ⟨gw,hrun⟩
   have zV:(cE g out).length≤9223372036854775807:=by rw [wts_length];omega
   have hout:out.length≤64:=by have:=gw.fuel;omega
   rcases Kg (g:=g) out with hx|⟨x,hx,Dg,hw0⟩
   ·have hr:=xy (g:=g) (out:=out) (by omega) (left g out)
    rw [hrun] at hr
    repeat' (first|refine Rn.p ?_|(with_reducible apply And.intro)|((first|(refine hK _ ?_;clear hK K)|with_reducible intro K hK|refine Rs.p ?_|((with_reducible first|apply oP|apply oQ);exact rfl)|(refine ah hX hC hP (aQ (cE g out) 0 zV) rfl rfl rfl ?_ ?_ ?_ ?_;iterate 3 (focus (simp only [go_sem,simprocAttr,hx];done))));try simp only [go_sem,simprocAttr,hx])|((with_reducible refine oD ?_ ?_);kernel_rfl)|((with_reducible intro h);try simp only [go_sem,simprocAttr,hx] at h)|omega|intro h)
    ·rw [hr]
    ·rw [hr]
   ·obtain ⟨pg,kJ,ic⟩:=gw.next hm Dg hw0
    have ak:decide ((x:Int)<0)=false:=decide_eq_false (by omega)
    have hv:=ow (f:=(·.1)) Dg
    have M8:(iH g x).length≤g.es.length:=gS
    repeat' (first|refine Rn.p ?_|(with_reducible apply And.intro)|((first|(refine hK _ ?_;clear hK K)|with_reducible intro K hK|refine Rs.p ?_|((with_reducible first|apply oP|apply oQ);exact rfl)|(refine ah hX hC hP (aQ (cE g out) 0 zV) rfl rfl rfl ?_ ?_ ?_ ?_;iterate 3 (focus (simp only [go_sem,simprocAttr,hx,ak,hv];done))));try simp only [go_sem,simprocAttr,hx,ak,hv])|((with_reducible refine oD ?_ ?_);kernel_rfl)|((with_reducible intro h);try simp only [go_sem,simprocAttr,hx,ak,hv] at h)|omega|intro h)
    refine ag (fun j:Nat=>j≤(iH g x).length) (fun j=>⟨[(45,eN j),(44,eN (iH g x).length),(43, .d (sI (iH g x))),(3, .ref 22),(2, .ref 33),(0, .d (II g))], [(22, .own 3 1 ((tw g out x j).map rI)),(33, .tip 3 1 ((out++ [(x:Int)]).map rI))]⟩) (fun j=>(iH g x).length - j) 0 (by simp) ?_ ?_
    ·refine Le.of ?_ ?_<;>simp [go_sem,simprocAttr,hx,ak,hv,iH,rI]
     rw [← Bc,List.map_set];rfl
    rintro j hj
    rcases Nat.lt_or_ge j (iH g x).length with hlt|hge
    ·have an:decide ((j:Int)<((iH g x).length:Int))=true:=decide_eq_true (by omega)
     obtain ⟨i,hi,hil,hit⟩:=Dh (List.getElem_mem hlt)
     have hi1:(iH g x)[j]? =some (i:Int):=by rw [List.getElem?_eq_getElem hlt,hi]
     have hi2:(iH g x).getD j 0=(i:Int):=by rw [List.getD_eq_getElem?_getD,hi1];rfl
     have hnew:=HM gw kJ ic hil hit
     obtain ⟨_,FH,qd⟩:=eA hm hil
     have hnext:=Bd hi1 FH hnew
     have hw:(tw g out x j).getD (g.es.getD i (0,0)).2.toNat 0=B8 g out x j (hd g i).toNat:=by
      rw [List.getD_eq_getElem?_getD,ou (by omega)];rfl
     have hbd:=Be hm (out:=out) (x:=x) (j:=j) (y:=(hd g i).toNat)
     repeat' (first|refine Rn.p ?_|(with_reducible apply And.intro)|((first|(refine hK _ ?_;clear hK K)|with_reducible intro K hK|refine Rs.p ?_|((with_reducible first|apply oP|apply oQ);exact rfl)|(refine ah hX hC hP (aQ (cE g out) 0 zV) rfl rfl rfl ?_ ?_ ?_ ?_;iterate 3 (focus (simp only [go_sem,simprocAttr,an,hi2,hw];done))));try simp only [go_sem,simprocAttr,an,hi2,hw])|((with_reducible refine oD ?_ ?_);kernel_rfl)|((with_reducible intro h);try simp only [go_sem,simprocAttr,an,hi2,hw] at h)|omega|intro h)
     refine ⟨j+1,by omega, ?_,by omega⟩
     refine Le.of ?_ ?_<;>simp [go_sem,simprocAttr,an,hi2,hw]
     rw [← hnext,List.map_set];rfl
    ·have an:decide ((j:Int)<((iH g x).length:Int))=false:=decide_eq_false (by omega)
     repeat' (first|refine Rn.p ?_|(with_reducible apply And.intro)|((first|(refine hK _ ?_;clear hK K)|with_reducible intro K hK|refine Rs.p ?_|((with_reducible first|apply oP|apply oQ);exact rfl)|(refine ah hX hC hP (aQ (cE g out) 0 zV) rfl rfl rfl ?_ ?_ ?_ ?_;iterate 3 (focus (simp only [go_sem,simprocAttr,an];done))));try simp only [go_sem,simprocAttr,an])|((with_reducible refine oD ?_ ?_);kernel_rfl)|((with_reducible intro h);try simp only [go_sem,simprocAttr,an] at h)|omega|intro h)
     have M9:=tO gw pg
     refine ⟨out++ [(x:Int)],⟨pg, ?_⟩, ?_,by omega⟩
     ·rw [← hrun,M9]
      simp only [tu,hx]
      rw [if_neg (by omega)]
     ·refine Le.of ?_ ?_<;>simp [go_sem,simprocAttr,an,Di kJ hge]
end Go.Ab
end
section
namespace Go.Ab
open Go.Proofs
attribute [local congr] ACall.congr gd.congr Nx.congr
set_option maxRecDepth 10000
def kK (l:List Int) (k:Nat):List Int:=(List.range l.length).map fun p=>if p<k∨l.length - 1<p+k then l.getD (l.length - 1 - p) 0 else l.getD p 0
theorem cV {l:List Int} {k:Nat} :(kK l k).length=l.length:=by simp [kK]
theorem jC {l:List Int} {k p:Nat} (h:p<l.length):(kK l k)[p]? =some (if p<k∨l.length - 1<p+k then l.getD (l.length - 1 - p) 0 else l.getD p 0):=by
 simp [kK,List.getElem?_range h]
theorem rW {l:List Int} {k p:Nat} (h:p<l.length) (d:Int):(kK l k).getD p d=if p<k∨l.length - 1<p+k then l.getD (l.length - 1 - p) 0 else l.getD p 0:=by
 rw [List.getD_eq_getElem?_getD,jC h];rfl
theorem yR {l:List Int} :kK l 0=l:=by
 refine List.ext_getElem? fun i=> ?_
 by_cases hi:i<l.length
 ·rw [jC hi,if_neg (by omega),List.getD_eq_getElem?_getD,List.getElem?_eq_getElem hi];rfl
 ·rw [List.getElem?_eq_none (by rw [cV];omega),List.getElem?_eq_none (by omega)]
theorem Bf {l:List Int} {k:Nat} (h:l.length≤2*k+1):kK l k=l.reverse:=by
 refine List.ext_getElem? fun i=> ?_
 by_cases hi:i<l.length
 ·rw [jC hi,List.getElem?_reverse hi]
  split
  ·rw [List.getD_eq_getElem?_getD,List.getElem?_eq_getElem (by omega)];rfl
  ·have:i=l.length - 1 - i:=by omega
   rw [← this,List.getD_eq_getElem?_getD,List.getElem?_eq_getElem hi];rfl
 ·rw [List.getElem?_eq_none (by rw [cV];omega),List.getElem?_eq_none (by rw [List.length_reverse];omega)]
theorem yS {l:List Int} {k:Nat} (h:k<l.length - 1 - k):((kK l k).set k ((kK l k).getD (l.length - 1 - k) 0)).set (l.length - 1 - k) ((kK l k).getD k 0)=kK l (k+1):=by
 refine List.ext_getElem? fun i=> ?_
 rw [List.getElem?_set,List.length_set,cV,List.getElem?_set,cV]
 by_cases hi:i<l.length
 ·rw [jC hi,jC hi,rW (by omega),rW (by omega)]
  by_cases h1:l.length - 1 - k=i
  ·rw [if_pos h1,if_pos (by omega),if_neg (by omega),if_pos (by omega)]
   congr 2;omega
  ·rw [if_neg h1]
   by_cases h2:k=i
   ·rw [if_pos h2,if_pos (by omega),if_neg (by omega),if_pos (by omega)]
    congr 2;omega
   ·rw [if_neg h2]
    congr 1
    by_cases h3:i<k∨l.length - 1<i+k
    ·rw [if_pos h3,if_pos (by omega)]
    ·rw [if_neg h3,if_neg (by omega)]
 ·rw [List.getElem?_eq_none (by rw [cV];omega),List.getElem?_eq_none (by rw [cV];omega),if_neg (by omega),if_neg (by omega)]
theorem dX (l:List Int) (hl:l.length≤1000000):Spec Tryz.prog 82 (Args [.ref 10000]) [(10000, .part 3 1 (l.map rI))] (.tup []) [(10000, .part 3 1 (l.reverse.map rI))]:=by
 (refine Spec.hd (C:=T.cfg [] []) (rs:= []) (T.ai _ _) Tryz.func82 rfl rfl Tryz.ntmps82 Tryz.results82 (by simp [AObj.isNest]) (by simp [AObj.isNest]) (by kernel_rfl) T.mixed fun X hX hP hC aK cw=> ?_)
 repeat' (first|refine Rn.p ?_|(with_reducible apply And.intro)|((first|(refine hK _ ?_;clear hK K)|with_reducible intro K hK|refine Rs.p ?_|((with_reducible first|apply oP|apply oQ);exact rfl));try simp only [go_sem,simprocAttr])|((with_reducible refine oD ?_ ?_);kernel_rfl)|((with_reducible intro h);try simp only [go_sem,simprocAttr] at h)|omega|intro h)
 refine ag (fun k:Nat=>2*k≤l.length+1) (fun k=>⟨[(0, .ref 10000),(2,eN k),(3,eN ((l.length:Int) - 1 - k))], [(10000, .part 3 1 ((kK l k).map rI))]⟩) (fun k=>l.length+1 - k) 0 (by omega) ?_ ?_
 ·refine Le.of ?_ ?_<;>simp [go_sem,simprocAttr,yR]
 rintro k hk
 rcases Nat.lt_or_ge (2*k+1) l.length with hlt|hge
 ·have hb:decide ((k:Int)<(l.length:Int) - 1 - (k:Int))=true:=decide_eq_true (by omega)
  have ht:((l.length:Int) - 1 - (k:Int)).toNat=l.length - 1 - k:=by omega
  repeat' (first|refine Rn.p ?_|(with_reducible apply And.intro)|((first|(refine hK _ ?_;clear hK K)|with_reducible intro K hK|refine Rs.p ?_|((with_reducible first|apply oP|apply oQ);exact rfl));try simp only [go_sem,simprocAttr,hb,ht,cV,Dc])|((with_reducible refine oD ?_ ?_);kernel_rfl)|((with_reducible intro h);try simp only [go_sem,simprocAttr,hb,ht,cV,Dc] at h)|omega|intro h)
  refine ⟨k+1,by omega, ?_,by omega⟩
  refine Le.of ?_ ?_<;>simp [go_sem,simprocAttr]
  ·omega
  ·rw [← yS (by omega),List.map_set,List.map_set]
   simp only [List.getD_eq_getElem?_getD]
 ·have hb:decide ((k:Int)<(l.length:Int) - 1 - (k:Int))=false:=decide_eq_false (by omega)
  repeat' (first|refine Rn.p ?_|(with_reducible apply And.intro)|((first|(refine hK _ ?_;clear hK K)|with_reducible intro K hK|refine Rs.p ?_|((with_reducible first|apply oP|apply oQ);exact rfl));try simp only [go_sem,simprocAttr,hb])|((with_reducible refine oD ?_ ?_);kernel_rfl)|((with_reducible intro h);try simp only [go_sem,simprocAttr,hb] at h)|omega|intro h)
  simp only [go_sem,simprocAttr,hb,Bf hge]
def gL:List Int→Int
 | []=>0
 |a::r=>r.foldl min a
theorem Bg {l:List Int} {k:Nat} (h0:0<k) (h:k<l.length):gL (l.take (k+1))=min (gL (l.take k)) (l.getD k 0):=by
 cases l with
 |nil=>simp at h
 |cons a r=>
  obtain ⟨k,rfl⟩:∃j,k=j+1:=⟨k - 1,by omega⟩
  simp only [List.length_cons] at h
  simp only [List.take_succ_cons,gL,List.getD_cons_succ]
  rw [List.take_add_one,List.foldl_append,List.getElem?_eq_getElem (by omega),List.getD_eq_getElem?_getD,List.getElem?_eq_getElem (by omega)]
  rfl
theorem Dk {l:List Int} (h:0<l.length):gL (l.take 1)=l.getD 0 0:=by
 cases l with
 |nil=>simp at h
 |cons a r=>simp [gL]
theorem jD (l:List Int) (h0:0<l.length) (hl:l.length≤1000000):Spec Tryz.prog 165 (Args [.d (sI l)]) [] (eN (gL l)) []:=by
 (refine Spec.hd (C:=T.cfg [] []) (rs:= [.t 2]) (T.ai _ _) Tryz.func165 rfl rfl Tryz.ntmps165 Tryz.results165 (by simp [AObj.isNest]) (by simp [AObj.isNest]) (by kernel_rfl) T.mixed fun X hX hP hC aK cw=> ?_)
 repeat' (first|refine Rn.p ?_|(with_reducible apply And.intro)|((first|(refine hK _ ?_;clear hK K)|with_reducible intro K hK|refine Rs.p ?_|((with_reducible first|apply oP|apply oQ);exact rfl));try simp only [go_sem,simprocAttr])|((with_reducible refine oD ?_ ?_);kernel_rfl)|((with_reducible intro h);try simp only [go_sem,simprocAttr] at h)|omega|intro h)
 refine ag (fun k:Nat=>0<k∧k≤l.length) (fun k=>⟨[(0, .d (sI l)),(3,eN (gL (l.take k))),(4,eN k)], []⟩) (fun k=>l.length - k) 1 (by omega) ?_ ?_
 ·refine Le.of ?_ ?_<;>simp [go_sem,simprocAttr,Dk h0]
 rintro k ⟨wT,hk⟩
 repeat' (first|refine Rn.p ?_|(with_reducible apply And.intro)|((first|(refine hK _ ?_;clear hK K)|with_reducible intro K hK|refine Rs.p ?_|((with_reducible first|apply oP|apply oQ);exact rfl));try simp only [go_sem,simprocAttr])|((with_reducible refine oD ?_ ?_);kernel_rfl)|((with_reducible intro h);try simp only [go_sem,simprocAttr] at h)|omega|intro h)
 ·refine ⟨k+1,by omega, ?_,by omega⟩
  refine Le.of ?_ ?_<;>simp [go_sem,simprocAttr]
  rw [Bg wT (by omega),List.getD_eq_getElem?_getD]
 ·rw [List.take_of_length_le (by omega)]
theorem eR (n:Int) (h0:0<n) (hl:n≤1000000):Spec Tryz.prog 94 (Args [.nil 3,eN n]) [] (.ref 10000) [(10000, .own 3 1 [])]:=by
 (refine Spec.A6 (C:=T.cfg [] []) (rs:= [.t 4]) [(10000,25)] (T.ai _ _) Tryz.func94 rfl rfl Tryz.ntmps94 Tryz.results94 (by simp [AObj.isNest]) (by simp [AObj.isNest]) (by first|(simp [look];done)|(simp [asN];done)|(intro l hl;simp only [asN];repeat (rw [if_neg (fun e=>by subst e;simp [look] at hl)]))) (by first|(simp [look];done)|(simp [asN];done)|(intro l hl;simp only [asN];repeat (rw [if_neg (fun e=>by subst e;simp [look] at hl)]))) (by kernel_rfl) T.mixed fun X hX hP hC aK cw=> ?_)
 repeat' (first|refine Rn.p ?_|(with_reducible apply And.intro)|((first|(refine hK _ ?_;clear hK K)|with_reducible intro K hK|refine Rs.p ?_|((with_reducible first|apply oP|apply oQ);exact rfl));try simp only [go_sem,simprocAttr])|((with_reducible refine oD ?_ ?_);kernel_rfl)|((with_reducible intro h);try simp only [go_sem,simprocAttr] at h)|omega|intro h)
end Go.Ab
end
section
namespace Go.Ab
open Go.Proofs
attribute [local congr] ACall.congr gd.congr Nx.congr
set_option maxRecDepth 10000
def vL (ls:List (List Int)):List (List D):=ls.map fun l=> [sI l]
theorem vL_length {ls:List (List Int)} :(vL ls).length=ls.length:=by simp [vL]
theorem u9 {ls:List (List Int)} {k:Nat} (h:k<ls.length) (d:List D):(vL ls).getD k d= [sI (ls.getD k [])]:=by
 simp [vL,List.getD_eq_getElem?_getD,List.getElem?_eq_getElem h]
attribute [go_sem] vL_length
theorem tP {ls:List (List Int)} {k:Nat} (h:k<ls.length):(ls.take (k+1)).flatten=(ls.take k).flatten++ls.getD k []:=by
 rw [List.take_add_one,List.flatten_append,List.getElem?_eq_getElem h,List.getD_eq_getElem?_getD,List.getElem?_eq_getElem h]
 simp
theorem qG {ls:List (List Int)} {k:Nat} :(ls.take k).flatten.length≤ls.flatten.length:=by
 have:=congrArg (fun x=>x.flatten.length) (List.take_append_drop k ls)
 simp only [List.flatten_append,List.length_append] at this
 omega
theorem dQ (ls:List (List Int)) (hn:ls.length≤1000) (h0:0<ls.flatten.length) (hl:ls.flatten.length≤1000000):Spec Tryz.prog 45 (Args [.d (.sl 1 (vL ls))]) [] (.d (sI ls.flatten)) []:=by
 (refine Spec.hd (C:=T.cfg [] []) (rs:= [.t 2]) (T.ai _ _) Tryz.func45 rfl rfl Tryz.ntmps45 Tryz.results45 (by simp [AObj.isNest]) (by simp [AObj.isNest]) (by kernel_rfl) T.mixed fun X hX hP hC aK cw=> ?_)
 repeat' (first|refine Rn.p ?_|(with_reducible apply And.intro)|((first|(refine hK _ ?_;clear hK K)|with_reducible intro K hK|refine Rs.p ?_|((with_reducible first|apply oP|apply oQ);exact rfl)|(refine az hX hC hP [(10000,33)] (eR (ls.flatten.length:Int) (by omega) (by omega)) rfl rfl rfl ?_ ?_ ?_ ?_ ?_ ?_ ?_ ?_ ?_ ?_ ?_ ?_ ?_ ?_;(focus (simp only [go_sem,simprocAttr];done));(iterate 12 (focus (simp [go_sem,simprocAttr];done)));try simp only [List.map_cons,List.map_nil]));try simp only [go_sem,simprocAttr])|((with_reducible refine oD ?_ ?_);kernel_rfl)|((with_reducible intro h);try simp only [go_sem,simprocAttr] at h)|omega|intro h)
 refine ag (fun k:Nat=>k≤ls.length) (fun k=>⟨[(0, .d (.sl 1 (vL ls))),(9, .d (.sl 1 (vL ls))),(10,eN ls.length),(11,eN k),(3,eN ((ls.take k).flatten.length))], []⟩) (fun k=>ls.length - k) 0 (by omega) ?_ ?_
 ·(refine Le.of ?_ ?_<;>simp [go_sem,simprocAttr])
 ·rintro k hk
  rcases Nat.lt_or_ge k ls.length with hlt|hge
  ·have hb:decide ((k:Int)<(ls.length:Int))=true:=decide_eq_true (by omega)
   have hv:=u9 hlt
   have hf:=tP hlt
   have K9:=qG (ls:=ls) (k:=k)
   have HN:=qG (ls:=ls) (k:=k+1)
   rw [hf,List.length_append] at HN
   have hneg:decide (((ls.take k).flatten.length:Int)+((ls.getD k []).length:Int)<0)=false:=decide_eq_false (by omega)
   repeat' (first|refine Rn.p ?_|(with_reducible apply And.intro)|((first|(refine hK _ ?_;clear hK K)|with_reducible intro K hK|refine Rs.p ?_|((with_reducible first|apply oP|apply oQ);exact rfl)|(refine az hX hC hP [(10000,33)] (eR (ls.flatten.length:Int) (by omega) (by omega)) rfl rfl rfl ?_ ?_ ?_ ?_ ?_ ?_ ?_ ?_ ?_ ?_ ?_ ?_ ?_ ?_;(focus (simp only [go_sem,simprocAttr,hb,hv,hneg];done));(iterate 12 (focus (simp [go_sem,simprocAttr,hb,hv,hneg];done)));try simp only [List.map_cons,List.map_nil]));try simp only [go_sem,simprocAttr,hb,hv,hneg])|((with_reducible refine oD ?_ ?_);kernel_rfl)|((with_reducible intro h);try simp only [go_sem,simprocAttr,hb,hv,hneg] at h)|omega|intro h)
   refine ⟨k+1,by omega, ?_,by omega⟩
   simp only [hf]
   refine Le.of ?_ ?_<;>simp [go_sem,simprocAttr,hb,hv,hneg]
  ·have hb:decide ((k:Int)<(ls.length:Int))=false:=decide_eq_false (by omega)
   have ht:ls.take k=ls:=List.take_of_length_le (by omega)
   repeat' (first|refine Rn.p ?_|(with_reducible apply And.intro)|((first|(refine hK _ ?_;clear hK K)|with_reducible intro K hK|refine Rs.p ?_|((with_reducible first|apply oP|apply oQ);exact rfl)|(refine az hX hC hP [(10000,33)] (eR (ls.flatten.length:Int) (by omega) (by omega)) rfl rfl rfl ?_ ?_ ?_ ?_ ?_ ?_ ?_ ?_ ?_ ?_ ?_ ?_ ?_ ?_;(focus (simp only [go_sem,simprocAttr,hb,ht];done));(iterate 12 (focus (simp [go_sem,simprocAttr,hb,ht];done)));try simp only [List.map_cons,List.map_nil]));try simp only [go_sem,simprocAttr,hb,ht])|((with_reducible refine oD ?_ ?_);kernel_rfl)|((with_reducible intro h);try simp only [go_sem,simprocAttr,hb,ht] at h)|omega|intro h)
   refine ag (fun k:Nat=>k≤ls.length) (fun k=>⟨[(25, .d (.sl 1 (vL ls))),(26,eN ls.length),(27,eN k),(6, .ref 33)], [(33, .own 3 1 ((ls.take k).flatten.map rI))]⟩) (fun k=>ls.length - k) 0 (by omega) ?_ ?_
   ·(refine Le.of ?_ ?_<;>simp [go_sem,simprocAttr,hb,ht])
   ·clear hb ht hk hge
    rintro k hk
    rcases Nat.lt_or_ge k ls.length with hlt|hge
    ·have hb:decide ((k:Int)<(ls.length:Int))=true:=decide_eq_true (by omega)
     have hv:=u9 hlt
     have hf:=tP hlt
     have K9:=qG (ls:=ls) (k:=k)
     have HN:=qG (ls:=ls) (k:=k+1)
     rw [hf,List.length_append] at HN
     repeat' (first|refine Rn.p ?_|(with_reducible apply And.intro)|((first|(refine hK _ ?_;clear hK K)|with_reducible intro K hK|refine Rs.p ?_|((with_reducible first|apply oP|apply oQ);exact rfl)|(refine az hX hC hP [(10000,33)] (eR (ls.flatten.length:Int) (by omega) (by omega)) rfl rfl rfl ?_ ?_ ?_ ?_ ?_ ?_ ?_ ?_ ?_ ?_ ?_ ?_ ?_ ?_;(focus (simp only [go_sem,simprocAttr,hb,hv];done));(iterate 12 (focus (simp [go_sem,simprocAttr,hb,hv];done)));try simp only [List.map_cons,List.map_nil]));try simp only [go_sem,simprocAttr,hb,hv])|((with_reducible refine oD ?_ ?_);kernel_rfl)|((with_reducible intro h);try simp only [go_sem,simprocAttr,hb,hv] at h)|omega|intro h)
     refine ⟨k+1,by omega, ?_,by omega⟩
     simp only [hf]
     refine Le.of ?_ ?_<;>simp [go_sem,simprocAttr,hb,hv]
    ·have hb:decide ((k:Int)<(ls.length:Int))=false:=decide_eq_false (by omega)
     have ht:ls.take k=ls:=List.take_of_length_le (by omega)
     repeat' (first|refine Rn.p ?_|(with_reducible apply And.intro)|((first|(refine hK _ ?_;clear hK K)|with_reducible intro K hK|refine Rs.p ?_|((with_reducible first|apply oP|apply oQ);exact rfl)|(refine az hX hC hP [(10000,33)] (eR (ls.flatten.length:Int) (by omega) (by omega)) rfl rfl rfl ?_ ?_ ?_ ?_ ?_ ?_ ?_ ?_ ?_ ?_ ?_ ?_ ?_ ?_;(focus (simp only [go_sem,simprocAttr,hb,ht];done));(iterate 12 (focus (simp [go_sem,simprocAttr,hb,ht];done)));try simp only [List.map_cons,List.map_nil]));try simp only [go_sem,simprocAttr,hb,ht])|((with_reducible refine oD ?_ ?_);kernel_rfl)|((with_reducible intro h);try simp only [go_sem,simprocAttr,hb,ht] at h)|omega|intro h)
def ig (ls:List (List Int)) (k:Nat):List Int:=((List.range k).filter fun x=>decide ((ls.getD x []).length=0)).map Int.ofNat
theorem ng {ls:List (List Int)} {k:Nat} :ig ls (k+1)=ig ls k++if (ls.getD k []).length=0 then [(k:Int)] else []:=by
 simp only [ig,List.range_succ,List.filter_append,List.map_append,List.filter_cons,List.filter_nil]
 split<;>simp_all
theorem tQ {ls:List (List Int)} {k:Nat} :(ig ls k).length≤k:=by
 simpa [ig] using List.length_filter_le (fun x=>decide ((ls.getD x []).length=0)) (List.range k)
theorem tR (ls:List (List Int)) (hn:ls.length≤1000):Spec Tryz.prog 93 (Args [.d (.sl 1 (vL ls))]) [] (.d (sI (ig ls ls.length))) []:=by
 (refine Spec.hd (C:=T.cfg [] []) (rs:= [.t 2]) (T.ai _ _) Tryz.func93 rfl rfl Tryz.ntmps93 Tryz.results93 (by simp [AObj.isNest]) (by simp [AObj.isNest]) (by kernel_rfl) T.mixed fun X hX hP hC aK cw=> ?_)
 repeat' (first|refine Rn.p ?_|(with_reducible apply And.intro)|((first|(refine hK _ ?_;clear hK K)|with_reducible intro K hK|refine Rs.p ?_|((with_reducible first|apply oP|apply oQ);exact rfl)|(refine az hX hC hP [(10000,33)] (eR (ls.flatten.length:Int) (by omega) (by omega)) rfl rfl rfl ?_ ?_ ?_ ?_ ?_ ?_ ?_ ?_ ?_ ?_ ?_ ?_ ?_ ?_;(focus (simp only [go_sem,simprocAttr];done));(iterate 12 (focus (simp [go_sem,simprocAttr];done)));try simp only [List.map_cons,List.map_nil]));try simp only [go_sem,simprocAttr])|((with_reducible refine oD ?_ ?_);kernel_rfl)|((with_reducible intro h);try simp only [go_sem,simprocAttr] at h)|omega|intro h)
 (refine iN hX 2 18 (.tip 3 1 []) (by simp only [go_sem,simprocAttr]) (by simp only [go_sem,simprocAttr]) (by decide) ⟨3,1,by decide, .inr rfl⟩ ?_;simp only [go_sem,simprocAttr])
 refine ag (fun k:Nat=>k≤ls.length) (fun k=>⟨[(5, .d (.sl 1 (vL ls))),(6,eN ls.length),(7,eN k),(2, .ref 18)], [(18, .tip 3 1 ((ig ls k).map rI))]⟩) (fun k=>ls.length - k) 0 (by omega) ?_ ?_
 ·refine Le.of ?_ ?_<;>simp [go_sem,simprocAttr,ig]
 ·rintro k hk
  rcases Nat.lt_or_ge k ls.length with hlt|hge
  ·have hb:decide ((k:Int)<(ls.length:Int))=true:=decide_eq_true (by omega)
   have hv:=u9 hlt
   have hlen:=tQ (ls:=ls) (k:=k)
   repeat' (first|refine Rn.p ?_|(with_reducible apply And.intro)|((first|(refine hK _ ?_;clear hK K)|with_reducible intro K hK|refine Rs.p ?_|((with_reducible first|apply oP|apply oQ);exact rfl)|(refine az hX hC hP [(10000,33)] (eR (ls.flatten.length:Int) (by omega) (by omega)) rfl rfl rfl ?_ ?_ ?_ ?_ ?_ ?_ ?_ ?_ ?_ ?_ ?_ ?_ ?_ ?_;(focus (simp only [go_sem,simprocAttr,hb,hv];done));(iterate 12 (focus (simp [go_sem,simprocAttr,hb,hv];done)));try simp only [List.map_cons,List.map_nil]));try simp only [go_sem,simprocAttr,hb,hv])|((with_reducible refine oD ?_ ?_);kernel_rfl)|((with_reducible intro h);try simp only [go_sem,simprocAttr,hb,hv] at h)|omega|intro h)
   ·refine ⟨k+1,by omega, ?_,by omega⟩
    rw [ng,if_pos (by omega)]
    refine Le.of ?_ ?_<;>simp [go_sem,simprocAttr,hb,hv]
    rfl
   ·refine ⟨k+1,by omega, ?_,by omega⟩
    rw [ng,if_neg (by omega),List.append_nil]
    refine Le.of ?_ ?_<;>simp [go_sem,simprocAttr,hb,hv]
  ·have hb:decide ((k:Int)<(ls.length:Int))=false:=decide_eq_false (by omega)
   obtain rfl:k=ls.length:=by omega
   repeat' (first|refine Rn.p ?_|(with_reducible apply And.intro)|((first|(refine hK _ ?_;clear hK K)|with_reducible intro K hK|refine Rs.p ?_|((with_reducible first|apply oP|apply oQ);exact rfl)|(refine az hX hC hP [(10000,33)] (eR (ls.flatten.length:Int) (by omega) (by omega)) rfl rfl rfl ?_ ?_ ?_ ?_ ?_ ?_ ?_ ?_ ?_ ?_ ?_ ?_ ?_ ?_;(focus (simp only [go_sem,simprocAttr,hb];done));(iterate 12 (focus (simp [go_sem,simprocAttr,hb];done)));try simp only [List.map_cons,List.map_nil]));try simp only [go_sem,simprocAttr,hb])|((with_reducible refine oD ?_ ?_);kernel_rfl)|((with_reducible intro h);try simp only [go_sem,simprocAttr,hb] at h)|omega|intro h)
theorem Dl {f:Edge→Int} {g:Gr} :FG f g=vL (di f g):=rfl
theorem gM {f:Edge→Int} {g:Gr} :(di f g).length=g.n.toNat:=by simp [di]
def bG (f:Edge→Int) (g:Gr):List Int:=ig (di f g) g.n.toNat
theorem dY (g:Gr) (hm:aP g=true):Spec Tryz.prog 41 (Args [.d (vw g)]) [] (.d (sI (bG (·.2) g))) []:=by
 rw [au]
 have hn:=aU hm
 have hle:(di (·.2) g).length≤1000:=by rw [gM];omega
 (refine Spec.hd (C:=T.cfg [] []) (rs:= [.t 2]) (T.ai _ _) Tryz.func41 rfl rfl Tryz.ntmps41 Tryz.results41 (by simp [AObj.isNest]) (by simp [AObj.isNest]) (by kernel_rfl) T.mixed fun X hX hP hC aK cw=> ?_)
 repeat' (first|refine Rn.p ?_|(with_reducible apply And.intro)|((first|(refine hK _ ?_;clear hK K)|with_reducible intro K hK|refine Rs.p ?_|((with_reducible first|apply oP|apply oQ);exact rfl)|(rw [Dl];refine aa hX hC hP (tR (di (·.2) g) hle) rfl rfl rfl (by simp only [go_sem,simprocAttr]) rfl ?_));try simp only [go_sem,simprocAttr])|((with_reducible refine oD ?_ ?_);kernel_rfl)|((with_reducible intro h);try simp only [go_sem,simprocAttr] at h)|omega|intro h)
 rw [gM];rfl
theorem rX (g:Gr) (hm:aP g=true):Spec Tryz.prog 42 (Args [.d (vw g)]) [] (.d (sI (bG (·.1) g))) []:=by
 rw [au]
 have hn:=aU hm
 have hle:(di (·.1) g).length≤1000:=by rw [gM];omega
 (refine Spec.hd (C:=T.cfg [] []) (rs:= [.t 2]) (T.ai _ _) Tryz.func42 rfl rfl Tryz.ntmps42 Tryz.results42 (by simp [AObj.isNest]) (by simp [AObj.isNest]) (by kernel_rfl) T.mixed fun X hX hP hC aK cw=> ?_)
 repeat' (first|refine Rn.p ?_|(with_reducible apply And.intro)|((first|(refine hK _ ?_;clear hK K)|with_reducible intro K hK|refine Rs.p ?_|((with_reducible first|apply oP|apply oQ);exact rfl)|(rw [Dl];refine aa hX hC hP (tR (di (·.1) g) hle) rfl rfl rfl (by simp only [go_sem,simprocAttr]) rfl ?_));try simp only [go_sem,simprocAttr])|((with_reducible refine oD ?_ ?_);kernel_rfl)|((with_reducible intro h);try simp only [go_sem,simprocAttr] at h)|omega|intro h)
 rw [gM];rfl
end Go.Ab
end
section
namespace Go.Ab
open Go.Proofs
attribute [local congr] ACall.congr gd.congr Nx.congr
set_option maxRecDepth 10000
def eS (g:Gr) (ws:List Int) (b:Int) (e:Int):Int:=if 0<ws.getD (tl g e.toNat).toNat 0∧(b<0∨tl g e.toNat<b) then tl g e.toNat else b
theorem Dm (g:Gr) (ws:List Int) (b:Int) (i:Nat):eS g ws b (i:Int)=if 0<ws.getD (g.es.getD i (0,0)).1.toNat 0∧(b<0∨(g.es.getD i (0,0)).1<b) then (g.es.getD i (0,0)).1 else b:=rfl
def tS (g:Gr) (ws:List Int) (es:List Int):Int:=es.foldl (eS g ws) (-1)
def iP (g:Gr) (ws:List Int) (at_:Int):Int:=tS g ws (pF g at_.toNat)
def kj (g:Gr) (ws:List Int):Nat→List Int→Int→List Int × Int
 |0,way,at_=>(way,at_)
 |f+1,way,at_=>if at_<0∨at_∈way then (way,at_) else kj g ws f (way++ [at_]) (iP g ws at_)
def jE (g:Gr):List Int × Int:=kj g (cE g (aI g)) g.n.toNat [] (bV (fun n=>decide (0<n)) (cE g (aI g)))
def kL (l:List Int):List Int:=l.drop (dA l (gL l)).toNat++l.take (dA l (gL l)).toNat
def jF (g:Gr):List Int:=if (jE g).2<0 then [] else kL ((jE g).1.drop (dA (jE g).1 (jE g).2).toNat).reverse
theorem gT (n:Int):Spec Tryz.prog 163 (Args [eN n]) [] (eB (decide (0<n))) []:=by
 (refine Spec.hd (C:=T.cfg [] []) (rs:= [.t 2]) (T.ai _ _) Tryz.func163 rfl rfl Tryz.ntmps163 Tryz.results163 (by simp [AObj.isNest]) (by simp [AObj.isNest]) (by kernel_rfl) T.mixed fun X hX hP hC aK cw=> ?_)
 repeat' (first|refine Rn.p ?_|(with_reducible apply And.intro)|((first|(refine hK _ ?_;clear hK K)|with_reducible intro K hK|refine Rs.p ?_|((with_reducible first|apply oP|apply oQ);exact rfl));try simp only [go_sem,simprocAttr])|((with_reducible refine oD ?_ ?_);kernel_rfl)|((with_reducible intro h);try simp only [go_sem,simprocAttr] at h)|omega|intro h)
structure Way (g:Gr) (way:List Int):Prop where
 lo:∀x∈way,0≤x∧x<g.n
 fuel:way.length+left g way=g.n.toNat
theorem ox {g:Gr} :left g []=g.n.toNat:=by
 have:=(ef.nil g).fuel
 rw [List.length_nil,Nat.zero_add] at this
 exact this
theorem ij {g:Gr} {way:List Int} {a:Nat} (ha:a<g.n.toNat) (hn:(a:Int)∉way):left g way=left g (way++ [(a:Int)])+1:=by
 unfold left
 rw [← lu (p:=fun y:Nat=> !decide ((y:Int)∈way)) (x:=a) (by simp [hn]) ha]
 congr 1
 refine List.countP_congr fun y _=> ?_
 simp;omega
theorem Way.nil (g:Gr):Way g []:=⟨by simp,by rw [ox];simp⟩
theorem Way.next {g:Gr} {way:List Int} {a:Nat} (h:Way g way) (ha:a<g.n.toNat) (hn:(a:Int)∉way):Way g (way++ [(a:Int)]):=by
 refine ⟨fun x hx=> ?_, ?_⟩
 ·rcases List.mem_append.1 hx with hx|hx
  ·exact h.lo x hx
  ·simp at hx;omega
 ·have h1:=h.fuel
  have h2:=ij ha hn
  rw [List.length_append,List.length_singleton];omega
theorem va {g:Gr} {x:Nat} {e:Int} (h:e∈pF g x):∃i:Nat,e=i∧i<g.es.length∧hd g i=x:=by
 simp only [pF,eP,List.mem_map,List.mem_filter,List.mem_range,decide_eq_true_eq] at h
 obtain ⟨i,⟨h1,h2⟩,rfl⟩:=h
 exact ⟨i,rfl,h1,h2⟩
theorem Bh {α β:Type} {f:β→α→β} {b:β} {l:List α} {j:Nat} {x:α} (h:l[j]? =some x):(l.take (j+1)).foldl f b=f ((l.take j).foldl f b) x:=by
 rw [List.take_add_one,List.foldl_append,h];rfl
theorem qi {g:Gr} (hm:aP g=true) (ws:List Int):∀(l:List Int) (b:Int),(b= -1∨(0≤b∧b<g.n))→(∀e∈l,∃i:Nat,e=i∧i<g.es.length)→l.foldl (eS g ws) b= -1∨(0≤l.foldl (eS g ws) b∧l.foldl (eS g ws) b<g.n)
 | [],b,hb,_=>hb
 |e::l,b,hb,h=>by
  refine qi hm ws l _ ?_ fun e he=>h e (List.mem_cons_of_mem _ he)
  obtain ⟨i,rfl,hi⟩:=h e List.mem_cons_self
  obtain ⟨⟨h1,h2⟩,_⟩:=eA hm hi
  unfold eS
  split
  ·exact .inr ⟨h1,h2⟩
  ·exact hb
theorem Dn {g:Gr} {x:Nat} :∀e∈pF g x,∃i:Nat,e=i∧i<g.es.length:=fun e he=>by
 obtain ⟨i,h1,h2,_⟩:=va he;exact ⟨i,h1,h2⟩
theorem jG {g:Gr} {ws way:List Int} {a:Int} (h:a<0∨a∈way):∀f,kj g ws f way a=(way,a)
 |0=>rfl
 |f+1=>by simp only [kj];rw [if_pos h]
theorem dy {l:List Int} {x:Int} (h:x∈l):∃k:Nat,dA l x=k∧k<l.length∧l.getD k 0=x:=by
 rcases eC (f:=fun y:Int=>decide (x=y)) (l:=l) 0 with ⟨h1,h2⟩|⟨k,h1,h2,h3,_⟩
 ·exact absurd (h2 x h) (by simp)
 ·exact ⟨k,h1,h2,(of_decide_eq_true h3).symm⟩
theorem iq:∀ {l:List Int},0<l.length→gL l∈l
 |a::r,_=>by
  have:∀(r:List Int) (a:Int),r.foldl min a=a∨r.foldl min a∈r:=by
   intro r
   induction r with
   |nil=>intro a;exact .inl rfl
   |cons b r ih=>
    intro a
    simp only [List.foldl_cons]
    rcases ih (min a b) with h|h
    ·by_cases hab:a≤b
     ·left;rw [h];omega
     ·right;rw [h];simp;omega
    ·right;simp [h]
  rcases this r a with h|h
  ·simp [gL,h]
  ·simp [gL,h]
theorem ir (g:Gr) (hm:aP g=true):Spec Tryz.prog 114 (Args [.d (vw g)]) [] (.d (sI (jF g))) []:=by
 have hn:=aU hm
 have zV:(cE g (aI g)).length≤9223372036854775807:=by rw [wts_length];omega
 (refine Spec.hd (C:=T.cfg [30] []) (rs:= [.t 2]) (T.ai _ _) Tryz.func114 rfl rfl Tryz.ntmps114 Tryz.results114 (by simp [AObj.isNest]) (by simp [AObj.isNest]) (by kernel_rfl) T.mixed fun X hX hP hC aK cw=> ?_)
 repeat' (first|refine Rn.p ?_|(with_reducible apply And.intro)|((first|(refine hK _ ?_;clear hK K)|with_reducible intro K hK|refine Rs.p ?_|((with_reducible first|apply oP|apply oQ);exact rfl)|refine aa hX hC hP (jB g hm) rfl rfl rfl (by simp only [go_sem,simprocAttr]) rfl ?_|refine aa hX hC hP (cM bA.nil _ [] _ gT (cE g (aI g)) zV) rfl rfl rfl (by simp only [go_sem,simprocAttr]) rfl ?_|(refine ah hX hC hP (bp way a bW) rfl rfl rfl ?_ ?_ ?_ ?_;iterate 3 (focus (simp only [go_sem,simprocAttr];done)))|(refine ah hX hC hP (aQ way a bW) rfl rfl rfl ?_ ?_ ?_ ?_;iterate 3 (focus (simp only [go_sem,simprocAttr];done)))|(refine az hX hC hP [(10000,75)] (dX (way.drop k) hlr) rfl rfl rfl ?_ ?_ ?_ ?_ ?_ ?_ ?_ ?_ ?_ ?_ ?_ ?_ ?_ ?_;(focus (simp only [go_sem,simprocAttr];done));(iterate 12 (focus (simp [go_sem,simprocAttr];done)));try simp only [List.map_cons,List.map_nil])|(refine ah hX hC hP (jD rev rY hrev) rfl rfl rfl ?_ ?_ ?_ ?_;iterate 3 (focus (simp only [go_sem,simprocAttr];done)))|(refine ah hX hC hP (aQ rev (gL rev) tT) rfl rfl rfl ?_ ?_ ?_ ?_;iterate 3 (focus (simp only [go_sem,simprocAttr];done)))|(refine bJ hX hC hP (dQ [rev.drop k2,rev.take k2] hc1 GK IJ) rfl rfl rfl ?_ ?_ rfl ?_;iterate 2 (focus (simp only [go_sem,simprocAttr];done))));try simp only [go_sem,simprocAttr])|((with_reducible refine oD ?_ ?_);kernel_rfl)|((with_reducible intro h);try simp only [go_sem,simprocAttr] at h)|omega|intro h)
 (refine iN hX 6 30 (.own 3 1 []) (by simp only [go_sem,simprocAttr]) (by simp only [go_sem,simprocAttr]) (by decide) ⟨3,1,by decide, .inl rfl⟩ ?_;simp only [go_sem,simprocAttr])
 refine ag (fun i:List Int × Int=>Way g i.1∧(i.2= -1∨(0≤i.2∧i.2<g.n))∧kj g (cE g (aI g)) (left g i.1) i.1 i.2=jE g) (fun i=>⟨[(0, .d (vw g)),(4, .d (sI (cE g (aI g)))),(5,eN i.2),(6, .ref 30)], [(30, .own 3 1 (i.1.map rI))]⟩) (fun i=>left g i.1) ([],bV (fun n=>decide (0<n)) (cE g (aI g))) ⟨Way.nil g, ?_, ?_⟩ ?_ ?_
 ·rcases xq (fun n:Int=>decide (0<n)) (cE g (aI g)) with h|h
  ·exact .inl h
  ·rw [wts_length] at h;exact .inr (by simp only;omega)
 ·rw [ox];rfl
 ·(refine Le.of ?_ ?_<;>simp [go_sem,simprocAttr])
 rintro ⟨way,at_⟩ ⟨xz,FI,hrun⟩
 simp only at xz FI hrun ⊢
 have La:way.length≤64:=by have:=xz.fuel;omega
 have bW:way.length≤9223372036854775807:=by omega
 by_cases h0:at_<0
 ·have ak:decide (0≤at_)=false:=decide_eq_false (by omega)
  have bH:decide (at_<0)=true:=decide_eq_true h0
  have he:jF g= []:=by
   have:=jG (g:=g) (ws:=cE g (aI g)) (way:=way) (.inl h0) (left g way)
   rw [hrun] at this
   simp only [jF,this];rw [if_pos h0]
  repeat' (first|refine Rn.p ?_|(with_reducible apply And.intro)|((first|(refine hK _ ?_;clear hK K)|with_reducible intro K hK|refine Rs.p ?_|((with_reducible first|apply oP|apply oQ);exact rfl)|refine aa hX hC hP (jB g hm) rfl rfl rfl (by simp only [go_sem,simprocAttr,ak,bH]) rfl ?_|refine aa hX hC hP (cM bA.nil _ [] _ gT (cE g (aI g)) zV) rfl rfl rfl (by simp only [go_sem,simprocAttr,ak,bH]) rfl ?_|(refine ah hX hC hP (bp way a bW) rfl rfl rfl ?_ ?_ ?_ ?_;iterate 3 (focus (simp only [go_sem,simprocAttr,ak,bH];done)))|(refine ah hX hC hP (aQ way a bW) rfl rfl rfl ?_ ?_ ?_ ?_;iterate 3 (focus (simp only [go_sem,simprocAttr,ak,bH];done)))|(refine az hX hC hP [(10000,75)] (dX (way.drop k) hlr) rfl rfl rfl ?_ ?_ ?_ ?_ ?_ ?_ ?_ ?_ ?_ ?_ ?_ ?_ ?_ ?_;(focus (simp only [go_sem,simprocAttr,ak,bH];done));(iterate 12 (focus (simp [go_sem,simprocAttr,ak,bH];done)));try simp only [List.map_cons,List.map_nil])|(refine ah hX hC hP (jD rev rY hrev) rfl rfl rfl ?_ ?_ ?_ ?_;iterate 3 (focus (simp only [go_sem,simprocAttr,ak,bH];done)))|(refine ah hX hC hP (aQ rev (gL rev) tT) rfl rfl rfl ?_ ?_ ?_ ?_;iterate 3 (focus (simp only [go_sem,simprocAttr,ak,bH];done)))|(refine bJ hX hC hP (dQ [rev.drop k2,rev.take k2] hc1 GK IJ) rfl rfl rfl ?_ ?_ rfl ?_;iterate 2 (focus (simp only [go_sem,simprocAttr,ak,bH];done))));try simp only [go_sem,simprocAttr,ak,bH])|((with_reducible refine oD ?_ ?_);kernel_rfl)|((with_reducible intro h);try simp only [go_sem,simprocAttr,ak,bH] at h)|omega|intro h)
  rw [he];rfl
 obtain ⟨a,rfl⟩:∃a:Nat,at_=a:=⟨at_.toNat,by omega⟩
 have GL:a<g.n.toNat:=by omega
 have ak:decide (0≤(a:Int))=true:=decide_eq_true (by omega)
 by_cases hmem:(a:Int)∈way
 ·have an:decide ((a:Int)∈way)=true:=decide_eq_true hmem
  have bH:decide ((a:Int)<0)=false:=decide_eq_false h0
  have hend:=jG (g:=g) (ws:=cE g (aI g)) (.inr hmem) (left g way)
  rw [hrun] at hend
  obtain ⟨k,hk,ck,_⟩:=dy hmem
  obtain ⟨rev,iQ⟩:∃rev,rev=(way.drop k).reverse:=⟨_,rfl⟩
  have hrl:rev.length=way.length - k:=by rw [iQ];simp
  have rY:0<rev.length:=by omega
  have hrev:rev.length≤1000000:=by omega
  have tT:rev.length≤9223372036854775807:=by omega
  have hlr:(way.drop k).length≤1000000:=by simp;omega
  obtain ⟨k2,hk2,PJ,_⟩:=dy (iq rY)
  have hc1: [rev.drop k2,rev.take k2].length≤1000:=by simp
  have GK:0< [rev.drop k2,rev.take k2].flatten.length:=by simp;omega
  have IJ: [rev.drop k2,rev.take k2].flatten.length≤1000000:=by simp;omega
  have HO:jF g= [rev.drop k2,rev.take k2].flatten:=by
   simp only [jF,hend]
   rw [if_neg h0,hk]
   simp only [Int.toNat_natCast, ← iQ,kL,hk2,List.flatten_cons,List.flatten_nil,List.append_nil]
  repeat' (first|(show cl _ (.seq (.region 20 _ _) _) _ _;(refine dJ hX 75 rfl (.inr rfl) ?_;simp only [go_sem,simprocAttr,ak,an,bH,hk,hk2, ← List.map_take, ← List.map_drop,List.take_length, ← iQ,vL]))|refine Rn.p ?_|(with_reducible apply And.intro)|((first|(refine hK _ ?_;clear hK K)|with_reducible intro K hK|refine Rs.p ?_|((with_reducible first|apply oP|apply oQ);exact rfl)|refine aa hX hC hP (jB g hm) rfl rfl rfl (by simp only [go_sem,simprocAttr,ak,an,bH,hk,hk2, ← List.map_take, ← List.map_drop,List.take_length, ← iQ,vL]) rfl ?_|refine aa hX hC hP (cM bA.nil _ [] _ gT (cE g (aI g)) zV) rfl rfl rfl (by simp only [go_sem,simprocAttr,ak,an,bH,hk,hk2, ← List.map_take, ← List.map_drop,List.take_length, ← iQ,vL]) rfl ?_|(refine ah hX hC hP (bp way a bW) rfl rfl rfl ?_ ?_ ?_ ?_;iterate 3 (focus (simp only [go_sem,simprocAttr,ak,an,bH,hk,hk2, ← List.map_take, ← List.map_drop,List.take_length, ← iQ,vL];done)))|(refine ah hX hC hP (aQ way a bW) rfl rfl rfl ?_ ?_ ?_ ?_;iterate 3 (focus (simp only [go_sem,simprocAttr,ak,an,bH,hk,hk2, ← List.map_take, ← List.map_drop,List.take_length, ← iQ,vL];done)))|(refine az hX hC hP [(10000,75)] (dX (way.drop k) hlr) rfl rfl rfl ?_ ?_ ?_ ?_ ?_ ?_ ?_ ?_ ?_ ?_ ?_ ?_ ?_ ?_;(focus (simp only [go_sem,simprocAttr,ak,an,bH,hk,hk2, ← List.map_take, ← List.map_drop,List.take_length, ← iQ,vL];done));(iterate 12 (focus (simp [go_sem,simprocAttr,ak,an,bH,hk,hk2, ← List.map_take, ← List.map_drop,List.take_length, ← iQ,vL];done)));try simp only [List.map_cons,List.map_nil])|(refine ah hX hC hP (jD rev rY hrev) rfl rfl rfl ?_ ?_ ?_ ?_;iterate 3 (focus (simp only [go_sem,simprocAttr,ak,an,bH,hk,hk2, ← List.map_take, ← List.map_drop,List.take_length, ← iQ,vL];done)))|(refine ah hX hC hP (aQ rev (gL rev) tT) rfl rfl rfl ?_ ?_ ?_ ?_;iterate 3 (focus (simp only [go_sem,simprocAttr,ak,an,bH,hk,hk2, ← List.map_take, ← List.map_drop,List.take_length, ← iQ,vL];done)))|(refine bJ hX hC hP (dQ [rev.drop k2,rev.take k2] hc1 GK IJ) rfl rfl rfl ?_ ?_ rfl ?_;iterate 2 (focus (simp only [go_sem,simprocAttr,ak,an,bH,hk,hk2, ← List.map_take, ← List.map_drop,List.take_length, ← iQ,vL];done))));try simp only [go_sem,simprocAttr,ak,an,bH,hk,hk2, ← List.map_take, ← List.map_drop,List.take_length, ← iQ,vL])|((with_reducible refine oD ?_ ?_);kernel_rfl)|((with_reducible intro h);try simp only [go_sem,simprocAttr,ak,an,bH,hk,hk2, ← List.map_take, ← List.map_drop,List.take_length, ← iQ,vL] at h)|omega|intro h)
  rw [HO]
 ·have an:decide ((a:Int)∈way)=false:=decide_eq_false hmem
  have hv:=ow (f:=(·.2)) GL
  have M8:(pF g a).length≤g.es.length:=gS
  repeat' (first|refine Rn.p ?_|(with_reducible apply And.intro)|((first|(refine hK _ ?_;clear hK K)|with_reducible intro K hK|refine Rs.p ?_|((with_reducible first|apply oP|apply oQ);exact rfl)|refine aa hX hC hP (jB g hm) rfl rfl rfl (by simp only [go_sem,simprocAttr,ak,an,hv,au]) rfl ?_|refine aa hX hC hP (cM bA.nil _ [] _ gT (cE g (aI g)) zV) rfl rfl rfl (by simp only [go_sem,simprocAttr,ak,an,hv,au]) rfl ?_|(refine ah hX hC hP (bp way a bW) rfl rfl rfl ?_ ?_ ?_ ?_;iterate 3 (focus (simp only [go_sem,simprocAttr,ak,an,hv,au];done)))|(refine ah hX hC hP (aQ way a bW) rfl rfl rfl ?_ ?_ ?_ ?_;iterate 3 (focus (simp only [go_sem,simprocAttr,ak,an,hv,au];done)))|(refine az hX hC hP [(10000,75)] (dX (way.drop k) hlr) rfl rfl rfl ?_ ?_ ?_ ?_ ?_ ?_ ?_ ?_ ?_ ?_ ?_ ?_ ?_ ?_;(focus (simp only [go_sem,simprocAttr,ak,an,hv,au];done));(iterate 12 (focus (simp [go_sem,simprocAttr,ak,an,hv,au];done)));try simp only [List.map_cons,List.map_nil])|(refine ah hX hC hP (jD rev rY hrev) rfl rfl rfl ?_ ?_ ?_ ?_;iterate 3 (focus (simp only [go_sem,simprocAttr,ak,an,hv,au];done)))|(refine ah hX hC hP (aQ rev (gL rev) tT) rfl rfl rfl ?_ ?_ ?_ ?_;iterate 3 (focus (simp only [go_sem,simprocAttr,ak,an,hv,au];done)))|(refine bJ hX hC hP (dQ [rev.drop k2,rev.take k2] hc1 GK IJ) rfl rfl rfl ?_ ?_ rfl ?_;iterate 2 (focus (simp only [go_sem,simprocAttr,ak,an,hv,au];done))));try simp only [go_sem,simprocAttr,ak,an,hv,au])|((with_reducible refine oD ?_ ?_);kernel_rfl)|((with_reducible intro h);try simp only [go_sem,simprocAttr,ak,an,hv,au] at h)|omega|intro h)
  refine ag (fun j:Nat=>j≤(pF g a).length) (fun j=>⟨[(39,eN j),(38,eN (pF g a).length),(37, .d (sI (pF g a))),(7,eN (tS g (cE g (aI g)) ((pF g a).take j))),(0, .d (II g)),(4, .d (sI (cE g (aI g)))),(6, .ref 30)], [(30, .own 3 1 ((way++ [(a:Int)]).map rI))]⟩) (fun j=>(pF g a).length - j) 0 (by simp) ?_ ?_
  ·refine Le.of ?_ ?_<;>simp [go_sem,simprocAttr,ak,an,hv,au,pF,rI,tS]
  rintro j hj
  rcases Nat.lt_or_ge j (pF g a).length with hlt|hge
  ·have hb4:decide ((j:Int)<((pF g a).length:Int))=true:=decide_eq_true (by omega)
   obtain ⟨i,hi,hil,hit⟩:=va (List.getElem_mem hlt)
   have hi1:(pF g a)[j]? =some (i:Int):=by rw [List.getElem?_eq_getElem hlt,hi]
   have hi2:(pF g a).getD j 0=(i:Int):=by rw [List.getD_eq_getElem?_getD,hi1];rfl
   obtain ⟨⟨FH,qd⟩,_⟩:=eA hm hil
   have hstep:tS g (cE g (aI g)) ((pF g a).take (j+1))=eS g (cE g (aI g)) (tS g (cE g (aI g)) ((pF g a).take j)) i:=Bh hi1
   rw [Dm] at hstep
   repeat' (first|refine Rn.p ?_|(with_reducible apply And.intro)|((first|(refine hK _ ?_;clear hK K)|with_reducible intro K hK|refine Rs.p ?_|((with_reducible first|apply oP|apply oQ);exact rfl)|refine aa hX hC hP (jB g hm) rfl rfl rfl (by simp only [go_sem,simprocAttr,hb4,hi2,wts_length]) rfl ?_|refine aa hX hC hP (cM bA.nil _ [] _ gT (cE g (aI g)) zV) rfl rfl rfl (by simp only [go_sem,simprocAttr,hb4,hi2,wts_length]) rfl ?_|(refine ah hX hC hP (bp way a bW) rfl rfl rfl ?_ ?_ ?_ ?_;iterate 3 (focus (simp only [go_sem,simprocAttr,hb4,hi2,wts_length];done)))|(refine ah hX hC hP (aQ way a bW) rfl rfl rfl ?_ ?_ ?_ ?_;iterate 3 (focus (simp only [go_sem,simprocAttr,hb4,hi2,wts_length];done)))|(refine az hX hC hP [(10000,75)] (dX (way.drop k) hlr) rfl rfl rfl ?_ ?_ ?_ ?_ ?_ ?_ ?_ ?_ ?_ ?_ ?_ ?_ ?_ ?_;(focus (simp only [go_sem,simprocAttr,hb4,hi2,wts_length];done));(iterate 12 (focus (simp [go_sem,simprocAttr,hb4,hi2,wts_length];done)));try simp only [List.map_cons,List.map_nil])|(refine ah hX hC hP (jD rev rY hrev) rfl rfl rfl ?_ ?_ ?_ ?_;iterate 3 (focus (simp only [go_sem,simprocAttr,hb4,hi2,wts_length];done)))|(refine ah hX hC hP (aQ rev (gL rev) tT) rfl rfl rfl ?_ ?_ ?_ ?_;iterate 3 (focus (simp only [go_sem,simprocAttr,hb4,hi2,wts_length];done)))|(refine bJ hX hC hP (dQ [rev.drop k2,rev.take k2] hc1 GK IJ) rfl rfl rfl ?_ ?_ rfl ?_;iterate 2 (focus (simp only [go_sem,simprocAttr,hb4,hi2,wts_length];done))));try simp only [go_sem,simprocAttr,hb4,hi2,wts_length])|((with_reducible refine oD ?_ ?_);kernel_rfl)|((with_reducible intro h);try simp only [go_sem,simprocAttr,hb4,hi2,wts_length] at h)|omega|intro h)
   all_goals (refine ⟨j+1,by omega, ?_,by omega⟩;first|rw [if_pos (by omega)] at hstep|rw [if_neg (by omega)] at hstep)
   all_goals (refine Le.of ?_ ?_<;>simp [go_sem,simprocAttr,hb4,hi2,wts_length,hstep])
  ·have hb4:decide ((j:Int)<((pF g a).length:Int))=false:=decide_eq_false (by omega)
   have ht:(pF g a).take j=pF g a:=List.take_of_length_le (by omega)
   repeat' (first|refine Rn.p ?_|(with_reducible apply And.intro)|((first|(refine hK _ ?_;clear hK K)|with_reducible intro K hK|refine Rs.p ?_|((with_reducible first|apply oP|apply oQ);exact rfl)|refine aa hX hC hP (jB g hm) rfl rfl rfl (by simp only [go_sem,simprocAttr,hb4,ht]) rfl ?_|refine aa hX hC hP (cM bA.nil _ [] _ gT (cE g (aI g)) zV) rfl rfl rfl (by simp only [go_sem,simprocAttr,hb4,ht]) rfl ?_|(refine ah hX hC hP (bp way a bW) rfl rfl rfl ?_ ?_ ?_ ?_;iterate 3 (focus (simp only [go_sem,simprocAttr,hb4,ht];done)))|(refine ah hX hC hP (aQ way a bW) rfl rfl rfl ?_ ?_ ?_ ?_;iterate 3 (focus (simp only [go_sem,simprocAttr,hb4,ht];done)))|(refine az hX hC hP [(10000,75)] (dX (way.drop k) hlr) rfl rfl rfl ?_ ?_ ?_ ?_ ?_ ?_ ?_ ?_ ?_ ?_ ?_ ?_ ?_ ?_;(focus (simp only [go_sem,simprocAttr,hb4,ht];done));(iterate 12 (focus (simp [go_sem,simprocAttr,hb4,ht];done)));try simp only [List.map_cons,List.map_nil])|(refine ah hX hC hP (jD rev rY hrev) rfl rfl rfl ?_ ?_ ?_ ?_;iterate 3 (focus (simp only [go_sem,simprocAttr,hb4,ht];done)))|(refine ah hX hC hP (aQ rev (gL rev) tT) rfl rfl rfl ?_ ?_ ?_ ?_;iterate 3 (focus (simp only [go_sem,simprocAttr,hb4,ht];done)))|(refine bJ hX hC hP (dQ [rev.drop k2,rev.take k2] hc1 GK IJ) rfl rfl rfl ?_ ?_ rfl ?_;iterate 2 (focus (simp only [go_sem,simprocAttr,hb4,ht];done))));try simp only [go_sem,simprocAttr,hb4,ht])|((with_reducible refine oD ?_ ?_);kernel_rfl)|((with_reducible intro h);try simp only [go_sem,simprocAttr,hb4,ht] at h)|omega|intro h)
   refine ⟨(way++ [(a:Int)],iP g (cE g (aI g)) a),⟨xz.next GL hmem,qi hm _ _ _ (.inl rfl) Dn, ?_⟩, ?_, ?_⟩
   ·simp only
    rw [← hrun,ij GL hmem]
    simp only [kj]
    rw [if_neg (by intro h;rcases h with h|h;omega;exact hmem h)]
   ·refine Le.of ?_ ?_<;>simp [go_sem,simprocAttr,hb4,ht,iP]
   ·have:=ij GL hmem;simp only;omega
end Go.Ab
end
section
namespace Go.Ab
open Go.Proofs
attribute [local congr] ACall.congr gd.congr Nx.congr
set_option maxRecDepth 10000
def eF (f:Int × Int × List Int):AV:= .agg [eN f.1,eN f.2.1, .d (sI f.2.2)]
attribute [go_sem] eF
def jH (g:Gr):Int:=bV (fun e:Edge=>decide (e.1=e.2)) g.es
def nh (g:Gr) (i:Nat):Bool:=decide (g.es.getD i (0,0)∈g.es.take i)
def eD (g:Gr):Int:=bV (nh g) (List.range g.es.length)
def gF (g:Gr) (Oc bare:List Int):Int × Int × List Int:=
 if aP g=false then (1,0, []) else
 if 0≤jH g then (13,jH g, []) else
 if 0≤eD g then (14,eD g, []) else
 if 0<Oc.length then (15,0,Oc) else
 if 1<bare.length then (16,0,bare.take 2) else (0,0, [])
def bZ (g:Gr):Int × Int × List Int:=gF g (jF g) (bG (·.2) g)
theorem jI (e:Edge):Spec Tryz.prog 112 (Args [eE e]) [] (eB (decide (e.1=e.2))) []:=by
 (refine Spec.hd (C:=T.cfg [] []) (rs:= [.t 2]) (T.ai _ _) Tryz.func112 rfl rfl Tryz.ntmps112 Tryz.results112 (by simp [AObj.isNest]) (by simp [AObj.isNest]) (by kernel_rfl) T.mixed fun X hX hP hC aK cw=> ?_)
 repeat' (first|refine Rn.p ?_|(with_reducible apply And.intro)|((first|(refine hK _ ?_;clear hK K)|with_reducible intro K hK|refine Rs.p ?_|((with_reducible first|apply oP|apply oQ);exact rfl));try simp only [go_sem,simprocAttr])|((with_reducible refine oD ?_ ?_);kernel_rfl)|((with_reducible intro h);try simp only [go_sem,simprocAttr] at h)|omega|intro h)
theorem fL {n k:Nat} (h:k<n) (d:Nat):(List.range n).getD k d=k:=by
 simp [List.getD_eq_getElem?_getD,List.getElem?_range h]
theorem ko (g:Gr) (hl:g.es.length≤1000):Spec Tryz.prog 65 (Args [eG g]) [] (eF (bZ g)) []:=by
 have hl:g.es.length≤9223372036854775807:=by omega
 (refine Spec.hd (C:=T.cfg [] []) (rs:= [.c 2 64]) (T.ai _ _) Tryz.func65 rfl rfl Tryz.ntmps65 Tryz.results65 (by simp [AObj.isNest]) (by simp [AObj.isNest]) (by kernel_rfl) T.mixed fun X hX hP hC aK cw=> ?_)
 cases hm:aP g with
 |false=>
  repeat' (first|refine Rn.p ?_|(with_reducible apply And.intro)|((first|(refine hK _ ?_;clear hK K)|with_reducible intro K hK|refine Rs.p ?_|((with_reducible first|apply oP|apply oQ);exact rfl)|refine aa hX hC hP (gi g hl) rfl rfl rfl (by simp only [go_sem,simprocAttr,hm]) rfl ?_|refine aa hX hC hP (bI bA.nil _ [] _ jI g.es hl) rfl rfl rfl (by simp only [go_sem,simprocAttr,hm]) rfl ?_|refine aa hX hC hP (fV g hm) rfl rfl rfl (by simp only [go_sem,simprocAttr,hm]) rfl ?_|refine aa hX hC hP (ir g hm) rfl rfl rfl (by simp only [go_sem,simprocAttr,hm]) rfl ?_|refine aa hX hC hP (dY g hm) rfl rfl rfl (by simp only [go_sem,simprocAttr,hm]) rfl ?_|refine aa hX hC hP (dP (g.es.take k) (g.es.getD k (0,0)) hlk) rfl rfl rfl (by simp only [go_sem,simprocAttr,hm]) rfl ?_);try simp only [go_sem,simprocAttr,hm])|((with_reducible refine oD ?_ ?_);kernel_rfl)|((with_reducible intro h);try simp only [go_sem,simprocAttr,hm] at h)|omega|intro h)
  all_goals simp [bZ,gF,hm]
 |true=>
 have hn:=aU hm
 by_cases hlo:0≤jH g
 ·have ak:decide (0≤bV (fun p:Edge=>decide (p.1=p.2)) g.es)=true:=decide_eq_true hlo
  repeat' (first|refine Rn.p ?_|(with_reducible apply And.intro)|((first|(refine hK _ ?_;clear hK K)|with_reducible intro K hK|refine Rs.p ?_|((with_reducible first|apply oP|apply oQ);exact rfl)|refine aa hX hC hP (gi g hl) rfl rfl rfl (by simp only [go_sem,simprocAttr,hm,ak]) rfl ?_|refine aa hX hC hP (bI bA.nil _ [] _ jI g.es hl) rfl rfl rfl (by simp only [go_sem,simprocAttr,hm,ak]) rfl ?_|refine aa hX hC hP (fV g hm) rfl rfl rfl (by simp only [go_sem,simprocAttr,hm,ak]) rfl ?_|refine aa hX hC hP (ir g hm) rfl rfl rfl (by simp only [go_sem,simprocAttr,hm,ak]) rfl ?_|refine aa hX hC hP (dY g hm) rfl rfl rfl (by simp only [go_sem,simprocAttr,hm,ak]) rfl ?_|refine aa hX hC hP (dP (g.es.take k) (g.es.getD k (0,0)) hlk) rfl rfl rfl (by simp only [go_sem,simprocAttr,hm,ak]) rfl ?_);try simp only [go_sem,simprocAttr,hm,ak])|((with_reducible refine oD ?_ ?_);kernel_rfl)|((with_reducible intro h);try simp only [go_sem,simprocAttr,hm,ak] at h)|omega|intro h)
  all_goals (
   have hc:bZ g=(13,jH g, []):=by
    simp only [bZ,gF];rw [if_neg (by simp [hm]),if_pos hlo]
   rw [hc]<;>rfl)
 have ak:decide (0≤bV (fun p:Edge=>decide (p.1=p.2)) g.es)=false:=decide_eq_false hlo
 repeat' (first|refine Rn.p ?_|(with_reducible apply And.intro)|((first|(refine hK _ ?_;clear hK K)|with_reducible intro K hK|refine Rs.p ?_|((with_reducible first|apply oP|apply oQ);exact rfl)|refine aa hX hC hP (gi g hl) rfl rfl rfl (by simp only [go_sem,simprocAttr,hm,ak]) rfl ?_|refine aa hX hC hP (bI bA.nil _ [] _ jI g.es hl) rfl rfl rfl (by simp only [go_sem,simprocAttr,hm,ak]) rfl ?_|refine aa hX hC hP (fV g hm) rfl rfl rfl (by simp only [go_sem,simprocAttr,hm,ak]) rfl ?_|refine aa hX hC hP (ir g hm) rfl rfl rfl (by simp only [go_sem,simprocAttr,hm,ak]) rfl ?_|refine aa hX hC hP (dY g hm) rfl rfl rfl (by simp only [go_sem,simprocAttr,hm,ak]) rfl ?_|refine aa hX hC hP (dP (g.es.take k) (g.es.getD k (0,0)) hlk) rfl rfl rfl (by simp only [go_sem,simprocAttr,hm,ak]) rfl ?_);try simp only [go_sem,simprocAttr,hm,ak])|((with_reducible refine oD ?_ ?_);kernel_rfl)|((with_reducible intro h);try simp only [go_sem,simprocAttr,hm,ak] at h)|omega|intro h)
 refine ag (fun k:Nat=>k≤g.es.length∧∀j,j<k→nh g j=false) (fun k=>⟨[(23,eN k),(22,eN g.es.length),(21, .d (sE g.es)),(1, .ptr 1 0),(2, .ptr 2 0)], [(1, .box [eN g.n, .d (sE g.es)]),(2, .box [eN 0,eN 0, .nil 3])]⟩) (fun k=>g.es.length - k) 0 (by simp) ?_ ?_
 ·(refine Le.of ?_ ?_<;>simp [go_sem,simprocAttr,hm,ak])
 rintro k ⟨hk,HP⟩
 rcases Nat.lt_or_ge k g.es.length with hlt|hge
 ·have an:decide ((k:Int)<(g.es.length:Int))=true:=decide_eq_true (by omega)
  have hlk:(g.es.take k).length≤9223372036854775807:=by rw [List.length_take];omega
  repeat' (first|refine Rn.p ?_|(with_reducible apply And.intro)|((first|(refine hK _ ?_;clear hK K)|with_reducible intro K hK|refine Rs.p ?_|((with_reducible first|apply oP|apply oQ);exact rfl)|refine aa hX hC hP (gi g hl) rfl rfl rfl (by simp only [go_sem,simprocAttr,hm,ak,an, ← List.map_take]) rfl ?_|refine aa hX hC hP (bI bA.nil _ [] _ jI g.es hl) rfl rfl rfl (by simp only [go_sem,simprocAttr,hm,ak,an, ← List.map_take]) rfl ?_|refine aa hX hC hP (fV g hm) rfl rfl rfl (by simp only [go_sem,simprocAttr,hm,ak,an, ← List.map_take]) rfl ?_|refine aa hX hC hP (ir g hm) rfl rfl rfl (by simp only [go_sem,simprocAttr,hm,ak,an, ← List.map_take]) rfl ?_|refine aa hX hC hP (dY g hm) rfl rfl rfl (by simp only [go_sem,simprocAttr,hm,ak,an, ← List.map_take]) rfl ?_|refine aa hX hC hP (dP (g.es.take k) (g.es.getD k (0,0)) hlk) rfl rfl rfl (by simp only [go_sem,simprocAttr,hm,ak,an, ← List.map_take]) rfl ?_);try simp only [go_sem,simprocAttr,hm,ak,an, ← List.map_take])|((with_reducible refine oD ?_ ?_);kernel_rfl)|((with_reducible intro h);try simp only [go_sem,simprocAttr,hm,ak,an, ← List.map_take] at h)|omega|intro h)
  any_goals (
   have Na:eD g=(k:Int):=dK (d:=0) (by simpa using hlt) (fun j hj=>by rw [fL (by omega)];exact HP j hj) (by rw [fL hlt];exact decide_eq_true h)
   have hc:bZ g=(14,eD g, []):=by
    simp only [bZ,gF];rw [if_neg (by simp [hm]),if_neg hlo,if_pos (by omega)]
   rw [hc]<;>first|rfl|exact Na.symm)
  refine ⟨k+1,⟨by omega,fun j hj=> ?_⟩, ?_,by omega⟩
  ·by_cases hjk:j=k
   ·subst hjk;exact decide_eq_false h
   ·exact HP j (by omega)
  ·(refine Le.of ?_ ?_<;>simp [go_sem,simprocAttr,hm,ak,an, ← List.map_take])
 ·have an:decide ((k:Int)<(g.es.length:Int))=false:=decide_eq_false (by omega)
  have Dp:¬0≤eD g:=by
   have:eD g= -1:=cG 0 fun j hj=>by
    rw [List.length_range] at hj
    rw [fL hj];exact HP j (by omega)
   omega
  repeat' (first|refine Rn.p ?_|(with_reducible apply And.intro)|((first|(refine hK _ ?_;clear hK K)|with_reducible intro K hK|refine Rs.p ?_|((with_reducible first|apply oP|apply oQ);exact rfl)|refine aa hX hC hP (gi g hl) rfl rfl rfl (by simp only [go_sem,simprocAttr,hm,ak,an]) rfl ?_|refine aa hX hC hP (bI bA.nil _ [] _ jI g.es hl) rfl rfl rfl (by simp only [go_sem,simprocAttr,hm,ak,an]) rfl ?_|refine aa hX hC hP (fV g hm) rfl rfl rfl (by simp only [go_sem,simprocAttr,hm,ak,an]) rfl ?_|refine aa hX hC hP (ir g hm) rfl rfl rfl (by simp only [go_sem,simprocAttr,hm,ak,an]) rfl ?_|refine aa hX hC hP (dY g hm) rfl rfl rfl (by simp only [go_sem,simprocAttr,hm,ak,an]) rfl ?_|refine aa hX hC hP (dP (g.es.take k) (g.es.getD k (0,0)) hlk) rfl rfl rfl (by simp only [go_sem,simprocAttr,hm,ak,an]) rfl ?_);try simp only [go_sem,simprocAttr,hm,ak,an])|((with_reducible refine oD ?_ ?_);kernel_rfl)|((with_reducible intro h);try simp only [go_sem,simprocAttr,hm,ak,an] at h)|omega|intro h)
  all_goals (
   have hc:bZ g=if 0<(jF g).length then (15,0,jF g) else if 1<(bG (·.2) g).length then (16,0,(bG (·.2) g).take 2) else (0,0, []):=by
    simp only [bZ,gF];rw [if_neg (by simp [hm]),if_neg hlo,if_neg Dp]
   first|rw [if_pos (by omega)] at hc|(rw [if_neg (by omega)] at hc;first|rw [if_pos (by omega)] at hc|rw [if_neg (by omega)] at hc)
   rw [hc]<;>first|rfl|simp only [List.map_take])
end Go.Ab
end
section
namespace Go.Ab
open Go.Proofs
attribute [local congr] ACall.congr gd.congr Nx.congr
set_option maxRecDepth 10000
theorem bg (ps:List Int) (x:Int) (hl:ps.length≤9223372036854775807):
 Spec Tryz.prog 196 (Args [.d (sI ps),eN x]) [] (eN (dA ps x)) []:=by
 (refine Spec.hd (C:=T.cfg [] []) (rs:= [.t 4]) (T.ai _ _) Tryz.func196 rfl rfl Tryz.ntmps196 Tryz.results196 (by simp [AObj.isNest]) (by simp [AObj.isNest]) (by kernel_rfl) T.mixed fun X hX hP hC aK cw=> ?_)
 repeat' (first|refine Rn.p ?_|(with_reducible apply And.intro)|((first|(refine hK _ ?_;clear hK K)|with_reducible intro K hK|refine Rs.p ?_|((with_reducible first|apply oP|apply oQ);exact rfl));try simp only [go_sem,simprocAttr])|((with_reducible refine oD ?_ ?_);kernel_rfl)|((with_reducible intro h);try simp only [go_sem,simprocAttr] at h)|omega|intro h)
 refine ag (fun k:Nat=>k≤ps.length∧∀j,j<k→decide (x=ps.getD j 0)=false) (fun k=>⟨[(0, .d (sI ps)),(1,eN x),(5,eN k)], []⟩) (fun k=>ps.length - k) 0 (by simp) ?_ ?_
 ·(refine ⟨bL ?_,fun _ _ h=>h⟩;simp [go_sem,simprocAttr])
 rintro k ⟨hk,hg⟩
 repeat' (first|refine Rn.p ?_|(with_reducible apply And.intro)|((first|(refine hK _ ?_;clear hK K)|with_reducible intro K hK|refine Rs.p ?_|((with_reducible first|apply oP|apply oQ);exact rfl));try simp only [go_sem,simprocAttr])|((with_reducible refine oD ?_ ?_);kernel_rfl)|((with_reducible intro h);try simp only [go_sem,simprocAttr] at h)|omega|intro h)
 ·exact (dK (by omega) hg (by simpa using h.symm)).symm
 ·refine ⟨k+1,⟨by omega,fun j hj=> ?_⟩, ?_,by omega⟩
  ·by_cases hjk:j=k
   ·subst hjk;exact fun e=>h (Eq.symm e)
   ·simpa using hg j (by omega)
  ·(refine ⟨bL ?_,fun _ _ h=>h⟩;simp [go_sem,simprocAttr])
 ·exact (cG 0 fun j hj=>hg j (by omega)).symm
def aY (f:Edge→Int) (es:List Edge) (k:Nat) (x:Int):List Int:=((List.range k).filter fun i=>decide (f (es.getD i (0,0))=x)).map Int.ofNat
theorem lz (f:Edge→Int) (es:List Edge) (k x:Nat):eP f es k x=aY f es k (x:Int):=rfl
theorem jJ {f:Edge→Int} {es:List Edge} {k:Nat} {x:Int} :(aY f es k x).length≤k:=by
 simpa [aY] using List.length_filter_le (fun i=>decide (f (es.getD i (0,0))=x)) (List.range k)
theorem rZ {f:Edge→Int} {es:List Edge} {k:Nat} {x:Int} :aY f es (k+1) x=aY f es k x++if f (es.getD k (0,0))=x then [(k:Int)] else []:=by
 simp only [aY,List.range_succ,List.filter_append,List.map_append,List.filter_cons,List.filter_nil]
 split<;>simp_all
def kq (b:Bool) (e:Edge):Int:=if b then e.1 else e.2
theorem aX (g:Gr) (x:Int) (b:Bool) (hl:g.es.length≤1000):Spec Tryz.prog 55 (Args [eG g,eN x,eB b]) [] (.d (sI (aY (kq b) g.es g.es.length x))) []:=by
 (refine Spec.hd (C:=T.cfg [] []) (rs:= [.t 6]) (T.ai _ _) Tryz.func55 rfl rfl Tryz.ntmps55 Tryz.results55 (by simp [AObj.isNest]) (by simp [AObj.isNest]) (by kernel_rfl) T.mixed fun X hX hP hC aK cw=> ?_)
 repeat' (first|refine Rn.p ?_|(with_reducible apply And.intro)|((first|(refine hK _ ?_;clear hK K)|with_reducible intro K hK|refine Rs.p ?_|((with_reducible first|apply oP|apply oQ);exact rfl));try simp only [go_sem,simprocAttr])|((with_reducible refine oD ?_ ?_);kernel_rfl)|((with_reducible intro h);try simp only [go_sem,simprocAttr] at h)|omega|intro h)
 (refine jd hX 7 9 45 (by simp only [go_sem,simprocAttr]) rfl (by first|exact .inl rfl|exact .inr rfl) (by decide) ?_;simp only [go_sem,simprocAttr])
 refine ag (fun k:Nat=>k≤g.es.length) (fun k=>⟨[(1,eN x),(2,eB b),(3, .ptr 3 0),(8,eN k),(7, .ref 45)], [(3, .box [eN g.n, .d (sE g.es)]),(45, .tip 3 1 ((aY (kq b) g.es k x).map rI))]⟩) (fun k=>g.es.length - k) 0 (by simp) ?_ ?_
 ·refine Le.of ?_ ?_<;>simp [go_sem,simprocAttr,aY]
 rintro k hk
 rcases Nat.lt_or_ge k g.es.length with hlt|hge
 ·have hb:decide ((k:Int)<(g.es.length:Int))=true:=decide_eq_true (by omega)
  have lZ:=jJ (f:=kq b) (es:=g.es) (k:=k) (x:=x)
  cases b
  ·have dV:aY (kq false) g.es (k+1) x=aY (kq false) g.es k x++if (g.es.getD k (0,0)).2=x then [(k:Int)] else []:=rZ
   repeat' (first|refine Rn.p ?_|(with_reducible apply And.intro)|((first|(refine hK _ ?_;clear hK K)|with_reducible intro K hK|refine Rs.p ?_|((with_reducible first|apply oP|apply oQ);exact rfl));try simp only [go_sem,simprocAttr,hb])|((with_reducible refine oD ?_ ?_);kernel_rfl)|((with_reducible intro h);try simp only [go_sem,simprocAttr,hb] at h)|omega|intro h)
   all_goals (first|rw [if_pos (by assumption)] at dV|rw [if_neg (by assumption),List.append_nil] at dV)
   all_goals (refine ⟨k+1,by omega, ?_,by omega⟩;refine Le.of ?_ ?_<;>simp [go_sem,simprocAttr,hb,dV,rI])
  ·have dV:aY (kq true) g.es (k+1) x=aY (kq true) g.es k x++if (g.es.getD k (0,0)).1=x then [(k:Int)] else []:=rZ
   repeat' (first|refine Rn.p ?_|(with_reducible apply And.intro)|((first|(refine hK _ ?_;clear hK K)|with_reducible intro K hK|refine Rs.p ?_|((with_reducible first|apply oP|apply oQ);exact rfl));try simp only [go_sem,simprocAttr,hb])|((with_reducible refine oD ?_ ?_);kernel_rfl)|((with_reducible intro h);try simp only [go_sem,simprocAttr,hb] at h)|omega|intro h)
   all_goals (first|rw [if_pos (by assumption)] at dV|rw [if_neg (by assumption),List.append_nil] at dV)
   all_goals (refine ⟨k+1,by omega, ?_,by omega⟩;refine Le.of ?_ ?_<;>simp [go_sem,simprocAttr,hb,dV,rI])
 ·have hb:decide ((k:Int)<(g.es.length:Int))=false:=decide_eq_false (by omega)
  obtain rfl:k=g.es.length:=by omega
  repeat' (first|refine Rn.p ?_|(with_reducible apply And.intro)|((first|(refine hK _ ?_;clear hK K)|with_reducible intro K hK|refine Rs.p ?_|((with_reducible first|apply oP|apply oQ);exact rfl));try simp only [go_sem,simprocAttr,hb])|((with_reducible refine oD ?_ ?_);kernel_rfl)|((with_reducible intro h);try simp only [go_sem,simprocAttr,hb] at h)|omega|intro h)
theorem cz (g:Gr) (b:Bool) (hl:g.es.length≤1000) (hn:0≤g.n∧g.n≤1000):Spec Tryz.prog 17 (Args [eG g,eB b]) [] (.d (sI (bG (kq (!b)) g))) []:=by
 (refine Spec.hd (C:=T.cfg [] []) (rs:= [.t 4]) (T.ai _ _) Tryz.func17 rfl rfl Tryz.ntmps17 Tryz.results17 (by simp [AObj.isNest]) (by simp [AObj.isNest]) (by kernel_rfl) T.mixed fun X hX hP hC aK cw=> ?_)
 repeat' (first|refine Rn.p ?_|(with_reducible apply And.intro)|((first|(refine hK _ ?_;clear hK K)|with_reducible intro K hK|refine Rs.p ?_|((with_reducible first|apply oP|apply oQ);exact rfl)|refine aa hX hC hP (aX g (k:Int) (!b) hl) rfl rfl rfl (by simp only [go_sem,simprocAttr]) rfl ?_);try simp only [go_sem,simprocAttr])|((with_reducible refine oD ?_ ?_);kernel_rfl)|((with_reducible intro h);try simp only [go_sem,simprocAttr] at h)|omega|intro h)
 (refine jd hX 5 7 24 (by simp only [go_sem,simprocAttr]) rfl (by first|exact .inl rfl|exact .inr rfl) (by decide) ?_;simp only [go_sem,simprocAttr])
 refine ag (fun k:Nat=>k≤g.n.toNat) (fun k=>⟨[(1,eB b),(2, .ptr 2 0),(6,eN k),(5, .ref 24)], [(2, .box [eN g.n, .d (sE g.es)]),(24, .tip 3 1 ((ig (di (kq (!b)) g) k).map rI))]⟩) (fun k=>g.n.toNat - k) 0 (by simp) ?_ ?_
 ·refine Le.of ?_ ?_<;>simp [go_sem,simprocAttr,ig]
 rintro k hk
 rcases Nat.lt_or_ge k g.n.toNat with hlt|hge
 ·have hb:decide ((k:Int)<g.n)=true:=decide_eq_true (by omega)
  have lZ:=tQ (ls:=di (kq (!b)) g) (k:=k)
  have he:(di (kq (!b)) g).getD k []=aY (kq (!b)) g.es g.es.length (k:Int):=by
   simp [di,List.getD_eq_getElem?_getD,List.getElem?_range hlt,lz]
  have dV:=ng (ls:=di (kq (!b)) g) (k:=k)
  rw [he] at dV
  repeat' (first|refine Rn.p ?_|(with_reducible apply And.intro)|((first|(refine hK _ ?_;clear hK K)|with_reducible intro K hK|refine Rs.p ?_|((with_reducible first|apply oP|apply oQ);exact rfl)|refine aa hX hC hP (aX g (k:Int) (!b) hl) rfl rfl rfl (by simp only [go_sem,simprocAttr,hb]) rfl ?_);try simp only [go_sem,simprocAttr,hb])|((with_reducible refine oD ?_ ?_);kernel_rfl)|((with_reducible intro h);try simp only [go_sem,simprocAttr,hb] at h)|omega|intro h)
  all_goals (first|rw [if_pos (by omega)] at dV|rw [if_neg (by omega),List.append_nil] at dV)
  all_goals (refine ⟨k+1,by omega, ?_,by omega⟩;refine Le.of ?_ ?_<;>simp [go_sem,simprocAttr,hb,dV,rI])
 ·have hb:decide ((k:Int)<g.n)=false:=decide_eq_false (by omega)
  obtain rfl:k=g.n.toNat:=by omega
  repeat' (first|refine Rn.p ?_|(with_reducible apply And.intro)|((first|(refine hK _ ?_;clear hK K)|with_reducible intro K hK|refine Rs.p ?_|((with_reducible first|apply oP|apply oQ);exact rfl)|refine aa hX hC hP (aX g (k:Int) (!b) hl) rfl rfl rfl (by simp only [go_sem,simprocAttr,hb]) rfl ?_);try simp only [go_sem,simprocAttr,hb])|((with_reducible refine oD ?_ ?_);kernel_rfl)|((with_reducible intro h);try simp only [go_sem,simprocAttr,hb] at h)|omega|intro h)
  rfl
end Go.Ab
end
section
namespace Go.Ab
open Go.Proofs
attribute [local congr] ACall.congr gd.congr Nx.congr
set_option maxRecDepth 10000
def rB (b:Bool):List D:= [.sc (.bool b)]
def sB (l:List Bool):D:= .sl 1 (l.map rB)
theorem getD_rB (l:List Bool) (i:Nat):(l.map rB).getD i [.sc (.bool false)]= [.sc (.bool (l.getD i false))]:=by
 simp only [List.getD_eq_getElem?_getD,List.getElem?_map]
 cases l[i]? <;>rfl
attribute [go_sem] getD_rB sB
theorem lB (l:List Bool) (k:Nat) (v:Bool):(l.map rB).set k [.sc (.bool v)]=(l.set k v).map rB:=by
 rw [List.map_set];rfl
theorem tU {α:Type} {n k:Nat} {f:Nat→α} {v:α} :((List.range n).map f).set k v=(List.range n).map fun y=>if y=k then v else f y:=by
 refine List.ext_getElem? fun i=> ?_
 rw [List.getElem?_set,List.length_map,List.length_range]
 by_cases hi:i<n
 ·rw [List.getElem?_map,List.getElem?_map,List.getElem?_range hi]
  by_cases h:k=i
  ·subst h;simp [hi]
  ·have:¬i=k:=fun e=>h e.symm
   simp [h,this]
 ·rw [List.getElem?_eq_none (by simp;omega),List.getElem?_eq_none (by simp;omega)]
  split
  ·rw [if_neg (by omega)]
  ·rfl
def lC (n k:Nat):List Bool:=(List.range n).map fun y=>decide (y<k)
def ej (g:Gr) (l:List Bool) (j:Nat):List Bool:=(List.range g.n.toNat).map fun y:Nat=>(List.range j).any fun i=>decide (hd g i=(y:Int))&&(l.getD (tl g i).toNat false&&l.getD (hd g i).toNat false)
def eV (g:Gr):Nat→List Bool
 |0=>lC g.n.toNat g.n.toNat
 |k+1=>ej g (eV g k) g.es.length
theorem trueK_length {n k:Nat} :(lC n k).length=n:=by simp [lC]
theorem nextK_length {g:Gr} {l:List Bool} {j:Nat} :(ej g l j).length=g.n.toNat:=by simp [ej]
theorem leftK_length {g:Gr} {k:Nat} :(eV g k).length=g.n.toNat:=by
 cases k
 ·exact trueK_length
 ·exact nextK_length
theorem yT {n:Nat} :List.replicate n [D.sc (.bool false)]=(lC n 0).map rB:=by
 refine List.ext_getElem? fun i=> ?_
 by_cases hi:i<n
 ·simp [lC,hi,rB,List.getElem?_range hi]
 ·rw [List.getElem?_eq_none (by simp;omega),List.getElem?_eq_none (by simp [lC];omega)]
theorem kr {n k:Nat} :(lC n k).set k true=lC n (k+1):=by
 unfold lC;rw [tU]
 refine List.map_congr_left fun y _=> ?_
 split
 ·rename_i h;subst h;simp
 ·rename_i h
  rw [Bool.eq_iff_iff];simp;omega
theorem yU {g:Gr} {l:List Bool} :List.replicate g.n.toNat [D.sc (.bool false)]=(ej g l 0).map rB:=by
 refine List.ext_getElem? fun i=> ?_
 by_cases hi:i<g.n.toNat
 ·simp [ej,hi,rB,List.getElem?_range hi]
 ·rw [List.getElem?_eq_none (by simp;omega),List.getElem?_eq_none (by simp [ej];omega)]
theorem Bi {g:Gr} {l:List Bool} {j:Nat} (h0:0≤hd g j) (h:(l.getD (tl g j).toNat false&&l.getD (hd g j).toNat false)=true):(ej g l j).set (hd g j).toNat true=ej g l (j+1):=by
 unfold ej;rw [tU]
 refine List.map_congr_left fun y _=> ?_
 rw [List.range_succ,List.any_append]
 simp only [List.any_cons,List.any_nil,h,Bool.and_true,Bool.or_false]
 split
 ·rename_i e
  have:hd g j=(y:Int):=by omega
  simp [this]
 ·rename_i e
  have:¬hd g j=(y:Int):=by omega
  simp [this]
theorem Dq {g:Gr} {l:List Bool} {j:Nat} (h:(l.getD (tl g j).toNat false&&l.getD (hd g j).toNat false)=false):ej g l j=ej g l (j+1):=by
 unfold ej
 refine List.map_congr_left fun y _=> ?_
 rw [List.range_succ,List.any_append]
 simp only [List.any_cons,List.any_nil,h,Bool.and_false,Bool.or_false]
attribute [go_sem] trueK_length nextK_length leftK_length
theorem cO (g:Gr) (hm:aP g=true):Spec Tryz.prog 195 (Args [eG g]) [] (.d (sB (eV g g.n.toNat))) []:=by
 have hn:=aU hm
 (refine Spec.hd (C:=T.cfg [] []) (rs:= [.t 2]) (T.ai _ _) Tryz.func195 rfl rfl Tryz.ntmps195 Tryz.results195 (by simp [AObj.isNest]) (by simp [AObj.isNest]) (by kernel_rfl) T.mixed fun X hX hP hC aK cw=> ?_)
 repeat' (first|(show cl _ (.seq (.region 6 _ _) _) _ _;(refine dJ hX 11 rfl (.inl rfl) ?_;simp only [go_sem,simprocAttr]))|(show cl _ (.region 8 _ _) _ _;(refine dJ hX 29 rfl (.inl rfl) ?_;simp only [go_sem,simprocAttr]))|refine Rn.p ?_|(with_reducible apply And.intro)|((first|(refine hK _ ?_;clear hK K)|with_reducible intro K hK|refine Rs.p ?_|((with_reducible first|apply oP|apply oQ);exact rfl));try simp only [go_sem,simprocAttr])|((with_reducible refine oD ?_ ?_);kernel_rfl)|((with_reducible intro h);try simp only [go_sem,simprocAttr] at h)|omega|intro h)
 refine ag (fun k:Nat=>k≤g.n.toNat) (fun k=>⟨[(1, .ptr 1 0),(4,eN k),(3, .ref 11)], [(1, .box [eN g.n, .d (sE g.es)]),(11, .own 4 1 ((lC g.n.toNat k).map rB))]⟩) (fun k=>g.n.toNat - k) 0 (by simp) ?_ ?_
 ·refine Le.of ?_ ?_<;>simp [go_sem,simprocAttr]
  exact yT
 rintro k hk
 rcases Nat.lt_or_ge k g.n.toNat with hlt|hge
 ·have hb:decide ((k:Int)<g.n)=true:=decide_eq_true (by omega)
  repeat' (first|(show cl _ (.seq (.region 6 _ _) _) _ _;(refine dJ hX 11 rfl (.inl rfl) ?_;simp only [go_sem,simprocAttr,hb,lB,kr]))|(show cl _ (.region 8 _ _) _ _;(refine dJ hX 29 rfl (.inl rfl) ?_;simp only [go_sem,simprocAttr,hb,lB,kr]))|refine Rn.p ?_|(with_reducible apply And.intro)|((first|(refine hK _ ?_;clear hK K)|with_reducible intro K hK|refine Rs.p ?_|((with_reducible first|apply oP|apply oQ);exact rfl));try simp only [go_sem,simprocAttr,hb,lB,kr])|((with_reducible refine oD ?_ ?_);kernel_rfl)|((with_reducible intro h);try simp only [go_sem,simprocAttr,hb,lB,kr] at h)|omega|intro h)
  refine ⟨k+1,by omega, ?_,by omega⟩
  (refine Le.of ?_ ?_<;>simp [go_sem,simprocAttr])
 ·have hb:decide ((k:Int)<g.n)=false:=decide_eq_false (by omega)
  obtain rfl:k=g.n.toNat:=by omega
  repeat' (first|(show cl _ (.seq (.region 6 _ _) _) _ _;(refine dJ hX 11 rfl (.inl rfl) ?_;simp only [go_sem,simprocAttr,hb]))|(show cl _ (.region 8 _ _) _ _;(refine dJ hX 29 rfl (.inl rfl) ?_;simp only [go_sem,simprocAttr,hb]))|refine Rn.p ?_|(with_reducible apply And.intro)|((first|(refine hK _ ?_;clear hK K)|with_reducible intro K hK|refine Rs.p ?_|((with_reducible first|apply oP|apply oQ);exact rfl));try simp only [go_sem,simprocAttr,hb])|((with_reducible refine oD ?_ ?_);kernel_rfl)|((with_reducible intro h);try simp only [go_sem,simprocAttr,hb] at h)|omega|intro h)
  clear hb hk hge
  refine ag (fun k:Nat=>k≤g.n.toNat) (fun k=>⟨[(1, .ptr 1 0),(5,eN k),(3, .d (sB (eV g k)))], [(1, .box [eN g.n, .d (sE g.es)])]⟩) (fun k=>g.n.toNat - k) 0 (by simp) ?_ ?_
  ·refine Le.of ?_ ?_<;>simp [go_sem,simprocAttr,eV]
  rintro k hk
  rcases Nat.lt_or_ge k g.n.toNat with hlt|hge
  ·have hb:decide ((k:Int)<g.n)=true:=decide_eq_true (by omega)
   repeat' (first|(show cl _ (.seq (.region 6 _ _) _) _ _;(refine dJ hX 11 rfl (.inl rfl) ?_;simp only [go_sem,simprocAttr,hb]))|(show cl _ (.region 8 _ _) _ _;(refine dJ hX 29 rfl (.inl rfl) ?_;simp only [go_sem,simprocAttr,hb]))|refine Rn.p ?_|(with_reducible apply And.intro)|((first|(refine hK _ ?_;clear hK K)|with_reducible intro K hK|refine Rs.p ?_|((with_reducible first|apply oP|apply oQ);exact rfl));try simp only [go_sem,simprocAttr,hb])|((with_reducible refine oD ?_ ?_);kernel_rfl)|((with_reducible intro h);try simp only [go_sem,simprocAttr,hb] at h)|omega|intro h)
   refine ag (fun j:Nat=>j≤g.es.length) (fun j=>⟨[(1, .ptr 1 0),(5,eN k),(3, .d (sB (eV g k))),(7,eN j),(6, .ref 29)], [(1, .box [eN g.n, .d (sE g.es)]),(29, .own 4 1 ((ej g (eV g k) j).map rB))]⟩) (fun j=>g.es.length - j) 0 (by simp) ?_ ?_
   ·refine Le.of ?_ ?_<;>simp [go_sem,simprocAttr]
    exact yU
   rintro j hj
   rcases Nat.lt_or_ge j g.es.length with hjl|IK
   ·have an:decide ((j:Int)<(g.es.length:Int))=true:=decide_eq_true (by omega)
    obtain ⟨⟨FH,qd⟩,⟨we,uR⟩⟩:=eA hm hjl
    repeat' (first|(show cl _ (.seq (.region 6 _ _) _) _ _;(refine dJ hX 11 rfl (.inl rfl) ?_;simp only [go_sem,simprocAttr,an,lB]))|(show cl _ (.region 8 _ _) _ _;(refine dJ hX 29 rfl (.inl rfl) ?_;simp only [go_sem,simprocAttr,an,lB]))|refine Rn.p ?_|(with_reducible apply And.intro)|((first|(refine hK _ ?_;clear hK K)|with_reducible intro K hK|refine Rs.p ?_|((with_reducible first|apply oP|apply oQ);exact rfl));try simp only [go_sem,simprocAttr,an,lB])|((with_reducible refine oD ?_ ?_);kernel_rfl)|((with_reducible intro h);try simp only [go_sem,simprocAttr,an,lB] at h)|omega|intro h)
    ·have hy:(ej g (eV g k) j).set (g.es.getD j (0,0)).2.toNat true=ej g (eV g k) (j+1):=Bi we (by rw [Bool.and_eq_true];exact ⟨by assumption,by assumption⟩)
     refine ⟨j+1,by omega, ?_,by omega⟩
     refine Le.of ?_ ?_<;>simp [go_sem,simprocAttr]
     rw [← hy,List.map_set];rfl
    all_goals (
     have hy:ej g (eV g k) j=ej g (eV g k) (j+1):=Dq (Bool.and_eq_false_iff.2 (by first|exact .inl (by assumption)|exact .inr (by assumption)))
     refine ⟨j+1,by omega, ?_,by omega⟩
     refine Le.of ?_ ?_<;>simp [go_sem,simprocAttr, ← hy])
   ·have an:decide ((j:Int)<(g.es.length:Int))=false:=decide_eq_false (by omega)
    obtain rfl:j=g.es.length:=by omega
    repeat' (first|(show cl _ (.seq (.region 6 _ _) _) _ _;(refine dJ hX 11 rfl (.inl rfl) ?_;simp only [go_sem,simprocAttr,an]))|(show cl _ (.region 8 _ _) _ _;(refine dJ hX 29 rfl (.inl rfl) ?_;simp only [go_sem,simprocAttr,an]))|refine Rn.p ?_|(with_reducible apply And.intro)|((first|(refine hK _ ?_;clear hK K)|with_reducible intro K hK|refine Rs.p ?_|((with_reducible first|apply oP|apply oQ);exact rfl));try simp only [go_sem,simprocAttr,an])|((with_reducible refine oD ?_ ?_);kernel_rfl)|((with_reducible intro h);try simp only [go_sem,simprocAttr,an] at h)|omega|intro h)
    refine ⟨k+1,by omega, ?_,by omega⟩
    refine Le.of ?_ ?_<;>simp [go_sem,simprocAttr,eV]
  ·have hb:decide ((k:Int)<g.n)=false:=decide_eq_false (by omega)
   obtain rfl:k=g.n.toNat:=by omega
   repeat' (first|(show cl _ (.seq (.region 6 _ _) _) _ _;(refine dJ hX 11 rfl (.inl rfl) ?_;simp only [go_sem,simprocAttr,hb]))|(show cl _ (.region 8 _ _) _ _;(refine dJ hX 29 rfl (.inl rfl) ?_;simp only [go_sem,simprocAttr,hb]))|refine Rn.p ?_|(with_reducible apply And.intro)|((first|(refine hK _ ?_;clear hK K)|with_reducible intro K hK|refine Rs.p ?_|((with_reducible first|apply oP|apply oQ);exact rfl));try simp only [go_sem,simprocAttr,hb])|((with_reducible refine oD ?_ ?_);kernel_rfl)|((with_reducible intro h);try simp only [go_sem,simprocAttr,hb] at h)|omega|intro h)
end Go.Ab
end
section
namespace Go.Ab
open Go.Proofs
attribute [local congr] ACall.congr gd.congr Nx.congr
set_option maxRecDepth 10000
def vb (g:Gr):List Bool:=eV g g.n.toNat
theorem r6 {g:Gr} :eV g g.n.toNat=vb g:=rfl
def EW (g:Gr):Int:=if bV (fun b:Bool=>b) (vb g)<0 then g.n else bV (fun b:Bool=>b) (vb g)
def ve (g:Gr) (x:Int) (b:Int) (i:Nat):Int:=if hd g i=x∧(vb g).getD (tl g i).toNat false=true then min b (tl g i) else b
def dR (g:Gr) (x:Int) (k:Nat):Int:=(List.range k).foldl (ve g x) g.n
def ni (g:Gr):Nat→List Int→Int→List Int × Int
 |0,way,x=>(way,x)
 |f+1,way,x=>if x∈way then (way,x) else ni g f (way++ [x]) (dR g x g.es.length)
def gx (g:Gr):Gr:=⟨g.n+1,g.es⟩
def oy (g:Gr):List Int × Int:=ni g (g.n.toNat+1) [] (EW g)
def qw (l:List Int) (m k:Nat):List Int:=(List.range k).map fun i=>l.getD ((m+l.length - i) % l.length) 0
def tV (l:List Int):List Int:=qw l (dA l (gL l)).toNat l.length
def lD (g:Gr):List Int:=if EW g=g.n then [] else tV ((oy g).1.drop (dA (oy g).1 (oy g).2).toNat)
theorem nj {g:Gr} {x:Int} {k:Nat} :dR g x (k+1)=ve g x (dR g x k) k:=by
 simp [dR,List.range_succ]
theorem qj {g:Gr} (hm:aP g=true) {x:Int} :∀ {k:Nat},k≤g.es.length→0≤dR g x k∧dR g x k≤g.n
 |0,_=>by have:=aU hm;simp [dR];omega
 |k+1,h=>by
  have ih:=qj hm (x:=x) (k:=k) (by omega)
  obtain ⟨⟨h1,h2⟩,_⟩:=eA hm (k:=k) (by omega)
  rw [nj];unfold ve tl
  split<;>omega
theorem Bj {l:List Int} {m k:Nat} :qw l m (k+1)=qw l m k++ [l.getD ((m+l.length - k) % l.length) 0]:=by
 simp [qw,List.range_succ]
theorem xA {g:Gr} {way:List Int} {a:Int} (h:a∈way):∀f,ni g f way a=(way,a)
 |0=>rfl
 |f+1=>by simp only [ni];rw [if_pos h]
theorem vf:∀ {l:List Int} {x:Int},x∈l→gL l≤x
 |a::r,x,h=>by
  have:∀(r:List Int) (a:Int),r.foldl min a≤a∧∀x∈r,r.foldl min a≤x:=by
   intro r
   induction r with
   |nil=>intro a;exact ⟨Int.le_refl _,by simp⟩
   |cons b r ih=>
    intro a
    obtain ⟨h1,h2⟩:=ih (min a b)
    simp only [List.foldl_cons]
    refine ⟨by omega,fun x hx=> ?_⟩
    rcases List.mem_cons.1 hx with rfl|hx
    ·omega
    ·exact h2 x hx
  obtain ⟨h1,h2⟩:=this r a
  rcases List.mem_cons.1 h with rfl|h
  ·exact h1
  ·exact h2 x h
theorem gj {l:List Int} {m:Nat} (h:m<l.length):l.getD m 0∈l:=by
 rw [List.getD_eq_getElem?_getD,List.getElem?_eq_getElem h];exact List.getElem_mem h
theorem Dr {l:List Int} {m:Nat} (hm:m<l.length) (h1:∀j,j<l.length→l.getD m 0≤l.getD j 0) (h2:∀j,j<m→l.getD m 0<l.getD j 0):dA l (gL l)=m:=by
 have hmin:gL l=l.getD m 0:=by
  have g1:=vf (gj hm)
  obtain ⟨j,hj,e⟩:=List.getElem_of_mem (iq (l:=l) (by omega))
  have g2:=h1 j hj
  rw [List.getD_eq_getElem?_getD (l:=l) (i:=j),List.getElem?_eq_getElem hj,Option.getD_some,e] at g2
  omega
 refine dK (d:=0) hm (fun j hj=> ?_) ?_
 ·have:=h2 j hj
  rw [hmin];simp only [decide_eq_false_iff_not];omega
 ·rw [hmin];simp
theorem dF (g:Gr) (hm:aP g=true):Spec Tryz.prog 156 (Args [eG g]) [] (.d (sI (lD g))) []:=by
 have hn:=aU hm
 have hlf:(vb g).length=g.n.toNat:=leftK_length
 (refine Spec.hd (C:=T.cfg [] []) (rs:= [.t 2]) (T.ai _ _) Tryz.func156 rfl rfl Tryz.ntmps156 Tryz.results156 (by simp [AObj.isNest]) (by simp [AObj.isNest]) (by kernel_rfl) T.mixed fun X hX hP hC aK cw=> ?_)
 repeat' (first|refine Rn.p ?_|(with_reducible apply And.intro)|((first|(refine hK _ ?_;clear hK K)|with_reducible intro K hK|refine Rs.p ?_|((with_reducible first|apply oP|apply oQ);exact rfl)|refine aa hX hC hP (cO g hm) rfl rfl rfl (by simp only [go_sem,simprocAttr,r6]) rfl ?_|(refine ah hX hC hP (bg way x bW) rfl rfl rfl ?_ ?_ ?_ ?_;iterate 3 (focus (simp only [go_sem,simprocAttr,r6];done)))|(refine ah hX hC hP (bg way (a:Int) bW) rfl rfl rfl ?_ ?_ ?_ ?_;iterate 3 (focus (simp only [go_sem,simprocAttr,r6];done))));try simp only [go_sem,simprocAttr,r6])|((with_reducible refine oD ?_ ?_);kernel_rfl)|((with_reducible intro h);try simp only [go_sem,simprocAttr,r6] at h)|omega|intro h)
 refine ag (fun k:Nat=>k≤g.n.toNat∧∀j,j<k→(vb g).getD j false=false) (fun k=>⟨[(1, .ptr 1 0),(4,eN k),(3, .d (sB (vb g)))], [(1, .box [eN g.n, .d (sE g.es)])]⟩) (fun k=>g.n.toNat - k) 0 (by simp) ?_ ?_
 ·refine Le.of ?_ ?_<;>simp [go_sem,simprocAttr,vb]
 rintro k ⟨hk,hno⟩
 rcases Nat.lt_or_ge k g.n.toNat with hlt|hge
 ·have hb:decide ((k:Int)<g.n)=true:=decide_eq_true (by omega)
  cases hkb:(vb g).getD k false with
  |false=>
   repeat' (first|refine Rn.p ?_|(with_reducible apply And.intro)|((first|(refine hK _ ?_;clear hK K)|with_reducible intro K hK|refine Rs.p ?_|((with_reducible first|apply oP|apply oQ);exact rfl)|refine aa hX hC hP (cO g hm) rfl rfl rfl (by simp only [go_sem,simprocAttr,hb,hkb,hlf]) rfl ?_|(refine ah hX hC hP (bg way x bW) rfl rfl rfl ?_ ?_ ?_ ?_;iterate 3 (focus (simp only [go_sem,simprocAttr,hb,hkb,hlf];done)))|(refine ah hX hC hP (bg way (a:Int) bW) rfl rfl rfl ?_ ?_ ?_ ?_;iterate 3 (focus (simp only [go_sem,simprocAttr,hb,hkb,hlf];done))));try simp only [go_sem,simprocAttr,hb,hkb,hlf])|((with_reducible refine oD ?_ ?_);kernel_rfl)|((with_reducible intro h);try simp only [go_sem,simprocAttr,hb,hkb,hlf] at h)|omega|intro h)
   refine ⟨k+1,⟨by omega,fun j hj=> ?_⟩, ?_,by omega⟩
   ·by_cases hjk:j=k
    ·subst hjk;exact hkb
    ·exact hno j (by omega)
   ·(refine Le.of ?_ ?_<;>simp [go_sem,simprocAttr,hb,hkb,hlf])
  |true=>
   have hst:EW g=k:=by
    have:bV (fun b:Bool=>b) (vb g)=k:=dK (d:=false) (by omega) hno hkb
    unfold EW;rw [this,if_neg (by omega)]
   have hne:decide ((k:Int)=g.n)=false:=decide_eq_false (by omega)
   repeat' (first|refine Rn.p ?_|(with_reducible apply And.intro)|((first|(refine hK _ ?_;clear hK K)|with_reducible intro K hK|refine Rs.p ?_|((with_reducible first|apply oP|apply oQ);exact rfl)|refine aa hX hC hP (cO g hm) rfl rfl rfl (by simp only [go_sem,simprocAttr,hb,hkb,hlf,hne]) rfl ?_|(refine ah hX hC hP (bg way x bW) rfl rfl rfl ?_ ?_ ?_ ?_;iterate 3 (focus (simp only [go_sem,simprocAttr,hb,hkb,hlf,hne];done)))|(refine ah hX hC hP (bg way (a:Int) bW) rfl rfl rfl ?_ ?_ ?_ ?_;iterate 3 (focus (simp only [go_sem,simprocAttr,hb,hkb,hlf,hne];done))));try simp only [go_sem,simprocAttr,hb,hkb,hlf,hne])|((with_reducible refine oD ?_ ?_);kernel_rfl)|((with_reducible intro h);try simp only [go_sem,simprocAttr,hb,hkb,hlf,hne] at h)|omega|intro h)
   clear hno hb hne hkb
   (refine jd hX 5 31 39 (by simp only [go_sem,simprocAttr]) rfl (by first|exact .inl rfl|exact .inr rfl) (by decide) ?_;simp only [go_sem,simprocAttr])
   refine ag (fun i:List Int × Int=>Way (gx g) i.1∧(0≤i.2∧i.2≤g.n)∧ni g (left (gx g) i.1) i.1 i.2=oy g) (fun i=>⟨[(1, .ptr 1 0),(4,eN i.2),(3, .d (sB (vb g))),(5, .ref 39)], [(1, .box [eN g.n, .d (sE g.es)]),(39, .tip 3 1 (i.1.map rI))]⟩) (fun i=>left (gx g) i.1) ([],(k:Int)) ⟨Way.nil _,by simp only;omega, ?_⟩ ?_ ?_
   ·simp only [ox,oy,gx,hst]
    rw [show (g.n+1).toNat=g.n.toNat+1 from by omega]
   ·refine Le.of ?_ ?_<;>simp [go_sem,simprocAttr]
   rintro ⟨way,x⟩ ⟨xz,hx,hrun⟩
   simp only at xz hx hrun ⊢
   have La:way.length≤65:=by have:=xz.fuel;simp only [gx] at this;omega
   have bW:way.length≤9223372036854775807:=by omega
   by_cases hmem:x∈way
   ·have hend:=xA (g:=g) hmem (left (gx g) way)
    rw [hrun] at hend
    obtain ⟨m,o8,hm2,_⟩:=dy hmem
    have hneg:decide ((m:Int)<0)=false:=decide_eq_false (by omega)
    obtain ⟨l,GM⟩:∃l,l=way.drop m:=⟨_,rfl⟩
    have lZ:l.length=way.length - m:=by rw [GM];simp
    have HO:lD g=tV l:=by
     simp only [lD,hend,o8,Int.toNat_natCast, ← GM]
     rw [if_neg (by omega)]
    repeat' (first|refine Rn.p ?_|(with_reducible apply And.intro)|((first|(refine hK _ ?_;clear hK K)|with_reducible intro K hK|refine Rs.p ?_|((with_reducible first|apply oP|apply oQ);exact rfl)|refine aa hX hC hP (cO g hm) rfl rfl rfl (by simp only [go_sem,simprocAttr,o8,hneg, ← List.map_take, ← List.map_drop,List.take_length, ← GM]) rfl ?_|(refine ah hX hC hP (bg way x bW) rfl rfl rfl ?_ ?_ ?_ ?_;iterate 3 (focus (simp only [go_sem,simprocAttr,o8,hneg, ← List.map_take, ← List.map_drop,List.take_length, ← GM];done)))|(refine ah hX hC hP (bg way (a:Int) bW) rfl rfl rfl ?_ ?_ ?_ ?_;iterate 3 (focus (simp only [go_sem,simprocAttr,o8,hneg, ← List.map_take, ← List.map_drop,List.take_length, ← GM];done))));try simp only [go_sem,simprocAttr,o8,hneg, ← List.map_take, ← List.map_drop,List.take_length, ← GM])|((with_reducible refine oD ?_ ?_);kernel_rfl)|((with_reducible intro h);try simp only [go_sem,simprocAttr,o8,hneg, ← List.map_take, ← List.map_drop,List.take_length, ← GM] at h)|omega|intro h)
    clear hrun xz hend o8 hneg GM
    have hl0:0<l.length:=by omega
    have hlm:l.length≤65:=by omega
    refine ag (fun i:Nat × Nat=>i.1≤l.length∧i.2<l.length∧(∀j,j<i.1→l.getD i.2 0≤l.getD j 0)∧(∀j,j<i.2→l.getD i.2 0<l.getD j 0)) (fun i=>⟨[(9,eN i.1),(8,eN i.2),(5, .d (sI l))], []⟩) (fun i=>l.length - i.1) (0,0) ⟨by simp,hl0,by simp,by simp⟩ ?_ ?_
    ·refine Le.of ?_ ?_<;>simp [go_sem,simprocAttr]
    rintro ⟨i,q⟩ ⟨hi,hq,hq1,xd⟩
    simp only at hi hq hq1 xd ⊢
    rcases Nat.lt_or_ge i l.length with hil|Kh
    ·have hb:decide ((i:Int)<(l.length:Int))=true:=decide_eq_true (by omega)
     repeat' (first|refine Rn.p ?_|(with_reducible apply And.intro)|((first|(refine hK _ ?_;clear hK K)|with_reducible intro K hK|refine Rs.p ?_|((with_reducible first|apply oP|apply oQ);exact rfl)|refine aa hX hC hP (cO g hm) rfl rfl rfl (by simp only [go_sem,simprocAttr,hb]) rfl ?_|(refine ah hX hC hP (bg way x bW) rfl rfl rfl ?_ ?_ ?_ ?_;iterate 3 (focus (simp only [go_sem,simprocAttr,hb];done)))|(refine ah hX hC hP (bg way (a:Int) bW) rfl rfl rfl ?_ ?_ ?_ ?_;iterate 3 (focus (simp only [go_sem,simprocAttr,hb];done))));try simp only [go_sem,simprocAttr,hb])|((with_reducible refine oD ?_ ?_);kernel_rfl)|((with_reducible intro h);try simp only [go_sem,simprocAttr,hb] at h)|omega|intro h)
     ·refine ⟨(i+1,i),⟨by simp only;omega,hil,fun j hj=> ?_,fun j hj=> ?_⟩, ?_,by simp only;omega⟩
      ·simp only at hj ⊢
       by_cases hji:j=i
       ·subst hji;exact Int.le_refl _
       ·have:=hq1 j (by omega);omega
      ·simp only at hj ⊢
       have:=hq1 j hj;omega
      ·refine Le.of ?_ ?_<;>simp [go_sem,simprocAttr]
     ·refine ⟨(i+1,q),⟨by simp only;omega,hq,fun j hj=> ?_,xd⟩, ?_,by simp only;omega⟩
      ·simp only at hj ⊢
       by_cases hji:j=i
       ·subst hji;omega
       ·exact hq1 j (by omega)
      ·refine Le.of ?_ ?_<;>simp [go_sem,simprocAttr]
    ·have hb:decide ((i:Int)<(l.length:Int))=false:=decide_eq_false (by omega)
     obtain rfl:i=l.length:=by omega
     have hidx:=Dr hq hq1 xd
     repeat' (first|refine Rn.p ?_|(with_reducible apply And.intro)|((first|(refine hK _ ?_;clear hK K)|with_reducible intro K hK|refine Rs.p ?_|((with_reducible first|apply oP|apply oQ);exact rfl)|refine aa hX hC hP (cO g hm) rfl rfl rfl (by simp only [go_sem,simprocAttr,hb]) rfl ?_|(refine ah hX hC hP (bg way x bW) rfl rfl rfl ?_ ?_ ?_ ?_;iterate 3 (focus (simp only [go_sem,simprocAttr,hb];done)))|(refine ah hX hC hP (bg way (a:Int) bW) rfl rfl rfl ?_ ?_ ?_ ?_;iterate 3 (focus (simp only [go_sem,simprocAttr,hb];done))));try simp only [go_sem,simprocAttr,hb])|((with_reducible refine oD ?_ ?_);kernel_rfl)|((with_reducible intro h);try simp only [go_sem,simprocAttr,hb] at h)|omega|intro h)
     clear hi hb Kh
     (refine jd hX 10 98 119 (by simp only [go_sem,simprocAttr]) rfl (by first|exact .inl rfl|exact .inr rfl) (by decide) ?_;simp only [go_sem,simprocAttr])
     refine ag (fun i:Nat=>i≤l.length) (fun i=>⟨[(5, .d (sI l)),(8,eN q),(11,eN i),(10, .ref 119)], [(119, .tip 3 1 ((qw l q i).map rI))]⟩) (fun i=>l.length - i) 0 (by simp) ?_ ?_
     ·refine Le.of ?_ ?_<;>simp [go_sem,simprocAttr,qw]
     rintro i hi
     have hrl:(qw l q i).length=i:=by simp [qw]
     rcases Nat.lt_or_ge i l.length with hil|Kh
     ·have hb:decide ((i:Int)<(l.length:Int))=true:=decide_eq_true (by omega)
      have IL:((q:Int)+(l.length:Int) - (i:Int)).tmod (l.length:Int)=(((q+l.length - i) % l.length:Nat):Int):=by
       rw [show (q:Int)+(l.length:Int) - (i:Int)=((q+l.length - i:Nat):Int) from by omega]
       rw [Int.tmod_eq_emod_of_nonneg (by omega)];rfl
      have hmod:(q+l.length - i) % l.length<l.length:=Nat.mod_lt _ hl0
      repeat' (first|refine Rn.p ?_|(with_reducible apply And.intro)|((first|(refine hK _ ?_;clear hK K)|with_reducible intro K hK|refine Rs.p ?_|((with_reducible first|apply oP|apply oQ);exact rfl)|refine aa hX hC hP (cO g hm) rfl rfl rfl (by simp only [go_sem,simprocAttr,hb,IL]) rfl ?_|(refine ah hX hC hP (bg way x bW) rfl rfl rfl ?_ ?_ ?_ ?_;iterate 3 (focus (simp only [go_sem,simprocAttr,hb,IL];done)))|(refine ah hX hC hP (bg way (a:Int) bW) rfl rfl rfl ?_ ?_ ?_ ?_;iterate 3 (focus (simp only [go_sem,simprocAttr,hb,IL];done))));try simp only [go_sem,simprocAttr,hb,IL])|((with_reducible refine oD ?_ ?_);kernel_rfl)|((with_reducible intro h);try simp only [go_sem,simprocAttr,hb,IL] at h)|omega|intro h)
      refine ⟨i+1,by omega, ?_,by omega⟩
      rw [Bj]
      refine Le.of ?_ ?_<;>simp [go_sem,simprocAttr,rI]
     ·have hb:decide ((i:Int)<(l.length:Int))=false:=decide_eq_false (by omega)
      obtain rfl:i=l.length:=by omega
      repeat' (first|refine Rn.p ?_|(with_reducible apply And.intro)|((first|(refine hK _ ?_;clear hK K)|with_reducible intro K hK|refine Rs.p ?_|((with_reducible first|apply oP|apply oQ);exact rfl)|refine aa hX hC hP (cO g hm) rfl rfl rfl (by simp only [go_sem,simprocAttr,hb]) rfl ?_|(refine ah hX hC hP (bg way x bW) rfl rfl rfl ?_ ?_ ?_ ?_;iterate 3 (focus (simp only [go_sem,simprocAttr,hb];done)))|(refine ah hX hC hP (bg way (a:Int) bW) rfl rfl rfl ?_ ?_ ?_ ?_;iterate 3 (focus (simp only [go_sem,simprocAttr,hb];done))));try simp only [go_sem,simprocAttr,hb])|((with_reducible refine oD ?_ ?_);kernel_rfl)|((with_reducible intro h);try simp only [go_sem,simprocAttr,hb] at h)|omega|intro h)
      rw [HO,tV,hidx];rfl
   ·have hi:dA way x= -1:=by
     rcases eC (f:=fun y:Int=>decide (x=y)) (l:=way) 0 with ⟨h1,_⟩|⟨q,_,h2,h3,_⟩
     ·exact h1
     ·exact absurd (by rw [of_decide_eq_true h3,List.getD_eq_getElem?_getD,List.getElem?_eq_getElem h2];exact List.getElem_mem h2) hmem
    obtain ⟨a,rfl⟩:∃a:Nat,x=a:=⟨x.toNat,by omega⟩
    have GL:a<(gx g).n.toNat:=by simp only [gx];omega
    repeat' (first|refine Rn.p ?_|(with_reducible apply And.intro)|((first|(refine hK _ ?_;clear hK K)|with_reducible intro K hK|refine Rs.p ?_|((with_reducible first|apply oP|apply oQ);exact rfl)|refine aa hX hC hP (cO g hm) rfl rfl rfl (by simp only [go_sem,simprocAttr,hi]) rfl ?_|(refine ah hX hC hP (bg way x bW) rfl rfl rfl ?_ ?_ ?_ ?_;iterate 3 (focus (simp only [go_sem,simprocAttr,hi];done)))|(refine ah hX hC hP (bg way (a:Int) bW) rfl rfl rfl ?_ ?_ ?_ ?_;iterate 3 (focus (simp only [go_sem,simprocAttr,hi];done))));try simp only [go_sem,simprocAttr,hi])|((with_reducible refine oD ?_ ?_);kernel_rfl)|((with_reducible intro h);try simp only [go_sem,simprocAttr,hi] at h)|omega|intro h)
    refine ag (fun j:Nat=>j≤g.es.length) (fun j=>⟨[(1, .ptr 1 0),(4,eN a),(3, .d (sB (vb g))),(5, .ref 39),(6,eN (dR g a j)),(7,eN j)], [(1, .box [eN g.n, .d (sE g.es)]),(39, .tip 3 1 ((way++ [(a:Int)]).map rI))]⟩) (fun j=>g.es.length - j) 0 (by simp) ?_ ?_
    ·refine Le.of ?_ ?_<;>simp [go_sem,simprocAttr,rI,dR]
    rintro j hj
    rcases Nat.lt_or_ge j g.es.length with hjl|IK
    ·have an:decide ((j:Int)<(g.es.length:Int))=true:=decide_eq_true (by omega)
     obtain ⟨⟨FH,qd⟩,_⟩:=eA hm hjl
     have dV:dR g a (j+1)=if (g.es.getD j (0,0)).2=(a:Int)∧(vb g).getD (g.es.getD j (0,0)).1.toNat false=true then min (dR g a j) (g.es.getD j (0,0)).1 else dR g a j:=nj
     repeat' (first|refine Rn.p ?_|(with_reducible apply And.intro)|((first|(refine hK _ ?_;clear hK K)|with_reducible intro K hK|refine Rs.p ?_|((with_reducible first|apply oP|apply oQ);exact rfl)|refine aa hX hC hP (cO g hm) rfl rfl rfl (by simp only [go_sem,simprocAttr,an,hlf]) rfl ?_|(refine ah hX hC hP (bg way x bW) rfl rfl rfl ?_ ?_ ?_ ?_;iterate 3 (focus (simp only [go_sem,simprocAttr,an,hlf];done)))|(refine ah hX hC hP (bg way (a:Int) bW) rfl rfl rfl ?_ ?_ ?_ ?_;iterate 3 (focus (simp only [go_sem,simprocAttr,an,hlf];done))));try simp only [go_sem,simprocAttr,an,hlf])|((with_reducible refine oD ?_ ?_);kernel_rfl)|((with_reducible intro h);try simp only [go_sem,simprocAttr,an,hlf] at h)|omega|intro h)
     all_goals (first|rw [if_pos ⟨by assumption,by assumption⟩] at dV|rw [if_neg (fun e=>by first|exact absurd e.1 (by assumption)|simp_all)] at dV)
     all_goals (refine ⟨j+1,by omega, ?_,by omega⟩;refine Le.of ?_ ?_<;>simp [go_sem,simprocAttr,dV])
    ·have an:decide ((j:Int)<(g.es.length:Int))=false:=decide_eq_false (by omega)
     obtain rfl:j=g.es.length:=by omega
     repeat' (first|refine Rn.p ?_|(with_reducible apply And.intro)|((first|(refine hK _ ?_;clear hK K)|with_reducible intro K hK|refine Rs.p ?_|((with_reducible first|apply oP|apply oQ);exact rfl)|refine aa hX hC hP (cO g hm) rfl rfl rfl (by simp only [go_sem,simprocAttr,an]) rfl ?_|(refine ah hX hC hP (bg way x bW) rfl rfl rfl ?_ ?_ ?_ ?_;iterate 3 (focus (simp only [go_sem,simprocAttr,an];done)))|(refine ah hX hC hP (bg way (a:Int) bW) rfl rfl rfl ?_ ?_ ?_ ?_;iterate 3 (focus (simp only [go_sem,simprocAttr,an];done))));try simp only [go_sem,simprocAttr,an])|((with_reducible refine oD ?_ ?_);kernel_rfl)|((with_reducible intro h);try simp only [go_sem,simprocAttr,an] at h)|omega|intro h)
     refine ⟨(way++ [(a:Int)],dR g a g.es.length),⟨xz.next GL hmem,qj hm (Nat.le_refl _), ?_⟩, ?_, ?_⟩
     ·simp only
      rw [← hrun,ij GL hmem]
      simp only [ni]
      rw [if_neg hmem]
     ·refine Le.of ?_ ?_<;>simp [go_sem,simprocAttr]
     ·have:=ij GL hmem;simp only;omega
 ·have hb:decide ((k:Int)<g.n)=false:=decide_eq_false (by omega)
  have hst:EW g=g.n:=by
   have:bV (fun b:Bool=>b) (vb g)= -1:=cG false fun j hj=>hno j (by omega)
   unfold EW;rw [this,if_pos (by omega)]
  have hne:decide ((k:Int)=g.n)=true:=decide_eq_true (by omega)
  repeat' (first|refine Rn.p ?_|(with_reducible apply And.intro)|((first|(refine hK _ ?_;clear hK K)|with_reducible intro K hK|refine Rs.p ?_|((with_reducible first|apply oP|apply oQ);exact rfl)|refine aa hX hC hP (cO g hm) rfl rfl rfl (by simp only [go_sem,simprocAttr,hb,hne]) rfl ?_|(refine ah hX hC hP (bg way x bW) rfl rfl rfl ?_ ?_ ?_ ?_;iterate 3 (focus (simp only [go_sem,simprocAttr,hb,hne];done)))|(refine ah hX hC hP (bg way (a:Int) bW) rfl rfl rfl ?_ ?_ ?_ ?_;iterate 3 (focus (simp only [go_sem,simprocAttr,hb,hne];done))));try simp only [go_sem,simprocAttr,hb,hne])|((with_reducible refine oD ?_ ?_);kernel_rfl)|((with_reducible intro h);try simp only [go_sem,simprocAttr,hb,hne] at h)|omega|intro h)
  simp only [lD];rw [if_pos hst];rfl
end Go.Ab
end
section
namespace Go.Ab
open Go.Proofs
attribute [local congr] ACall.congr gd.congr Nx.congr
set_option maxRecDepth 10000
def fE (g:Gr):Int × Int × List Int:=gF g (lD g) (bG (·.2) g)
theorem xC {l:List Edge} {k:Nat} {x:Edge} :x∈l.take k↔∃j,j<k∧j<l.length∧l.getD j (0,0)=x:=by
 rw [List.mem_iff_getElem?]
 constructor
 ·rintro ⟨j,hj⟩
  rw [List.getElem?_take] at hj
  split at hj
  ·exact ⟨j,by assumption,(List.getElem?_eq_some_iff.1 hj).1,by rw [List.getD_eq_getElem?_getD,hj];rfl⟩
  ·cases hj
 ·rintro ⟨j,h1,h2,h3⟩
  refine ⟨j, ?_⟩
  rw [List.getElem?_take,if_pos h1,List.getElem?_eq_getElem h2]
  rw [List.getD_eq_getElem?_getD,List.getElem?_eq_getElem h2] at h3
  exact congrArg some h3
theorem tA (g:Gr) (hl0:g.es.length≤1000):Spec Tryz.prog 107 (Args [eG g]) [] (.tup [eN (fE g).1,eN (fE g).2.1, .d (sI (fE g).2.2)]) []:=by
 have hl:g.es.length≤9223372036854775807:=by omega
 (refine Spec.hd (C:=T.cfg [] []) (rs:= [.t 2, .t 3, .t 4]) (T.ai _ _) Tryz.func107 rfl rfl Tryz.ntmps107 Tryz.results107 (by simp [AObj.isNest]) (by simp [AObj.isNest]) (by kernel_rfl) T.mixed fun X hX hP hC aK cw=> ?_)
 cases hm:aP g with
 |false=>
  repeat' (first|refine Rn.p ?_|(with_reducible apply And.intro)|((first|(refine hK _ ?_;clear hK K)|with_reducible intro K hK|refine Rs.p ?_|((with_reducible first|apply oP|apply oQ);exact rfl)|refine aa hX hC hP (cB g hl) rfl rfl rfl (by simp only [go_sem,simprocAttr,hm]) rfl ?_|refine aa hX hC hP (dF g hm) rfl rfl rfl (by simp only [go_sem,simprocAttr,hm]) rfl ?_|refine aa hX hC hP (cz g true hl0 hn0) rfl rfl rfl (by simp only [go_sem,simprocAttr,hm]) rfl ?_);try simp only [go_sem,simprocAttr,hm])|((with_reducible refine oD ?_ ?_);kernel_rfl)|((with_reducible intro h);try simp only [go_sem,simprocAttr,hm] at h)|omega|intro h)
  all_goals simp [fE,gF,hm]
 |true=>
 have hn:=aU hm
 have hn0:0≤g.n∧g.n≤1000:=by omega
 repeat' (first|refine Rn.p ?_|(with_reducible apply And.intro)|((first|(refine hK _ ?_;clear hK K)|with_reducible intro K hK|refine Rs.p ?_|((with_reducible first|apply oP|apply oQ);exact rfl)|refine aa hX hC hP (cB g hl) rfl rfl rfl (by simp only [go_sem,simprocAttr,hm]) rfl ?_|refine aa hX hC hP (dF g hm) rfl rfl rfl (by simp only [go_sem,simprocAttr,hm]) rfl ?_|refine aa hX hC hP (cz g true hl0 hn0) rfl rfl rfl (by simp only [go_sem,simprocAttr,hm]) rfl ?_);try simp only [go_sem,simprocAttr,hm])|((with_reducible refine oD ?_ ?_);kernel_rfl)|((with_reducible intro h);try simp only [go_sem,simprocAttr,hm] at h)|omega|intro h)
 refine ag (fun k:Nat=>k≤g.es.length∧∀j,j<k→decide ((g.es.getD j (0,0)).1=(g.es.getD j (0,0)).2)=false) (fun k=>⟨[(5,eN k),(1, .ptr 1 0)], [(1, .box [eN g.n, .d (sE g.es)])]⟩) (fun k=>g.es.length - k) 0 (by simp) ?_ ?_
 ·(refine Le.of ?_ ?_<;>simp [go_sem,simprocAttr,hm])
 rintro k ⟨hk,hno⟩
 rcases Nat.lt_or_ge k g.es.length with hlt|hge
 ·have an:decide ((k:Int)<(g.es.length:Int))=true:=decide_eq_true (by omega)
  repeat' (first|refine Rn.p ?_|(with_reducible apply And.intro)|((first|(refine hK _ ?_;clear hK K)|with_reducible intro K hK|refine Rs.p ?_|((with_reducible first|apply oP|apply oQ);exact rfl)|refine aa hX hC hP (cB g hl) rfl rfl rfl (by simp only [go_sem,simprocAttr,hm,an]) rfl ?_|refine aa hX hC hP (dF g hm) rfl rfl rfl (by simp only [go_sem,simprocAttr,hm,an]) rfl ?_|refine aa hX hC hP (cz g true hl0 hn0) rfl rfl rfl (by simp only [go_sem,simprocAttr,hm,an]) rfl ?_);try simp only [go_sem,simprocAttr,hm,an])|((with_reducible refine oD ?_ ?_);kernel_rfl)|((with_reducible intro h);try simp only [go_sem,simprocAttr,hm,an] at h)|omega|intro h)
  any_goals (
   have hlo:jH g=(k:Int):=dK (d:=(0,0)) hlt hno (decide_eq_true h)
   have hc:fE g=(13,jH g, []):=by
    simp only [fE,gF];rw [if_neg (by simp [hm]),if_pos (by omega)]
   rw [hc]<;>first|rfl|exact hlo.symm)
  refine ⟨k+1,⟨by omega,fun j hj=> ?_⟩, ?_,by omega⟩
  ·by_cases hjk:j=k
   ·subst hjk;exact h
   ·simpa using hno j (by omega)
  ·(refine Le.of ?_ ?_<;>simp [go_sem,simprocAttr,hm,an])
 ·have an:decide ((k:Int)<(g.es.length:Int))=false:=decide_eq_false (by omega)
  have hlo:¬0≤jH g:=by
   have:jH g= -1:=cG (0,0) fun j hj=>hno j (by omega)
   omega
  repeat' (first|refine Rn.p ?_|(with_reducible apply And.intro)|((first|(refine hK _ ?_;clear hK K)|with_reducible intro K hK|refine Rs.p ?_|((with_reducible first|apply oP|apply oQ);exact rfl)|refine aa hX hC hP (cB g hl) rfl rfl rfl (by simp only [go_sem,simprocAttr,hm,an]) rfl ?_|refine aa hX hC hP (dF g hm) rfl rfl rfl (by simp only [go_sem,simprocAttr,hm,an]) rfl ?_|refine aa hX hC hP (cz g true hl0 hn0) rfl rfl rfl (by simp only [go_sem,simprocAttr,hm,an]) rfl ?_);try simp only [go_sem,simprocAttr,hm,an])|((with_reducible refine oD ?_ ?_);kernel_rfl)|((with_reducible intro h);try simp only [go_sem,simprocAttr,hm,an] at h)|omega|intro h)
  clear hno an hk hge
  refine ag (fun k:Nat=>k≤g.es.length∧∀j,j<k→nh g j=false) (fun k=>⟨[(6,eN k),(1, .ptr 1 0)], [(1, .box [eN g.n, .d (sE g.es)])]⟩) (fun k=>g.es.length - k) 0 (by simp) ?_ ?_
  ·(refine Le.of ?_ ?_<;>simp [go_sem,simprocAttr])
  rintro k ⟨hk,HP⟩
  rcases Nat.lt_or_ge k g.es.length with hlt|hge
  ·have an:decide ((k:Int)<(g.es.length:Int))=true:=decide_eq_true (by omega)
   repeat' (first|refine Rn.p ?_|(with_reducible apply And.intro)|((first|(refine hK _ ?_;clear hK K)|with_reducible intro K hK|refine Rs.p ?_|((with_reducible first|apply oP|apply oQ);exact rfl)|refine aa hX hC hP (cB g hl) rfl rfl rfl (by simp only [go_sem,simprocAttr,hm,an]) rfl ?_|refine aa hX hC hP (dF g hm) rfl rfl rfl (by simp only [go_sem,simprocAttr,hm,an]) rfl ?_|refine aa hX hC hP (cz g true hl0 hn0) rfl rfl rfl (by simp only [go_sem,simprocAttr,hm,an]) rfl ?_);try simp only [go_sem,simprocAttr,hm,an])|((with_reducible refine oD ?_ ?_);kernel_rfl)|((with_reducible intro h);try simp only [go_sem,simprocAttr,hm,an] at h)|omega|intro h)
   refine ag (fun q:Nat=>q≤k∧∀j,j<q→¬g.es.getD j (0,0)=g.es.getD k (0,0)) (fun q=>⟨[(6,eN k),(7,eN q),(1, .ptr 1 0)], [(1, .box [eN g.n, .d (sE g.es)])]⟩) (fun q=>k - q) 0 (by simp) ?_ ?_
   ·(refine Le.of ?_ ?_<;>simp [go_sem,simprocAttr,hm,an])
   rintro q ⟨hq,hne⟩
   rcases Nat.lt_or_ge q k with Od|Od
   ·have bH:decide ((q:Int)<(k:Int))=true:=decide_eq_true (by omega)
    repeat' (first|refine Rn.p ?_|(with_reducible apply And.intro)|((first|(refine hK _ ?_;clear hK K)|with_reducible intro K hK|refine Rs.p ?_|((with_reducible first|apply oP|apply oQ);exact rfl)|refine aa hX hC hP (cB g hl) rfl rfl rfl (by simp only [go_sem,simprocAttr,bH,rR]) rfl ?_|refine aa hX hC hP (dF g hm) rfl rfl rfl (by simp only [go_sem,simprocAttr,bH,rR]) rfl ?_|refine aa hX hC hP (cz g true hl0 hn0) rfl rfl rfl (by simp only [go_sem,simprocAttr,bH,rR]) rfl ?_);try simp only [go_sem,simprocAttr,bH,rR])|((with_reducible refine oD ?_ ?_);kernel_rfl)|((with_reducible intro h);try simp only [go_sem,simprocAttr,bH,rR] at h)|omega|intro h)
    any_goals (
     have Dp:nh g k=true:=decide_eq_true (xC.2 ⟨q,Od,by omega,h⟩)
     have Na:eD g=(k:Int):=dK (d:=0) (by simpa using hlt) (fun j hj=>by rw [fL (by omega)];exact HP j hj) (by rw [fL hlt];exact Dp)
     have hc:fE g=(14,eD g, []):=by
      simp only [fE,gF];rw [if_neg (by simp [hm]),if_neg hlo,if_pos (by omega)]
     rw [hc]<;>first|rfl|exact Na.symm)
    refine ⟨q+1,⟨by omega,fun j hj=> ?_⟩, ?_,by omega⟩
    ·by_cases hjk:j=q
     ·subst hjk;exact h
     ·exact hne j (by omega)
    ·refine Le.of ?_ ?_<;>simp [go_sem,simprocAttr]
   ·have bH:decide ((q:Int)<(k:Int))=false:=decide_eq_false (by omega)
    repeat' (first|refine Rn.p ?_|(with_reducible apply And.intro)|((first|(refine hK _ ?_;clear hK K)|with_reducible intro K hK|refine Rs.p ?_|((with_reducible first|apply oP|apply oQ);exact rfl)|refine aa hX hC hP (cB g hl) rfl rfl rfl (by simp only [go_sem,simprocAttr,bH]) rfl ?_|refine aa hX hC hP (dF g hm) rfl rfl rfl (by simp only [go_sem,simprocAttr,bH]) rfl ?_|refine aa hX hC hP (cz g true hl0 hn0) rfl rfl rfl (by simp only [go_sem,simprocAttr,bH]) rfl ?_);try simp only [go_sem,simprocAttr,bH])|((with_reducible refine oD ?_ ?_);kernel_rfl)|((with_reducible intro h);try simp only [go_sem,simprocAttr,bH] at h)|omega|intro h)
    refine ⟨k+1,⟨by omega,fun j hj=> ?_⟩, ?_,by omega⟩
    ·by_cases hjk:j=k
     ·subst hjk
      refine decide_eq_false fun h=> ?_
      obtain ⟨i,h1,_,h3⟩:=xC.1 h
      exact hne i (by omega) h3
     ·exact HP j (by omega)
    ·(refine Le.of ?_ ?_<;>simp [go_sem,simprocAttr,bH])
  ·have an:decide ((k:Int)<(g.es.length:Int))=false:=decide_eq_false (by omega)
   have Dp:¬0≤eD g:=by
    have:eD g= -1:=cG 0 fun j hj=>by
     rw [List.length_range] at hj
     rw [fL hj];exact HP j (by omega)
    omega
   repeat' (first|refine Rn.p ?_|(with_reducible apply And.intro)|((first|(refine hK _ ?_;clear hK K)|with_reducible intro K hK|refine Rs.p ?_|((with_reducible first|apply oP|apply oQ);exact rfl)|refine aa hX hC hP (cB g hl) rfl rfl rfl (by simp only [go_sem,simprocAttr,hm,an]) rfl ?_|refine aa hX hC hP (dF g hm) rfl rfl rfl (by simp only [go_sem,simprocAttr,hm,an]) rfl ?_|refine aa hX hC hP (cz g true hl0 hn0) rfl rfl rfl (by simp only [go_sem,simprocAttr,hm,an]) rfl ?_);try simp only [go_sem,simprocAttr,hm,an])|((with_reducible refine oD ?_ ?_);kernel_rfl)|((with_reducible intro h);try simp only [go_sem,simprocAttr,hm,an] at h)|omega|intro h)
   all_goals (
    have hc:fE g=if 0<(lD g).length then (15,0,lD g) else if 1<(bG (kq false) g).length then (16,0,(bG (kq false) g).take 2) else (0,0, []):=by
     show gF g (lD g) (bG (kq false) g)=_
     simp only [gF];rw [if_neg (by simp [hm]),if_neg hlo,if_neg Dp]
    first|rw [if_pos (by omega)] at hc|(rw [if_neg (by omega)] at hc;first|rw [if_pos (by omega)] at hc|rw [if_neg (by omega)] at hc)
    rw [hc]<;>first|rfl|simp only [List.map_take])
end Go.Ab
end
