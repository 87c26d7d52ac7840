/- A part of the proof. -/
import Derived.Test.YtameldglfobjkaaGreatProg
import Derived.Test.YtameldglfobjkaaGreatL5P11
set_option linter.unusedSimpArgs false
set_option linter.unusedVariables false
section
namespace Go.Ab.T
open Go.Proofs
def T:Nat→Option TI
 |2=>some ⟨(.int .i64),1,8, [(.d (.sc (.int .i64 0)))]⟩
 |3=>some ⟨(.int .i64),1,8, [(.d (.sc (.int .i64 0)))]⟩
 |4=>some ⟨.bool,1,1, [(.d (.sc (.bool false)))]⟩
 |5=>some ⟨(.int .u8),1,1, [(.d (.sc (.int .u8 0)))]⟩
 |9=>some ⟨.sc,1,16, [(.d (.sc (.string ⟨#[]⟩)))]⟩
 |12=>some ⟨(.int .u64),1,8, [(.d (.sc (.int .u64 0)))]⟩
 |21=>some ⟨(.int .i32),1,4, [(.d (.sc (.int .i32 0)))]⟩
 |22=>some ⟨(.sl 56),1,24, [(.nil 56)]⟩
 |24=>some ⟨(.st [(0,3),(1,22)]),2,32, [(.d (.sc (.int .i64 0))),(.nil 56)]⟩
 |25=>some ⟨(.sl 3),1,24, [(.nil 3)]⟩
 |26=>some ⟨(.sl 25),1,24, [(.nil 25)]⟩
 |28=>some ⟨(.st [(0,25),(1,26)]),2,48, [(.nil 3),(.nil 25)]⟩
 |32=>some ⟨(.st [(0,25),(1,25),(2,25),(3,25)]),4,96, [(.nil 3),(.nil 3),(.nil 3),(.nil 3)]⟩
 |33=>some ⟨(.int .i64),1,8, [(.d (.sc (.int .i64 0)))]⟩
 |36=>some ⟨(.sl 25),1,24, [(.nil 25)]⟩
 |42=>some ⟨(.st [(0,25),(1,25),(2,25),(3,25)]),4,96, [(.nil 3),(.nil 3),(.nil 3),(.nil 3)]⟩
 |45=>some ⟨(.mp 3 3),1,8, [(.d (.sc (.map none)))]⟩
 |47=>some ⟨(.sl 54),1,24, [(.nil 54)]⟩
 |48=>some ⟨(.sl 47),1,24, [(.nil 47)]⟩
 |50=>some ⟨(.st [(0,47),(1,48)]),2,48, [(.nil 54),(.nil 47)]⟩
 |54=>some ⟨(.st [(0,3),(1,3)]),2,16, [(.d (.sc (.int .i64 0))),(.d (.sc (.int .i64 0)))]⟩
 |56=>some ⟨(.st [(0,3),(1,3)]),2,16, [(.d (.sc (.int .i64 0))),(.d (.sc (.int .i64 0)))]⟩
 |60=>some ⟨.sc,1,8, [(.d (.sc .nilFunc))]⟩
 |64=>some ⟨(.st [(0,33),(1,3),(2,25)]),3,40, [(.d (.sc (.int .i64 0))),(.d (.sc (.int .i64 0))),(.nil 3)]⟩
 |72=>some ⟨(.st [(0,25),(1,25),(2,25),(3,25)]),4,96, [(.nil 3),(.nil 3),(.nil 3),(.nil 3)]⟩
 |77=>some ⟨(.sl 78),1,24, [(.nil 78)]⟩
 |78=>some ⟨(.sl 92),1,24, [(.nil 92)]⟩
 |81=>some ⟨(.pt 146),1,8, [(.d (.sc (.pointer none)))]⟩
 |84=>some ⟨(.pt 86),1,8, [(.d (.sc (.pointer none)))]⟩
 |86=>some ⟨(.st [(0,25),(1,25),(2,32)]),6,144, [(.nil 3),(.nil 3),(.nil 3),(.nil 3),(.nil 3),(.nil 3)]⟩
 |92=>some ⟨(.st [(0,3),(1,3),(2,3)]),3,24, [(.d (.sc (.int .i64 0))),(.d (.sc (.int .i64 0))),(.d (.sc (.int .i64 0)))]⟩
 |107=>some ⟨(.pt 113),1,8, [(.d (.sc (.pointer none)))]⟩
 |113=>some ⟨(.st [(0,24),(2,28),(4,45)]),5,88, [(.d (.sc (.int .i64 0))),(.nil 56),(.nil 3),(.nil 25),(.d (.sc (.map none)))]⟩
 |119=>some ⟨(.pt 121),1,8, [(.d (.sc (.pointer none)))]⟩
 |121=>some ⟨(.st [(0,24),(2,50)]),4,80, [(.d (.sc (.int .i64 0))),(.nil 56),(.nil 54),(.nil 47)]⟩
 |134=>some ⟨(.pt 144),1,8, [(.d (.sc (.pointer none)))]⟩
 |142=>some ⟨(.st [(0,78)]),1,24, [(.nil 92)]⟩
 |144=>some ⟨(.st [(0,142),(1,81),(2,25)]),3,56, [(.nil 92),(.d (.sc (.pointer none))),(.nil 3)]⟩
 |146=>some ⟨(.st [(0,24),(2,26),(3,26)]),4,80, [(.d (.sc (.int .i64 0))),(.nil 56),(.nil 25),(.nil 25)]⟩
 |154=>some ⟨(.pt 156),1,8, [(.d (.sc (.pointer none)))]⟩
 |156=>some ⟨(.st [(0,24),(2,28)]),4,80, [(.d (.sc (.int .i64 0))),(.nil 56),(.nil 3),(.nil 25)]⟩
 |174=>some ⟨(.sl 176),1,24, [(.nil 176)]⟩
 |176=>some ⟨(.st [(0,54),(2,54)]),4,32, [(.d (.sc (.int .i64 0))),(.d (.sc (.int .i64 0))),(.d (.sc (.int .i64 0))),(.d (.sc (.int .i64 0)))]⟩
 |184=>some ⟨(.int .u64),1,8, [(.d (.sc (.int .u64 0)))]⟩
 |185=>some ⟨(.pt 187),1,8, [(.d (.sc (.pointer none)))]⟩
 |187=>some ⟨(.st [(0,24),(2,78),(3,25)]),4,80, [(.d (.sc (.int .i64 0))),(.nil 56),(.nil 92),(.nil 3)]⟩
 |198=>some ⟨(.pt 142),1,8, [(.d (.sc (.pointer none)))]⟩
 |204=>some ⟨(.sl 208),1,24, [(.nil 208)]⟩
 |207=>some ⟨(.int .u64),1,8, [(.d (.sc (.int .u64 0)))]⟩
 |208=>some ⟨(.int .u64),1,8, [(.d (.sc (.int .u64 0)))]⟩
 |221=>some ⟨(.ar 2 3),2,16, [(.d (.sc (.int .i64 0))),(.d (.sc (.int .i64 0)))]⟩
 |222=>some ⟨(.mp 54 3),1,8, [(.d (.sc (.map none)))]⟩
 |223=>some ⟨(.ar 2 54),4,32, [(.d (.sc (.int .i64 0))),(.d (.sc (.int .i64 0))),(.d (.sc (.int .i64 0))),(.d (.sc (.int .i64 0)))]⟩
 |226=>some ⟨(.int .i64),1,8, [(.d (.sc (.int .i64 0)))]⟩
 |233=>some ⟨(.int .u32),1,4, [(.d (.sc (.int .u32 0)))]⟩
 |239=>some ⟨(.sl 4),1,24, [(.nil 4)]⟩
 |241=>some ⟨(.int .u64),1,8, [(.d (.sc (.int .u64 0)))]⟩
 |245=>some ⟨(.pt 3),1,8, [(.d (.sc (.pointer none)))]⟩
 |252=>some ⟨(.pt 241),1,8, [(.d (.sc (.pointer none)))]⟩
 |273=>some ⟨(.pt 5),1,8, [(.d (.sc (.pointer none)))]⟩
 |_=>none
theorem T2:T 2=some ⟨(.int .i64),1,8, [(.d (.sc (.int .i64 0)))]⟩:=rfl
theorem T3:T 3=some ⟨(.int .i64),1,8, [(.d (.sc (.int .i64 0)))]⟩:=rfl
theorem T4:T 4=some ⟨.bool,1,1, [(.d (.sc (.bool false)))]⟩:=rfl
theorem T5:T 5=some ⟨(.int .u8),1,1, [(.d (.sc (.int .u8 0)))]⟩:=rfl
theorem T9:T 9=some ⟨.sc,1,16, [(.d (.sc (.string ⟨#[]⟩)))]⟩:=rfl
theorem T12:T 12=some ⟨(.int .u64),1,8, [(.d (.sc (.int .u64 0)))]⟩:=rfl
theorem T21:T 21=some ⟨(.int .i32),1,4, [(.d (.sc (.int .i32 0)))]⟩:=rfl
theorem T22:T 22=some ⟨(.sl 56),1,24, [(.nil 56)]⟩:=rfl
theorem T24:T 24=some ⟨(.st [(0,3),(1,22)]),2,32, [(.d (.sc (.int .i64 0))),(.nil 56)]⟩:=rfl
theorem T25:T 25=some ⟨(.sl 3),1,24, [(.nil 3)]⟩:=rfl
theorem T26:T 26=some ⟨(.sl 25),1,24, [(.nil 25)]⟩:=rfl
theorem T28:T 28=some ⟨(.st [(0,25),(1,26)]),2,48, [(.nil 3),(.nil 25)]⟩:=rfl
theorem T32:T 32=some ⟨(.st [(0,25),(1,25),(2,25),(3,25)]),4,96, [(.nil 3),(.nil 3),(.nil 3),(.nil 3)]⟩:=rfl
theorem T33:T 33=some ⟨(.int .i64),1,8, [(.d (.sc (.int .i64 0)))]⟩:=rfl
theorem T36:T 36=some ⟨(.sl 25),1,24, [(.nil 25)]⟩:=rfl
theorem T42:T 42=some ⟨(.st [(0,25),(1,25),(2,25),(3,25)]),4,96, [(.nil 3),(.nil 3),(.nil 3),(.nil 3)]⟩:=rfl
theorem T45:T 45=some ⟨(.mp 3 3),1,8, [(.d (.sc (.map none)))]⟩:=rfl
theorem T47:T 47=some ⟨(.sl 54),1,24, [(.nil 54)]⟩:=rfl
theorem T48:T 48=some ⟨(.sl 47),1,24, [(.nil 47)]⟩:=rfl
theorem T50:T 50=some ⟨(.st [(0,47),(1,48)]),2,48, [(.nil 54),(.nil 47)]⟩:=rfl
theorem T54:T 54=some ⟨(.st [(0,3),(1,3)]),2,16, [(.d (.sc (.int .i64 0))),(.d (.sc (.int .i64 0)))]⟩:=rfl
theorem T56:T 56=some ⟨(.st [(0,3),(1,3)]),2,16, [(.d (.sc (.int .i64 0))),(.d (.sc (.int .i64 0)))]⟩:=rfl
theorem T60:T 60=some ⟨.sc,1,8, [(.d (.sc .nilFunc))]⟩:=rfl
theorem T64:T 64=some ⟨(.st [(0,33),(1,3),(2,25)]),3,40, [(.d (.sc (.int .i64 0))),(.d (.sc (.int .i64 0))),(.nil 3)]⟩:=rfl
theorem T72:T 72=some ⟨(.st [(0,25),(1,25),(2,25),(3,25)]),4,96, [(.nil 3),(.nil 3),(.nil 3),(.nil 3)]⟩:=rfl
theorem T77:T 77=some ⟨(.sl 78),1,24, [(.nil 78)]⟩:=rfl
theorem T78:T 78=some ⟨(.sl 92),1,24, [(.nil 92)]⟩:=rfl
theorem T81:T 81=some ⟨(.pt 146),1,8, [(.d (.sc (.pointer none)))]⟩:=rfl
theorem T84:T 84=some ⟨(.pt 86),1,8, [(.d (.sc (.pointer none)))]⟩:=rfl
theorem T86:T 86=some ⟨(.st [(0,25),(1,25),(2,32)]),6,144, [(.nil 3),(.nil 3),(.nil 3),(.nil 3),(.nil 3),(.nil 3)]⟩:=rfl
theorem T92:T 92=some ⟨(.st [(0,3),(1,3),(2,3)]),3,24, [(.d (.sc (.int .i64 0))),(.d (.sc (.int .i64 0))),(.d (.sc (.int .i64 0)))]⟩:=rfl
theorem T107:T 107=some ⟨(.pt 113),1,8, [(.d (.sc (.pointer none)))]⟩:=rfl
theorem T113:T 113=some ⟨(.st [(0,24),(2,28),(4,45)]),5,88, [(.d (.sc (.int .i64 0))),(.nil 56),(.nil 3),(.nil 25),(.d (.sc (.map none)))]⟩:=rfl
theorem T119:T 119=some ⟨(.pt 121),1,8, [(.d (.sc (.pointer none)))]⟩:=rfl
theorem T121:T 121=some ⟨(.st [(0,24),(2,50)]),4,80, [(.d (.sc (.int .i64 0))),(.nil 56),(.nil 54),(.nil 47)]⟩:=rfl
theorem T134:T 134=some ⟨(.pt 144),1,8, [(.d (.sc (.pointer none)))]⟩:=rfl
theorem T142:T 142=some ⟨(.st [(0,78)]),1,24, [(.nil 92)]⟩:=rfl
theorem T144:T 144=some ⟨(.st [(0,142),(1,81),(2,25)]),3,56, [(.nil 92),(.d (.sc (.pointer none))),(.nil 3)]⟩:=rfl
theorem T146:T 146=some ⟨(.st [(0,24),(2,26),(3,26)]),4,80, [(.d (.sc (.int .i64 0))),(.nil 56),(.nil 25),(.nil 25)]⟩:=rfl
theorem T154:T 154=some ⟨(.pt 156),1,8, [(.d (.sc (.pointer none)))]⟩:=rfl
theorem T156:T 156=some ⟨(.st [(0,24),(2,28)]),4,80, [(.d (.sc (.int .i64 0))),(.nil 56),(.nil 3),(.nil 25)]⟩:=rfl
theorem T174:T 174=some ⟨(.sl 176),1,24, [(.nil 176)]⟩:=rfl
theorem T176:T 176=some ⟨(.st [(0,54),(2,54)]),4,32, [(.d (.sc (.int .i64 0))),(.d (.sc (.int .i64 0))),(.d (.sc (.int .i64 0))),(.d (.sc (.int .i64 0)))]⟩:=rfl
theorem T184:T 184=some ⟨(.int .u64),1,8, [(.d (.sc (.int .u64 0)))]⟩:=rfl
theorem T185:T 185=some ⟨(.pt 187),1,8, [(.d (.sc (.pointer none)))]⟩:=rfl
theorem T187:T 187=some ⟨(.st [(0,24),(2,78),(3,25)]),4,80, [(.d (.sc (.int .i64 0))),(.nil 56),(.nil 92),(.nil 3)]⟩:=rfl
theorem T198:T 198=some ⟨(.pt 142),1,8, [(.d (.sc (.pointer none)))]⟩:=rfl
theorem T204:T 204=some ⟨(.sl 208),1,24, [(.nil 208)]⟩:=rfl
theorem T207:T 207=some ⟨(.int .u64),1,8, [(.d (.sc (.int .u64 0)))]⟩:=rfl
theorem T208:T 208=some ⟨(.int .u64),1,8, [(.d (.sc (.int .u64 0)))]⟩:=rfl
theorem T221:T 221=some ⟨(.ar 2 3),2,16, [(.d (.sc (.int .i64 0))),(.d (.sc (.int .i64 0)))]⟩:=rfl
theorem T222:T 222=some ⟨(.mp 54 3),1,8, [(.d (.sc (.map none)))]⟩:=rfl
theorem T223:T 223=some ⟨(.ar 2 54),4,32, [(.d (.sc (.int .i64 0))),(.d (.sc (.int .i64 0))),(.d (.sc (.int .i64 0))),(.d (.sc (.int .i64 0)))]⟩:=rfl
theorem T226:T 226=some ⟨(.int .i64),1,8, [(.d (.sc (.int .i64 0)))]⟩:=rfl
theorem T233:T 233=some ⟨(.int .u32),1,4, [(.d (.sc (.int .u32 0)))]⟩:=rfl
theorem T239:T 239=some ⟨(.sl 4),1,24, [(.nil 4)]⟩:=rfl
theorem T241:T 241=some ⟨(.int .u64),1,8, [(.d (.sc (.int .u64 0)))]⟩:=rfl
theorem T245:T 245=some ⟨(.pt 3),1,8, [(.d (.sc (.pointer none)))]⟩:=rfl
theorem T252:T 252=some ⟨(.pt 241),1,8, [(.d (.sc (.pointer none)))]⟩:=rfl
theorem T273:T 273=some ⟨(.pt 5),1,8, [(.d (.sc (.pointer none)))]⟩:=rfl
def Bd:Nat→Option Nat
 |54=>some 2
 |56=>some 2
 |92=>some 3
 |_=>none
theorem eqn54:Bd 54=some 2:=rfl
theorem eqn56:Bd 56=some 2:=rfl
theorem eqn92:Bd 92=some 3:=rfl
theorem Tv:aF Tryz.prog 2 ⟨(.int .i64),1,8, [(.d (.sc (.int .i64 0)))]⟩:=aF.mk' (by kernel_rfl) (by kernel_rfl) rfl Tryz.underlying2
theorem Tw:aF Tryz.prog 3 ⟨(.int .i64),1,8, [(.d (.sc (.int .i64 0)))]⟩:=aF.mk' (by kernel_rfl) (by kernel_rfl) rfl Tryz.underlying3
theorem Tx:aF Tryz.prog 4 ⟨.bool,1,1, [(.d (.sc (.bool false)))]⟩:=aF.mk' (by kernel_rfl) (by kernel_rfl) rfl Tryz.underlying4
theorem Ty:aF Tryz.prog 5 ⟨(.int .u8),1,1, [(.d (.sc (.int .u8 0)))]⟩:=aF.mk' (by kernel_rfl) (by kernel_rfl) rfl Tryz.underlying5
theorem Tz:aF Tryz.prog 9 ⟨.sc,1,16, [(.d (.sc (.string ⟨#[]⟩)))]⟩:=aF.mk' (by kernel_rfl) (by kernel_rfl) rfl ⟨_,Tryz.underlying9,trivial⟩
theorem Qi:aF Tryz.prog 12 ⟨(.int .u64),1,8, [(.d (.sc (.int .u64 0)))]⟩:=aF.mk' (by kernel_rfl) (by kernel_rfl) rfl Tryz.underlying12
theorem Qj:aF Tryz.prog 21 ⟨(.int .i32),1,4, [(.d (.sc (.int .i32 0)))]⟩:=aF.mk' (by kernel_rfl) (by kernel_rfl) rfl Tryz.underlying21
theorem Qk:aF Tryz.prog 22 ⟨(.sl 56),1,24, [(.nil 56)]⟩:=aF.mk' (by kernel_rfl) (by kernel_rfl) rfl Tryz.underlying22
theorem Ql:aF Tryz.prog 24 ⟨(.st [(0,3),(1,22)]),2,32, [(.d (.sc (.int .i64 0))),(.nil 56)]⟩:=aF.mk' (by kernel_rfl) (by kernel_rfl) rfl ⟨_,Tryz.underlying24,rfl⟩
theorem Qm:aF Tryz.prog 25 ⟨(.sl 3),1,24, [(.nil 3)]⟩:=aF.mk' (by kernel_rfl) (by kernel_rfl) rfl Tryz.underlying25
theorem Qn:aF Tryz.prog 26 ⟨(.sl 25),1,24, [(.nil 25)]⟩:=aF.mk' (by kernel_rfl) (by kernel_rfl) rfl Tryz.underlying26
theorem Qo:aF Tryz.prog 28 ⟨(.st [(0,25),(1,26)]),2,48, [(.nil 3),(.nil 25)]⟩:=aF.mk' (by kernel_rfl) (by kernel_rfl) rfl ⟨_,Tryz.underlying28,rfl⟩
theorem Qp:aF Tryz.prog 32 ⟨(.st [(0,25),(1,25),(2,25),(3,25)]),4,96, [(.nil 3),(.nil 3),(.nil 3),(.nil 3)]⟩:=aF.mk' (by kernel_rfl) (by kernel_rfl) rfl ⟨_,Tryz.underlying32,rfl⟩
theorem Qq:aF Tryz.prog 33 ⟨(.int .i64),1,8, [(.d (.sc (.int .i64 0)))]⟩:=aF.mk' (by kernel_rfl) (by kernel_rfl) rfl Tryz.underlying33
theorem Qr:aF Tryz.prog 36 ⟨(.sl 25),1,24, [(.nil 25)]⟩:=aF.mk' (by kernel_rfl) (by kernel_rfl) rfl Tryz.underlying36
theorem Qs:aF Tryz.prog 42 ⟨(.st [(0,25),(1,25),(2,25),(3,25)]),4,96, [(.nil 3),(.nil 3),(.nil 3),(.nil 3)]⟩:=aF.mk' (by kernel_rfl) (by kernel_rfl) rfl ⟨_,Tryz.underlying42,rfl⟩
theorem Qt:aF Tryz.prog 45 ⟨(.mp 3 3),1,8, [(.d (.sc (.map none)))]⟩:=aF.mk' (by kernel_rfl) (by kernel_rfl) rfl ⟨Tryz.underlying45,fun w=>by kernel_rfl⟩
theorem Qu:aF Tryz.prog 47 ⟨(.sl 54),1,24, [(.nil 54)]⟩:=aF.mk' (by kernel_rfl) (by kernel_rfl) rfl Tryz.underlying47
theorem Qv:aF Tryz.prog 48 ⟨(.sl 47),1,24, [(.nil 47)]⟩:=aF.mk' (by kernel_rfl) (by kernel_rfl) rfl Tryz.underlying48
theorem Qw:aF Tryz.prog 50 ⟨(.st [(0,47),(1,48)]),2,48, [(.nil 54),(.nil 47)]⟩:=aF.mk' (by kernel_rfl) (by kernel_rfl) rfl ⟨_,Tryz.underlying50,rfl⟩
theorem Qx:aF Tryz.prog 54 ⟨(.st [(0,3),(1,3)]),2,16, [(.d (.sc (.int .i64 0))),(.d (.sc (.int .i64 0)))]⟩:=aF.mk' (by kernel_rfl) (by kernel_rfl) rfl ⟨_,Tryz.underlying54,rfl⟩
theorem Qy:aF Tryz.prog 56 ⟨(.st [(0,3),(1,3)]),2,16, [(.d (.sc (.int .i64 0))),(.d (.sc (.int .i64 0)))]⟩:=aF.mk' (by kernel_rfl) (by kernel_rfl) rfl ⟨_,Tryz.underlying56,rfl⟩
theorem Qz:aF Tryz.prog 60 ⟨.sc,1,8, [(.d (.sc .nilFunc))]⟩:=aF.mk' (by kernel_rfl) (by kernel_rfl) rfl ⟨_,Tryz.underlying60,trivial⟩
theorem QA:aF Tryz.prog 64 ⟨(.st [(0,33),(1,3),(2,25)]),3,40, [(.d (.sc (.int .i64 0))),(.d (.sc (.int .i64 0))),(.nil 3)]⟩:=aF.mk' (by kernel_rfl) (by kernel_rfl) rfl ⟨_,Tryz.underlying64,rfl⟩
theorem QB:aF Tryz.prog 72 ⟨(.st [(0,25),(1,25),(2,25),(3,25)]),4,96, [(.nil 3),(.nil 3),(.nil 3),(.nil 3)]⟩:=aF.mk' (by kernel_rfl) (by kernel_rfl) rfl ⟨_,Tryz.underlying72,rfl⟩
theorem QC:aF Tryz.prog 77 ⟨(.sl 78),1,24, [(.nil 78)]⟩:=aF.mk' (by kernel_rfl) (by kernel_rfl) rfl Tryz.underlying77
theorem QD:aF Tryz.prog 78 ⟨(.sl 92),1,24, [(.nil 92)]⟩:=aF.mk' (by kernel_rfl) (by kernel_rfl) rfl Tryz.underlying78
theorem QE:aF Tryz.prog 81 ⟨(.pt 146),1,8, [(.d (.sc (.pointer none)))]⟩:=aF.mk' (by kernel_rfl) (by kernel_rfl) rfl Tryz.underlying81
theorem QF:aF Tryz.prog 84 ⟨(.pt 86),1,8, [(.d (.sc (.pointer none)))]⟩:=aF.mk' (by kernel_rfl) (by kernel_rfl) rfl Tryz.underlying84
theorem QG:aF Tryz.prog 86 ⟨(.st [(0,25),(1,25),(2,32)]),6,144, [(.nil 3),(.nil 3),(.nil 3),(.nil 3),(.nil 3),(.nil 3)]⟩:=aF.mk' (by kernel_rfl) (by kernel_rfl) rfl ⟨_,Tryz.underlying86,rfl⟩
theorem QH:aF Tryz.prog 92 ⟨(.st [(0,3),(1,3),(2,3)]),3,24, [(.d (.sc (.int .i64 0))),(.d (.sc (.int .i64 0))),(.d (.sc (.int .i64 0)))]⟩:=aF.mk' (by kernel_rfl) (by kernel_rfl) rfl ⟨_,Tryz.underlying92,rfl⟩
theorem M3:aF Tryz.prog 107 ⟨(.pt 113),1,8, [(.d (.sc (.pointer none)))]⟩:=aF.mk' (by kernel_rfl) (by kernel_rfl) rfl Tryz.underlying107
theorem M4:aF Tryz.prog 113 ⟨(.st [(0,24),(2,28),(4,45)]),5,88, [(.d (.sc (.int .i64 0))),(.nil 56),(.nil 3),(.nil 25),(.d (.sc (.map none)))]⟩:=aF.mk' (by kernel_rfl) (by kernel_rfl) rfl ⟨_,Tryz.underlying113,rfl⟩
theorem M5:aF Tryz.prog 119 ⟨(.pt 121),1,8, [(.d (.sc (.pointer none)))]⟩:=aF.mk' (by kernel_rfl) (by kernel_rfl) rfl Tryz.underlying119
theorem M6:aF Tryz.prog 121 ⟨(.st [(0,24),(2,50)]),4,80, [(.d (.sc (.int .i64 0))),(.nil 56),(.nil 54),(.nil 47)]⟩:=aF.mk' (by kernel_rfl) (by kernel_rfl) rfl ⟨_,Tryz.underlying121,rfl⟩
theorem M7:aF Tryz.prog 134 ⟨(.pt 144),1,8, [(.d (.sc (.pointer none)))]⟩:=aF.mk' (by kernel_rfl) (by kernel_rfl) rfl Tryz.underlying134
theorem M8:aF Tryz.prog 142 ⟨(.st [(0,78)]),1,24, [(.nil 92)]⟩:=aF.mk' (by kernel_rfl) (by kernel_rfl) rfl ⟨_,Tryz.underlying142,rfl⟩
theorem M9:aF Tryz.prog 144 ⟨(.st [(0,142),(1,81),(2,25)]),3,56, [(.nil 92),(.d (.sc (.pointer none))),(.nil 3)]⟩:=aF.mk' (by kernel_rfl) (by kernel_rfl) rfl ⟨_,Tryz.underlying144,rfl⟩
theorem Na:aF Tryz.prog 146 ⟨(.st [(0,24),(2,26),(3,26)]),4,80, [(.d (.sc (.int .i64 0))),(.nil 56),(.nil 25),(.nil 25)]⟩:=aF.mk' (by kernel_rfl) (by kernel_rfl) rfl ⟨_,Tryz.underlying146,rfl⟩
theorem Nb:aF Tryz.prog 154 ⟨(.pt 156),1,8, [(.d (.sc (.pointer none)))]⟩:=aF.mk' (by kernel_rfl) (by kernel_rfl) rfl Tryz.underlying154
theorem Nc:aF Tryz.prog 156 ⟨(.st [(0,24),(2,28)]),4,80, [(.d (.sc (.int .i64 0))),(.nil 56),(.nil 3),(.nil 25)]⟩:=aF.mk' (by kernel_rfl) (by kernel_rfl) rfl ⟨_,Tryz.underlying156,rfl⟩
theorem Nd:aF Tryz.prog 174 ⟨(.sl 176),1,24, [(.nil 176)]⟩:=aF.mk' (by kernel_rfl) (by kernel_rfl) rfl Tryz.underlying174
theorem Nf:aF Tryz.prog 176 ⟨(.st [(0,54),(2,54)]),4,32, [(.d (.sc (.int .i64 0))),(.d (.sc (.int .i64 0))),(.d (.sc (.int .i64 0))),(.d (.sc (.int .i64 0)))]⟩:=aF.mk' (by kernel_rfl) (by kernel_rfl) rfl ⟨_,Tryz.underlying176,rfl⟩
theorem Ng:aF Tryz.prog 184 ⟨(.int .u64),1,8, [(.d (.sc (.int .u64 0)))]⟩:=aF.mk' (by kernel_rfl) (by kernel_rfl) rfl Tryz.underlying184
theorem Nh:aF Tryz.prog 185 ⟨(.pt 187),1,8, [(.d (.sc (.pointer none)))]⟩:=aF.mk' (by kernel_rfl) (by kernel_rfl) rfl Tryz.underlying185
theorem Ni:aF Tryz.prog 187 ⟨(.st [(0,24),(2,78),(3,25)]),4,80, [(.d (.sc (.int .i64 0))),(.nil 56),(.nil 92),(.nil 3)]⟩:=aF.mk' (by kernel_rfl) (by kernel_rfl) rfl ⟨_,Tryz.underlying187,rfl⟩
theorem Nj:aF Tryz.prog 198 ⟨(.pt 142),1,8, [(.d (.sc (.pointer none)))]⟩:=aF.mk' (by kernel_rfl) (by kernel_rfl) rfl Tryz.underlying198
theorem Nk:aF Tryz.prog 204 ⟨(.sl 208),1,24, [(.nil 208)]⟩:=aF.mk' (by kernel_rfl) (by kernel_rfl) rfl Tryz.underlying204
theorem Nl:aF Tryz.prog 207 ⟨(.int .u64),1,8, [(.d (.sc (.int .u64 0)))]⟩:=aF.mk' (by kernel_rfl) (by kernel_rfl) rfl Tryz.underlying207
theorem Nn:aF Tryz.prog 208 ⟨(.int .u64),1,8, [(.d (.sc (.int .u64 0)))]⟩:=aF.mk' (by kernel_rfl) (by kernel_rfl) rfl Tryz.underlying208
theorem No:aF Tryz.prog 221 ⟨(.ar 2 3),2,16, [(.d (.sc (.int .i64 0))),(.d (.sc (.int .i64 0)))]⟩:=aF.mk' (by kernel_rfl) (by kernel_rfl) rfl Tryz.underlying221
theorem Np:aF Tryz.prog 222 ⟨(.mp 54 3),1,8, [(.d (.sc (.map none)))]⟩:=aF.mk' (by kernel_rfl) (by kernel_rfl) rfl ⟨Tryz.underlying222,fun w=>by kernel_rfl⟩
theorem Nq:aF Tryz.prog 223 ⟨(.ar 2 54),4,32, [(.d (.sc (.int .i64 0))),(.d (.sc (.int .i64 0))),(.d (.sc (.int .i64 0))),(.d (.sc (.int .i64 0)))]⟩:=aF.mk' (by kernel_rfl) (by kernel_rfl) rfl Tryz.underlying223
theorem Ns:aF Tryz.prog 226 ⟨(.int .i64),1,8, [(.d (.sc (.int .i64 0)))]⟩:=aF.mk' (by kernel_rfl) (by kernel_rfl) rfl Tryz.underlying226
theorem Nt:aF Tryz.prog 233 ⟨(.int .u32),1,4, [(.d (.sc (.int .u32 0)))]⟩:=aF.mk' (by kernel_rfl) (by kernel_rfl) rfl Tryz.underlying233
theorem Nu:aF Tryz.prog 239 ⟨(.sl 4),1,24, [(.nil 4)]⟩:=aF.mk' (by kernel_rfl) (by kernel_rfl) rfl Tryz.underlying239
theorem Nv:aF Tryz.prog 241 ⟨(.int .u64),1,8, [(.d (.sc (.int .u64 0)))]⟩:=aF.mk' (by kernel_rfl) (by kernel_rfl) rfl Tryz.underlying241
theorem Nw:aF Tryz.prog 245 ⟨(.pt 3),1,8, [(.d (.sc (.pointer none)))]⟩:=aF.mk' (by kernel_rfl) (by kernel_rfl) rfl Tryz.underlying245
theorem Ny:aF Tryz.prog 252 ⟨(.pt 241),1,8, [(.d (.sc (.pointer none)))]⟩:=aF.mk' (by kernel_rfl) (by kernel_rfl) rfl Tryz.underlying252
theorem Nz:aF Tryz.prog 273 ⟨(.pt 5),1,8, [(.d (.sc (.pointer none)))]⟩:=aF.mk' (by kernel_rfl) (by kernel_rfl) rfl Tryz.underlying273
theorem QI:pJ Tryz.prog 54 2:=pJ.two (by kernel_rfl) (by kernel_rfl) Tryz.underlying54 (by decide) rfl Tryz.underlying3 (by decide) rfl Tryz.underlying3
theorem QJ:pJ Tryz.prog 56 2:=pJ.two (by kernel_rfl) (by kernel_rfl) Tryz.underlying56 (by decide) rfl Tryz.underlying3 (by decide) rfl Tryz.underlying3
theorem QK:pJ Tryz.prog 92 3:=pJ.three (by kernel_rfl) (by kernel_rfl) Tryz.underlying92 (by decide) rfl Tryz.underlying3 (by decide) rfl Tryz.underlying3 (by decide) rfl Tryz.underlying3
set_option maxHeartbeats 4000000 in
theorem TA:∀t ti,T t=some ti→aF Tryz.prog t ti:=by
 intro t ti h
 unfold T at h
 split at h
 ·cases h;exact Tv
 ·cases h;exact Tw
 ·cases h;exact Tx
 ·cases h;exact Ty
 ·cases h;exact Tz
 ·cases h;exact Qi
 ·cases h;exact Qj
 ·cases h;exact Qk
 ·cases h;exact Ql
 ·cases h;exact Qm
 ·cases h;exact Qn
 ·cases h;exact Qo
 ·cases h;exact Qp
 ·cases h;exact Qq
 ·cases h;exact Qr
 ·cases h;exact Qs
 ·cases h;exact Qt
 ·cases h;exact Qu
 ·cases h;exact Qv
 ·cases h;exact Qw
 ·cases h;exact Qx
 ·cases h;exact Qy
 ·cases h;exact Qz
 ·cases h;exact QA
 ·cases h;exact QB
 ·cases h;exact QC
 ·cases h;exact QD
 ·cases h;exact QE
 ·cases h;exact QF
 ·cases h;exact QG
 ·cases h;exact QH
 ·cases h;exact M3
 ·cases h;exact M4
 ·cases h;exact M5
 ·cases h;exact M6
 ·cases h;exact M7
 ·cases h;exact M8
 ·cases h;exact M9
 ·cases h;exact Na
 ·cases h;exact Nb
 ·cases h;exact Nc
 ·cases h;exact Nd
 ·cases h;exact Nf
 ·cases h;exact Ng
 ·cases h;exact Nh
 ·cases h;exact Ni
 ·cases h;exact Nj
 ·cases h;exact Nk
 ·cases h;exact Nl
 ·cases h;exact Nn
 ·cases h;exact No
 ·cases h;exact Np
 ·cases h;exact Nq
 ·cases h;exact Ns
 ·cases h;exact Nt
 ·cases h;exact Nu
 ·cases h;exact Nv
 ·cases h;exact Nw
 ·cases h;exact Ny
 ·cases h;exact Nz
 ·cases h
theorem TB:∀t n,Bd t=some n→pJ Tryz.prog t n:=by
 intro t n h
 unfold Bd at h
 split at h
 ·cases h;exact QI
 ·cases h;exact QJ
 ·cases h;exact QK
 ·cases h
def cfg (own A5:List Nat):Cfg:=⟨T,own,Bd,A5⟩
theorem cfg_T (own A5:List Nat):(cfg own A5).T=T:=rfl
theorem cfg_own (own A5:List Nat):(cfg own A5).own=own:=rfl
theorem cfg_nst (own A5:List Nat):(cfg own A5).A5=A5:=rfl
theorem cfg_eqn (own A5:List Nat):(cfg own A5).Bd=Bd:=rfl
theorem ah (own A5:List Nat):(cfg own A5).Ok Tryz.prog:=⟨TA,TB⟩
theorem mixed:Tryz.prog.follows .mixedOrders=true:=by kernel_rfl
attribute [go_sem] T2 T3 T4 T5 T9 T12 T21 T22 T24 T25 T26 T28 T32 T33 T36 T42 T45 T47 T48 T50 T54 T56 T60 T64 T72 T77 T78 T81 T84 T86 T92 T107 T113 T119 T121 T134 T142 T144 T146 T154 T156 T174 T176 T184 T185 T187 T198 T204 T207 T208 T221 T222 T223 T226 T233 T239 T241 T245 T252 T273 eqn54 eqn56 eqn92 cfg_T cfg_own cfg_nst cfg_eqn
end Go.Ab.T
end
section
namespace Go.Ab
open Go.Proofs
attribute [local congr] ACall.congr gd.congr Nx.congr
set_option maxRecDepth 10000
def eN (n:Int):AV:= .d (.sc (.int .i64 n))
def eB (b:Bool):AV:= .d (.sc (.bool b))
abbrev Edge:=Int × Int
structure Gr where
 n:Int
 es:List Edge
def rE (e:Edge):List D:= [.sc (.int .i64 e.1), .sc (.int .i64 e.2)]
def rI (n:Int):List D:= [.sc (.int .i64 n)]
def eE (e:Edge):AV:= .agg [.d (.sc (.int .i64 e.1)), .d (.sc (.int .i64 e.2))]
def sE (es:List Edge):D:= .sl 2 (es.map rE)
def sI (l:List Int):D:= .sl 1 (l.map rI)
def eG (g:Gr):AV:= .agg [eN g.n, .d (sE g.es)]
attribute [go_sem] eN eB eE sE sI eG Args AVrs
theorem getD_rE (ps:List Edge) (i:Nat):(ps.map rE).getD i [.sc (.int .i64 0), .sc (.int .i64 0)]= [.sc (.int .i64 (ps.getD i (0,0)).1), .sc (.int .i64 (ps.getD i (0,0)).2)]:=by
 simp only [List.getD_eq_getElem?_getD,List.getElem?_map]
 cases ps[i]? <;>rfl
theorem getD_rI (ps:List Int) (i:Nat):(ps.map rI).getD i [.sc (.int .i64 0)]= [.sc (.int .i64 (ps.getD i 0))]:=by
 simp only [List.getD_eq_getElem?_getD,List.getElem?_map]
 cases ps[i]? <;>rfl
theorem yg (l:List Int) (k:Nat) (v:Int):(l.map rI).set k [.sc (.int .i64 v)]=(l.set k v).map rI:=by
 rw [List.map_set];rfl
attribute [go_sem] getD_rE getD_rI Int.toNat_natCast List.length_set
def Vu (n:Int):Prop:= -9223372036854775808≤n∧n≤9223372036854775807
def Len (n:Nat):Prop:=n≤9223372036854775807
end Go.Ab
end
section
namespace Go.Ab
open Go.Proofs
attribute [local congr] ACall.congr gd.congr Nx.congr
set_option maxRecDepth 10000
def bS {α:Type} (g:α→Bool) (ps:List α):Int:=match ps.findIdx? g with|some i=>i|none=> -1
theorem bA {α:Type} {g:α→Bool} {ps:List α} (d:α) (h:∀j,j<ps.length→g (ps.getD j d)=false):bS g ps= -1:=by
 have:ps.findIdx? g=none:=by
  rw [List.findIdx?_eq_none_iff]
  intro x hx
  obtain ⟨j,hj,rfl⟩:=List.getElem_of_mem hx
  simpa [List.getD_eq_getElem?_getD,List.getElem?_eq_getElem hj] using h j hj
 simp [bS,this]
theorem bZ {α:Type} {g:α→Bool} {ps:List α} {d:α} {k:Nat} (hk:k<ps.length) (h:∀j,j<k→g (ps.getD j d)=false) (hg:g (ps.getD k d)=true):bS g ps=k:=by
 have:ps.findIdx? g=some k:=by
  rw [List.findIdx?_eq_some_iff_getElem]
  refine ⟨hk,by simpa [List.getD_eq_getElem?_getD,List.getElem?_eq_getElem hk] using hg,fun j hj=> ?_⟩
  have:=h j hj
  simpa [List.getD_eq_getElem?_getD,List.getElem?_eq_getElem (Nat.lt_trans hj hk)] using this
 simp [bS,this]
theorem cT {α:Type} (g:α→Bool) (ps:List α):decide (0≤bS g ps)=ps.any g:=by
 cases h:ps.findIdx? g with
 |none=>
  have:bS g ps= -1:=by simp [bS,h]
  rw [this]
  rw [List.findIdx?_eq_none_iff] at h
  symm
  simpa using h
 |some i=>
  have:bS g ps=i:=by simp [bS,h]
  rw [this]
  obtain ⟨hi,hg,_⟩:=List.findIdx?_eq_some_iff_getElem.1 h
  have:ps.any g=true:=List.any_eq_true.2 ⟨_,List.getElem_mem hi,hg⟩
  rw [this];simp
theorem zV {α:Type} (g:α→Bool) (ps:List α):bS g ps= -1∨(0≤bS g ps∧bS g ps<ps.length):=by
 cases h:ps.findIdx? g with
 |none=>exact .inl (by simp [bS,h])
 |some i=>
  obtain ⟨hi,hg,_⟩:=List.findIdx?_eq_some_iff_getElem.1 h
  exact .inr (by simp [bS,h];omega)
theorem zW (rn:List (Nat × Nat)) (h0:rn= []) {m:List (Nat × AObj)} :∀ {r:List (Nat × AObj)},(∀p∈r,look m p.1=some p.2)→leR m rn r
 | [],_=>trivial
 |p::r,h=>by
  subst h0
  have h1:=h p List.mem_cons_self
  refine ⟨?_,zW [] rfl fun q hq=>h q (List.mem_cons_of_mem _ hq)⟩
  have e:renO [] p.2=p.2:=rfl
  show look m p.1=some (renO [] p.2)
  rw [e];exact h1
theorem bV {m:List (Nat × AObj)} (h:aH m):leR m [] m:=zW [] rfl fun _ hp=>az h.nd hp
theorem bT {m:List (Nat × AObj)} (hR:aH m) (f:Nat) (caps:List AV) (g:Edge→Bool) (hf:∀p,Spec Tryz.prog f (Args (eE p::caps)) m (eB (g p)) m) (ps:List Edge) (hl:ps.length≤9223372036854775807):
 Spec Tryz.prog 111 (Args [.d (sE ps), .fn f [] caps]) m (eN (bS g ps)) m:=by
 (refine Spec.hd (C:=T.cfg [] []) (rs:= [.t 4]) (T.ah _ _) Tryz.func111 rfl rfl Tryz.ntmps111 Tryz.results111 (fun p hp=>⟨(aH.low hR p hp).1,aH.nest hR p hp⟩) (fun p hp=>⟨(aH.low hR p hp).2,aH.nest hR p hp⟩) (by kernel_rfl) T.mixed fun X hX hP hC aB bK=> ?_)
 repeat' (first|refine Rn.p ?_|(with_reducible apply And.intro)|((first|(refine hK _ ?_;clear hK K)|with_reducible intro K hK|refine Rs.p ?_|((with_reducible first|apply oP|apply oQ);exact rfl)|(first|(refine au hX hC hP hR (hf _) rfl rfl rfl ?_ ?_ rfl rfl ?_;(focus (simp only [go_sem,simprocAttr];done));(focus (first|(intro p hp;exact az (aH.nd hR) hp)|(simp [go_sem,simprocAttr];done))))|(refine au hX hC hP hR (hf _) rfl rfl rfl ?_ ?_ ?_ rfl ?_;(focus (simp only [go_sem,simprocAttr];done));(focus (first|(intro p hp;exact az (aH.nd hR) hp)|(simp [go_sem,simprocAttr];done)));(focus (simp [go_sem,simprocAttr];done)))));try simp only [go_sem,simprocAttr])|((with_reducible refine oD ?_ ?_);kernel_rfl)|((with_reducible intro h);try simp only [go_sem,simprocAttr] at h)|omega|intro h)
 refine ag (fun k:Nat=>k≤ps.length∧∀j,j<k→g (ps.getD j (0,0))=false) (fun k=>⟨[(0, .d (sE ps)),(1, .fn f [] caps),(7,eN ps.length),(8,eN k)],m⟩) (fun k=>ps.length - k) 0 (by simp) ?_ ?_
 ·(refine ⟨bD ?_,fun _ _ h=>h⟩;simp [go_sem,simprocAttr])
 rintro k ⟨hk,hg⟩
 repeat' (first|refine Rn.p ?_|(with_reducible apply And.intro)|((first|(refine hK _ ?_;clear hK K)|with_reducible intro K hK|refine Rs.p ?_|((with_reducible first|apply oP|apply oQ);exact rfl)|(first|(refine au hX hC hP hR (hf _) rfl rfl rfl ?_ ?_ rfl rfl ?_;(focus (simp only [go_sem,simprocAttr];done));(focus (first|(intro p hp;exact az (aH.nd hR) hp)|(simp [go_sem,simprocAttr];done))))|(refine au hX hC hP hR (hf _) rfl rfl rfl ?_ ?_ ?_ rfl ?_;(focus (simp only [go_sem,simprocAttr];done));(focus (first|(intro p hp;exact az (aH.nd hR) hp)|(simp [go_sem,simprocAttr];done)));(focus (simp [go_sem,simprocAttr];done)))));try simp only [go_sem,simprocAttr])|((with_reducible refine oD ?_ ?_);kernel_rfl)|((with_reducible intro h);try simp only [go_sem,simprocAttr] at h)|omega|intro h)
 ·exact (bZ (by omega) hg h).symm
 ·exact bV hR
 ·refine ⟨k+1,⟨by omega,fun j hj=> ?_⟩, ?_,by omega⟩
  ·by_cases hjk:j=k
   ·subst hjk;exact h
   ·exact hg j (by omega)
  ·(refine ⟨bD ?_,fun _ _ h=>h⟩;simp [go_sem,simprocAttr])
 ·exact (bA (0,0) fun j hj=>hg j (by omega)).symm
 ·exact bV hR
theorem de {m:List (Nat × AObj)} (hR:aH m) (f:Nat) (caps:List AV) (g:Int→Bool) (hf:∀p,Spec Tryz.prog f (Args (eN p::caps)) m (eB (g p)) m) (ps:List Int) (hl:ps.length≤9223372036854775807):
 Spec Tryz.prog 162 (Args [.d (sI ps), .fn f [] caps]) m (eN (bS g ps)) m:=by
 (refine Spec.hd (C:=T.cfg [] []) (rs:= [.t 4]) (T.ah _ _) Tryz.func162 rfl rfl Tryz.ntmps162 Tryz.results162 (fun p hp=>⟨(aH.low hR p hp).1,aH.nest hR p hp⟩) (fun p hp=>⟨(aH.low hR p hp).2,aH.nest hR p hp⟩) (by kernel_rfl) T.mixed fun X hX hP hC aB bK=> ?_)
 repeat' (first|refine Rn.p ?_|(with_reducible apply And.intro)|((first|(refine hK _ ?_;clear hK K)|with_reducible intro K hK|refine Rs.p ?_|((with_reducible first|apply oP|apply oQ);exact rfl)|(first|(refine au hX hC hP hR (hf _) rfl rfl rfl ?_ ?_ rfl rfl ?_;(focus (simp only [go_sem,simprocAttr];done));(focus (first|(intro p hp;exact az (aH.nd hR) hp)|(simp [go_sem,simprocAttr];done))))|(refine au hX hC hP hR (hf _) rfl rfl rfl ?_ ?_ ?_ rfl ?_;(focus (simp only [go_sem,simprocAttr];done));(focus (first|(intro p hp;exact az (aH.nd hR) hp)|(simp [go_sem,simprocAttr];done)));(focus (simp [go_sem,simprocAttr];done)))));try simp only [go_sem,simprocAttr])|((with_reducible refine oD ?_ ?_);kernel_rfl)|((with_reducible intro h);try simp only [go_sem,simprocAttr] at h)|omega|intro h)
 refine ag (fun k:Nat=>k≤ps.length∧∀j,j<k→g (ps.getD j 0)=false) (fun k=>⟨[(0, .d (sI ps)),(1, .fn f [] caps),(7,eN ps.length),(8,eN k)],m⟩) (fun k=>ps.length - k) 0 (by simp) ?_ ?_
 ·(refine ⟨bD ?_,fun _ _ h=>h⟩;simp [go_sem,simprocAttr])
 rintro k ⟨hk,hg⟩
 repeat' (first|refine Rn.p ?_|(with_reducible apply And.intro)|((first|(refine hK _ ?_;clear hK K)|with_reducible intro K hK|refine Rs.p ?_|((with_reducible first|apply oP|apply oQ);exact rfl)|(first|(refine au hX hC hP hR (hf _) rfl rfl rfl ?_ ?_ rfl rfl ?_;(focus (simp only [go_sem,simprocAttr];done));(focus (first|(intro p hp;exact az (aH.nd hR) hp)|(simp [go_sem,simprocAttr];done))))|(refine au hX hC hP hR (hf _) rfl rfl rfl ?_ ?_ ?_ rfl ?_;(focus (simp only [go_sem,simprocAttr];done));(focus (first|(intro p hp;exact az (aH.nd hR) hp)|(simp [go_sem,simprocAttr];done)));(focus (simp [go_sem,simprocAttr];done)))));try simp only [go_sem,simprocAttr])|((with_reducible refine oD ?_ ?_);kernel_rfl)|((with_reducible intro h);try simp only [go_sem,simprocAttr] at h)|omega|intro h)
 ·exact (bZ (by omega) hg h).symm
 ·exact bV hR
 ·refine ⟨k+1,⟨by omega,fun j hj=> ?_⟩, ?_,by omega⟩
  ·by_cases hjk:j=k
   ·subst hjk;exact h
   ·exact hg j (by omega)
  ·(refine ⟨bD ?_,fun _ _ h=>h⟩;simp [go_sem,simprocAttr])
 ·exact (bA 0 fun j hj=>hg j (by omega)).symm
 ·exact bV hR
theorem oZ {m:List (Nat × AObj)} (hR:aH m) (f:Nat) (caps:List AV) (g:Edge→Bool) (hf:∀p,Spec Tryz.prog f (Args (eE p::caps)) m (eB (g p)) m) (ps:List Edge) (hl:ps.length≤9223372036854775807):
 Spec Tryz.prog 144 (Args [.d (sE ps), .fn f [] caps]) m (eB (ps.any g)) m:=by
 (refine Spec.hd (C:=T.cfg [] []) (rs:= [.t 4]) (T.ah _ _) Tryz.func144 rfl rfl Tryz.ntmps144 Tryz.results144 (fun p hp=>⟨(aH.low hR p hp).1,aH.nest hR p hp⟩) (fun p hp=>⟨(aH.low hR p hp).2,aH.nest hR p hp⟩) (by kernel_rfl) T.mixed fun X hX hP hC aB bK=> ?_)
 repeat' (first|refine Rn.p ?_|(with_reducible apply And.intro)|((first|(refine hK _ ?_;clear hK K)|with_reducible intro K hK|refine Rs.p ?_|((with_reducible first|apply oP|apply oQ);exact rfl)|(first|(refine au hX hC hP hR (bT hR _ _ g hf ps hl) rfl rfl rfl ?_ ?_ rfl rfl ?_;(focus (simp only [go_sem,simprocAttr];done));(focus (first|(intro p hp;exact az (aH.nd hR) hp)|(simp [go_sem,simprocAttr];done))))|(refine au hX hC hP hR (bT hR _ _ g hf ps hl) rfl rfl rfl ?_ ?_ ?_ rfl ?_;(focus (simp only [go_sem,simprocAttr];done));(focus (first|(intro p hp;exact az (aH.nd hR) hp)|(simp [go_sem,simprocAttr];done)));(focus (simp [go_sem,simprocAttr];done)))));try simp only [go_sem,simprocAttr])|((with_reducible refine oD ?_ ?_);kernel_rfl)|((with_reducible intro h);try simp only [go_sem,simprocAttr] at h)|omega|intro h)
 ·exact cT g ps
 ·exact bV hR
def yh (g:Gr) (x:Int):Bool:=decide (x<0)||decide (g.n≤x)
def q6 (g:Gr) (e:Edge):Bool:=yh g e.1||yh g e.2
def aX (g:Gr):Bool:=decide (0<g.n)&&decide (g.n≤64)&&decide ((g.es.length:Int)≤128)&& !g.es.any (q6 g)
def rG (g:Gr):AObj:= .rob [eN g.n, .d (sE g.es)]
theorem wT (g:Gr) (x:Int):Spec Tryz.prog 143 (Args [eN x, .ptr 10000 0]) [(10000,rG g)] (eB (yh g x)) [(10000,rG g)]:=by
 unfold rG
 (refine Spec.hd (C:=T.cfg [] []) (rs:= [.t 3]) (T.ah _ _) Tryz.func143 rfl rfl Tryz.ntmps143 Tryz.results143 (by simp [AObj.isNest]) (by simp [AObj.isNest]) (by kernel_rfl) T.mixed fun X hX hP hC aB bK=> ?_)
 repeat' (first|refine Rn.p ?_|(with_reducible apply And.intro)|((first|(refine hK _ ?_;clear hK K)|with_reducible intro K hK|refine Rs.p ?_|((with_reducible first|apply oP|apply oQ);exact rfl)|(first|(refine au hX hC hP hR (bT hR _ _ g hf ps hl) rfl rfl rfl ?_ ?_ rfl rfl ?_;(focus (simp only [go_sem,simprocAttr];done));(focus (first|(intro p hp;exact az (aH.nd hR) hp)|(simp [go_sem,simprocAttr];done))))|(refine au hX hC hP hR (bT hR _ _ g hf ps hl) rfl rfl rfl ?_ ?_ ?_ rfl ?_;(focus (simp only [go_sem,simprocAttr];done));(focus (first|(intro p hp;exact az (aH.nd hR) hp)|(simp [go_sem,simprocAttr];done)));(focus (simp [go_sem,simprocAttr];done)))));try simp only [go_sem,simprocAttr])|((with_reducible refine oD ?_ ?_);kernel_rfl)|((with_reducible intro h);try simp only [go_sem,simprocAttr] at h)|omega|intro h)
 ·simp [yh, *]
 ·simp [yh, *]
theorem IL (g:Gr):aH [(10000,rG g)]:=⟨by simp [rG,AObj.ro],by simp [nodupM,look],by simp,by simp [rG,AObj.ids,AV.ids,AV.idss,eN]⟩
def rF:AObj:= .rob [.fn 143 [] [.ptr 10000 0]]
attribute [go_sem] rG rF
theorem DX (g:Gr) (e:Edge):Spec Tryz.prog 145 (Args [eE e, .ptr 10001 0]) [(10001,rF),(10000,rG g)] (eB (q6 g e)) [(10001,rF),(10000,rG g)]:=by
 unfold rF rG
 (refine Spec.hd (C:=T.cfg [] []) (rs:= [.t 3]) (T.ah _ _) Tryz.func145 rfl rfl Tryz.ntmps145 Tryz.results145 (by simp [AObj.isNest]) (by simp [AObj.isNest]) (by kernel_rfl) T.mixed fun X hX hP hC aB bK=> ?_)
 repeat' (first|refine Rn.p ?_|(with_reducible apply And.intro)|((first|(refine hK _ ?_;clear hK K)|with_reducible intro K hK|refine Rs.p ?_|((with_reducible first|apply oP|apply oQ);exact rfl)|(first|(refine au hX hC hP (IL g) (wT g _) rfl rfl rfl ?_ ?_ rfl rfl ?_;(focus (simp only [go_sem,simprocAttr];done));(focus (first|(intro p hp;exact az (aH.nd (IL g)) hp)|(simp [go_sem,simprocAttr];done))))|(refine au hX hC hP (IL g) (wT g _) rfl rfl rfl ?_ ?_ ?_ rfl ?_;(focus (simp only [go_sem,simprocAttr];done));(focus (first|(intro p hp;exact az (aH.nd (IL g)) hp)|(simp [go_sem,simprocAttr];done)));(focus (simp [go_sem,simprocAttr];done)))));try simp only [go_sem,simprocAttr])|((with_reducible refine oD ?_ ?_);kernel_rfl)|((with_reducible intro h);try simp only [go_sem,simprocAttr] at h)|omega|intro h)
 ·simp [q6, *]
 ·simp [q6, *]
theorem QL (g:Gr):aH [(10001,rF),(10000,rG g)]:=⟨by simp [rG,rF,AObj.ro],by simp [nodupM,look],by simp,by simp [rG,rF,AObj.ids,AV.ids,AV.idss,eN,look]⟩
theorem iA (g:Gr) (hl:g.es.length≤9223372036854775807):Spec Tryz.prog 91 (Args [eG g]) [] (eB (aX g)) []:=by
 (refine Spec.hd (C:=T.cfg [] []) (rs:= [.t 2]) (T.ah _ _) Tryz.func91 rfl rfl Tryz.ntmps91 Tryz.results91 (by simp [AObj.isNest]) (by simp [AObj.isNest]) (by kernel_rfl) T.mixed fun X hX hP hC aB bK=> ?_)
 repeat' (first|refine Rn.p ?_|(with_reducible apply And.intro)|((first|(refine hK _ ?_;clear hK K)|with_reducible intro K hK|refine Rs.p ?_|((with_reducible first|apply oP|apply oQ);exact rfl)|(refine aP hX hC hP [(10000,1),(10001,3)] (oZ (QL g) _ _ (q6 g) (DX g) g.es hl) rfl rfl rfl ?_ ?_ ?_ ?_ ?_ ?_ rfl rfl ?_ ?_;(focus (simp only [go_sem,simprocAttr];done));(iterate 6 (focus (simp [go_sem,simprocAttr];done)));try simp only [List.map_cons,List.map_nil]));try simp only [go_sem,simprocAttr])|((with_reducible refine oD ?_ ?_);kernel_rfl)|((with_reducible intro h);try simp only [go_sem,simprocAttr] at h)|omega|intro h)
 all_goals simp [aX, *]
end Go.Ab
end
section
namespace Go.Ab
open Go.Proofs
attribute [local congr] ACall.congr gd.congr Nx.congr
set_option maxRecDepth 10000
def gw (l:List Int) (x:Int):Int:=bS (fun y=>decide (x=y)) l
def KI (l:List Edge) (x:Edge):Int:=bS (fun y=>decide (x=y)) l
theorem Gk (l:List Int) (x:Int):decide (0≤gw l x)=decide (x∈l):=by
 unfold gw;rw [cT,Bool.eq_iff_iff];simp
theorem Gl (l:List Edge) (x:Edge):decide (0≤KI l x)=decide (x∈l):=by
 unfold KI;rw [cT,Bool.eq_iff_iff];simp [-Prod.exists, -Prod.forall]
theorem jI (x y:Edge):(decide (x.1=y.1)&&decide (x.2=y.2))=decide (x=y):=by
 obtain ⟨a,b⟩:=x;obtain ⟨c,d⟩:=y
 rw [Bool.eq_iff_iff];simp
theorem aV (ps:List Int) (x:Int) (hl:ps.length≤9223372036854775807):
 Spec Tryz.prog 46 (Args [.d (sI ps),eN x]) [] (eN (gw ps x)) []:=by
 (refine Spec.hd (C:=T.cfg [] []) (rs:= [.t 4]) (T.ah _ _) Tryz.func46 rfl rfl Tryz.ntmps46 Tryz.results46 (by simp [AObj.isNest]) (by simp [AObj.isNest]) (by kernel_rfl) T.mixed fun X hX hP hC aB bK=> ?_)
 repeat' (first|refine Rn.p ?_|(with_reducible apply And.intro)|((first|(refine hK _ ?_;clear hK K)|with_reducible intro K hK|refine Rs.p ?_|((with_reducible first|apply oP|apply oQ);exact rfl));try simp only [go_sem,simprocAttr])|((with_reducible refine oD ?_ ?_);kernel_rfl)|((with_reducible intro h);try simp only [go_sem,simprocAttr] at h)|omega|intro h)
 refine ag (fun k:Nat=>k≤ps.length∧∀j,j<k→decide (x=ps.getD j 0)=false) (fun k=>⟨[(0, .d (sI ps)),(1,eN x),(7,eN ps.length),(8,eN k)], []⟩) (fun k=>ps.length - k) 0 (by simp) ?_ ?_
 ·(refine ⟨bD ?_,fun _ _ h=>h⟩;simp [go_sem,simprocAttr])
 rintro k ⟨hk,hg⟩
 repeat' (first|refine Rn.p ?_|(with_reducible apply And.intro)|((first|(refine hK _ ?_;clear hK K)|with_reducible intro K hK|refine Rs.p ?_|((with_reducible first|apply oP|apply oQ);exact rfl));try simp only [go_sem,simprocAttr])|((with_reducible refine oD ?_ ?_);kernel_rfl)|((with_reducible intro h);try simp only [go_sem,simprocAttr] at h)|omega|intro h)
 ·exact (bZ (by omega) hg (by simpa using h)).symm
 ·refine ⟨k+1,⟨by omega,fun j hj=> ?_⟩, ?_,by omega⟩
  ·by_cases hjk:j=k
   ·subst hjk;simpa using h
   ·simpa using hg j (by omega)
  ·(refine ⟨bD ?_,fun _ _ h=>h⟩;simp [go_sem,simprocAttr])
 ·exact (bA 0 fun j hj=>hg j (by omega)).symm
theorem bu (ps:List Int) (x:Int) (hl:ps.length≤9223372036854775807):
 Spec Tryz.prog 164 (Args [.d (sI ps),eN x]) [] (eB (decide (x∈ps))) []:=by
 rw [← Gk]
 (refine Spec.hd (C:=T.cfg [] []) (rs:= [.t 4]) (T.ah _ _) Tryz.func164 rfl rfl Tryz.ntmps164 Tryz.results164 (by simp [AObj.isNest]) (by simp [AObj.isNest]) (by kernel_rfl) T.mixed fun X hX hP hC aB bK=> ?_)
 repeat' (first|refine Rn.p ?_|(with_reducible apply And.intro)|((first|(refine hK _ ?_;clear hK K)|with_reducible intro K hK|refine Rs.p ?_|((with_reducible first|apply oP|apply oQ);exact rfl)|refine aa hX hC hP (aV ps x hl) rfl rfl rfl (by simp only [go_sem,simprocAttr]) rfl ?_);try simp only [go_sem,simprocAttr])|((with_reducible refine oD ?_ ?_);kernel_rfl)|((with_reducible intro h);try simp only [go_sem,simprocAttr] at h)|omega|intro h)
theorem zX (ps:List Edge) (x:Edge) (hl:ps.length≤9223372036854775807):
 Spec Tryz.prog 160 (Args [.d (sE ps),eE x]) [] (eN (KI ps x)) []:=by
 (refine Spec.hd (C:=T.cfg [] []) (rs:= [.t 4]) (T.ah _ _) Tryz.func160 rfl rfl Tryz.ntmps160 Tryz.results160 (by simp [AObj.isNest]) (by simp [AObj.isNest]) (by kernel_rfl) T.mixed fun X hX hP hC aB bK=> ?_)
 repeat' (first|refine Rn.p ?_|(with_reducible apply And.intro)|((first|(refine hK _ ?_;clear hK K)|with_reducible intro K hK|refine Rs.p ?_|((with_reducible first|apply oP|apply oQ);exact rfl));try simp only [go_sem,simprocAttr])|((with_reducible refine oD ?_ ?_);kernel_rfl)|((with_reducible intro h);try simp only [go_sem,simprocAttr] at h)|omega|intro h)
 refine ag (fun k:Nat=>k≤ps.length∧∀j,j<k→decide (x=ps.getD j (0,0))=false) (fun k=>⟨[(0, .d (sE ps)),(3, .ptr 3 0),(7,eN ps.length),(8,eN k)], [(3, .box [eN x.1,eN x.2])]⟩) (fun k=>ps.length - k) 0 (by simp) ?_ ?_
 ·(refine Le.of ?_ ?_<;>simp [go_sem,simprocAttr])
 rintro k ⟨hk,hg⟩
 repeat' (first|refine Rn.p ?_|(with_reducible apply And.intro)|((first|(refine hK _ ?_;clear hK K)|with_reducible intro K hK|refine Rs.p ?_|((with_reducible first|apply oP|apply oQ);exact rfl));try simp only [go_sem,simprocAttr,jI])|((with_reducible refine oD ?_ ?_);kernel_rfl)|((with_reducible intro h);try simp only [go_sem,simprocAttr,jI] at h)|omega|intro h)
 ·exact (bZ (d:=(0,0)) (by omega) hg (by simpa using h)).symm
 ·refine ⟨k+1,⟨by omega,fun j hj=> ?_⟩, ?_,by omega⟩
  ·by_cases hjk:j=k
   ·subst hjk;exact h
   ·simpa using hg j (by omega)
  ·(refine Le.of ?_ ?_<;>simp [go_sem,simprocAttr,jI])
 ·exact (bA (0,0) fun j hj=>hg j (by omega)).symm
theorem eO (ps:List Edge) (x:Edge) (hl:ps.length≤9223372036854775807):
 Spec Tryz.prog 113 (Args [.d (sE ps),eE x]) [] (eB (decide (x∈ps))) []:=by
 rw [← Gl]
 (refine Spec.hd (C:=T.cfg [] []) (rs:= [.t 4]) (T.ah _ _) Tryz.func113 rfl rfl Tryz.ntmps113 Tryz.results113 (by simp [AObj.isNest]) (by simp [AObj.isNest]) (by kernel_rfl) T.mixed fun X hX hP hC aB bK=> ?_)
 repeat' (first|refine Rn.p ?_|(with_reducible apply And.intro)|((first|(refine hK _ ?_;clear hK K)|with_reducible intro K hK|refine Rs.p ?_|((with_reducible first|apply oP|apply oQ);exact rfl)|refine aa hX hC hP (zX ps x hl) rfl rfl rfl (by simp only [go_sem,simprocAttr,jI]) rfl ?_);try simp only [go_sem,simprocAttr,jI])|((with_reducible refine oD ?_ ?_);kernel_rfl)|((with_reducible intro h);try simp only [go_sem,simprocAttr,jI] at h)|omega|intro h)
theorem mL (ps:List Edge) (hl:ps.length≤1000000):
 Spec Tryz.prog 92 (Args [.d (sE ps)]) [] (.d (sE ps)) []:=by
 (refine Spec.hd (C:=T.cfg [] []) (rs:= [.t 2]) (T.ah _ _) Tryz.func92 rfl rfl Tryz.ntmps92 Tryz.results92 (by simp [AObj.isNest]) (by simp [AObj.isNest]) (by kernel_rfl) T.mixed fun X hX hP hC aB bK=> ?_)
 repeat' (first|refine Rn.p ?_|(with_reducible apply And.intro)|((first|(refine hK _ ?_;clear hK K)|with_reducible intro K hK|refine Rs.p ?_|((with_reducible first|apply oP|apply oQ);exact rfl));try simp only [go_sem,simprocAttr])|((with_reducible refine oD ?_ ?_);kernel_rfl)|((with_reducible intro h);try simp only [go_sem,simprocAttr] at h)|omega|intro h)
 exact h.symm
theorem sq (ps:List Int) (hl:ps.length≤1000000):
 Spec Tryz.prog 44 (Args [.d (sI ps)]) [] (.d (sI ps)) []:=by
 (refine Spec.hd (C:=T.cfg [] []) (rs:= [.t 2]) (T.ah _ _) Tryz.func44 rfl rfl Tryz.ntmps44 Tryz.results44 (by simp [AObj.isNest]) (by simp [AObj.isNest]) (by kernel_rfl) T.mixed fun X hX hP hC aB bK=> ?_)
 repeat' (first|refine Rn.p ?_|(with_reducible apply And.intro)|((first|(refine hK _ ?_;clear hK K)|with_reducible intro K hK|refine Rs.p ?_|((with_reducible first|apply oP|apply oQ);exact rfl));try simp only [go_sem,simprocAttr])|((with_reducible refine oD ?_ ?_);kernel_rfl)|((with_reducible intro h);try simp only [go_sem,simprocAttr] at h)|omega|intro h)
 exact h.symm
theorem DY {α:Type} {xs ys:List α} (d:α) {k:Nat} (h1:k<xs.length) (h2:k<ys.length) (h:xs.take k=ys.take k) (he:xs.getD k d=ys.getD k d):xs.take (k+1)=ys.take (k+1):=by
 rw [List.take_add_one,List.take_add_one,h,List.getElem?_eq_getElem h1,List.getElem?_eq_getElem h2]
 simp only [List.getD_eq_getElem?_getD,List.getElem?_eq_getElem h1,List.getElem?_eq_getElem h2,Option.getD_some] at he
 rw [he]
theorem jm {α:Type} {f:α→Bool} {xs:List α} (d:α) {k:Nat} (h1:k<xs.length) (h:(xs.take k).any f=false) (he:f (xs.getD k d)=false):(xs.take (k+1)).any f=false:=by
 rw [List.take_add_one,List.any_append,h,List.getElem?_eq_getElem h1]
 simp only [List.getD_eq_getElem?_getD,List.getElem?_eq_getElem h1,Option.getD_some] at he
 simp [he]
theorem mM {α:Type} {f:α→Bool} {xs:List α} {d:α} {k:Nat} (h1:k<xs.length) (he:f (xs.getD k d)=true):xs.any f=true:=by
 rw [List.any_eq_true]
 refine ⟨_,List.getElem_mem h1, ?_⟩
 simpa only [List.getD_eq_getElem?_getD,List.getElem?_eq_getElem h1,Option.getD_some] using he
theorem zY {g:Gr} {k:Nat} (h1:k<g.es.length) (he:q6 g (g.es.getD k (0,0))=true):false=aX g:=by
 simp [aX,mM h1 he]
theorem dQ (g:Gr) (hl:g.es.length≤9223372036854775807):Spec Tryz.prog 49 (Args [eG g]) [] (eB (aX g)) []:=by
 (refine Spec.hd (C:=T.cfg [] []) (rs:= [.t 2]) (T.ah _ _) Tryz.func49 rfl rfl Tryz.ntmps49 Tryz.results49 (by simp [AObj.isNest]) (by simp [AObj.isNest]) (by kernel_rfl) T.mixed fun X hX hP hC aB bK=> ?_)
 repeat' (first|refine Rn.p ?_|(with_reducible apply And.intro)|((first|(refine hK _ ?_;clear hK K)|with_reducible intro K hK|refine Rs.p ?_|((with_reducible first|apply oP|apply oQ);exact rfl));try simp only [go_sem,simprocAttr])|((with_reducible refine oD ?_ ?_);kernel_rfl)|((with_reducible intro h);try simp only [go_sem,simprocAttr] at h)|omega|intro h)
 any_goals (simp [aX];omega)
 refine ag (fun k:Nat=>k≤g.es.length∧(g.es.take k).any (q6 g)=false) (fun k=>⟨[(1, .ptr 1 0),(3,eN k)], [(1, .box [eN g.n, .d (sE g.es)])]⟩) (fun k=>g.es.length - k) 0 (by simp) ?_ ?_
 ·(refine Le.of ?_ ?_<;>simp [go_sem,simprocAttr])
 rintro k ⟨hk,hp⟩
 repeat' (first|refine Rn.p ?_|(with_reducible apply And.intro)|((first|(refine hK _ ?_;clear hK K)|with_reducible intro K hK|refine Rs.p ?_|((with_reducible first|apply oP|apply oQ);exact rfl));try simp only [go_sem,simprocAttr])|((with_reducible refine oD ?_ ?_);kernel_rfl)|((with_reducible intro h);try simp only [go_sem,simprocAttr] at h)|omega|intro h)
 any_goals (refine zY (k:=k) (by omega) ?_;simp only [q6,yh,Bool.or_eq_true,decide_eq_true_eq];omega)
 ·refine ⟨k+1,⟨by omega,jm (0,0) (by omega) hp ?_⟩, ?_,by omega⟩
  ·simp only [q6,yh,Bool.or_eq_false_iff,decide_eq_false_iff_not];omega
  ·(refine Le.of ?_ ?_<;>simp [go_sem,simprocAttr])
 ·rw [List.take_of_length_le (by omega)] at hp
  simp [aX,hp];omega
end Go.Ab
end
section
namespace Go.Ab
open Go.Proofs
attribute [local congr] ACall.congr gd.congr Nx.congr
set_option maxRecDepth 10000
set_option maxHeartbeats 8000000
def fD (f:Edge→Int) (es:List Edge) (k:Nat) (x:Nat):List Int:=((List.range k).filter fun i=>decide (f (es.getD i (0,0))=(x:Int))).map Int.ofNat
def ox (f:Edge→Int) (es:List Edge) (n k:Nat):List (List (List D)):=(List.range n).map fun x=>(fD f es k x).map rI
def sL (ls:List (List Int)):D:= .sl 1 (ls.map fun l=> [sI l])
def eR (f:Edge→Int) (g:Gr):List (List Int):=(List.range g.n.toNat).map (fD f g.es g.es.length)
def vw (g:Gr):D:= .pt [.sc (.int .i64 g.n),sE g.es,sL (eR (·.1) g),sL (eR (·.2) g)]
theorem bF {g:Gr} (h:aX g=true):0<g.n∧g.n≤64∧g.es.length≤128:=by
 simp [aX] at h;omega
theorem dX {g:Gr} (h:aX g=true) {k:Nat} (hk:k<g.es.length):(0≤(g.es.getD k (0,0)).1∧(g.es.getD k (0,0)).1<g.n)∧(0≤(g.es.getD k (0,0)).2∧(g.es.getD k (0,0)).2<g.n):=by
 have h2:=zY (g:=g) hk
 rw [h] at h2
 have h3:¬q6 g (g.es.getD k (0,0))=true:=fun e=>by simpa using h2 e
 simp only [q6,yh,Bool.or_eq_true,decide_eq_true_eq] at h3
 omega
theorem cr {f:Edge→Int} {es:List Edge} {n k:Nat} :(ox f es n k).length=n:=by simp [ox]
theorem ko {f:Edge→Int} {es:List Edge} {n k x:Nat} (hx:x<n):(ox f es n k)[x]? =some ((fD f es k x).map rI):=by
 simp [ox,List.getElem?_range hx]
theorem jc {f:Edge→Int} {es:List Edge} {k x:Nat} :(fD f es k x).length≤k:=by
 simpa [fD] using List.length_filter_le (fun i=>decide (f (es.getD i (0,0))=(x:Int))) (List.range k)
theorem Bw {f:Edge→Int} {es:List Edge} {k x:Nat} :fD f es (k+1) x=fD f es k x++if f (es.getD k (0,0))=(x:Int) then [(k:Int)] else []:=by
 simp only [fD,List.range_succ,List.filter_append,List.map_append,List.filter_cons,List.filter_nil]
 split<;>simp_all
theorem uF {f:Edge→Int} {es:List Edge} {n k:Nat} (h0:0≤f (es.getD k (0,0))):
 (ox f es n k).set (f (es.getD k (0,0))).toNat ((fD f es k (f (es.getD k (0,0))).toNat).map rI++ [[.sc (.int .i64 k)]])=ox f es n (k+1):=by
 refine List.ext_getElem? fun i=> ?_
 rw [List.getElem?_set,cr]
 by_cases hi:i<n
 ·rw [ko hi,ko hi,Bw]
  generalize f (es.getD k (0,0))=e at*
  by_cases hq:e=(i:Int)
  ·subst hq;simp [hi,rI]
  ·have:¬e.toNat=i:=by omega
   simp [hq,this]
 ·rw [List.getElem?_eq_none (by rw [cr];omega),List.getElem?_eq_none (by rw [cr];omega)]
  generalize f (es.getD k (0,0))=e at*
  split
  ·rename_i hq;rw [if_neg (by omega)]
  ·rfl
theorem uG {f:Edge→Int} {es:List Edge} {n:Nat} :List.replicate n []=ox f es n 0:=by
 refine List.ext_getElem? fun i=> ?_
 by_cases hi:i<n
 ·rw [ko hi];simp [hi,fD]
 ·rw [List.getElem?_eq_none (by simp;omega),List.getElem?_eq_none (by rw [cr];omega)]
theorem iT (g:Gr) (hm:aX g=true):Spec Tryz.prog 40 (Args [eG g]) [] (.d (vw g)) []:=by
 have hn:=bF hm
 have hl:g.es.length≤9223372036854775807:=by omega
 have hl':g.es.length≤1000000:=by omega
 (refine Spec.hd (C:=T.cfg [] [13,16]) (rs:= [.t 2]) (T.ah _ _) Tryz.func40 rfl rfl Tryz.ntmps40 Tryz.results40 (by simp [AObj.isNest]) (by simp [AObj.isNest]) (by kernel_rfl) T.mixed fun X hX hP hC aB bK=> ?_)
 repeat' (first|refine Rn.p ?_|(with_reducible apply And.intro)|((first|(refine hK _ ?_;clear hK K)|with_reducible intro K hK|refine Rs.p ?_|((with_reducible first|apply oP|apply oQ);exact rfl)|refine aa hX hC hP (iA g hl) rfl rfl rfl (by simp only [go_sem,simprocAttr,hm]) rfl ?_|refine aa hX hC hP (mL g.es hl') rfl rfl rfl (by simp only [go_sem,simprocAttr,hm]) rfl ?_);try simp only [go_sem,simprocAttr,hm])|((with_reducible refine oD ?_ ?_);kernel_rfl)|((with_reducible intro h);try simp only [go_sem,simprocAttr,hm] at h)|omega|intro h)
 refine zR hX 13 (by simp [go_sem,simprocAttr,hm];exact ⟨rfl,rfl,rfl,rfl⟩) (by decide) (by simp [go_sem,simprocAttr,hm]) (by simp [go_sem,simprocAttr,hm]) ?_
 refine zR hX 16 (by simp [go_sem,simprocAttr,hm];exact ⟨rfl,rfl,rfl,rfl⟩) (by decide) (by simp [go_sem,simprocAttr,hm]) (by simp [go_sem,simprocAttr,hm]) ?_
 simp only [go_sem,simprocAttr,hm]
 refine ag (fun k:Nat=>k≤g.es.length) (fun k=>⟨[(29,eN k),(28,eN g.es.length),(27, .d (sE g.es)),(3, .ptr 18 0)], [(18, .box [eN g.n, .d (sE g.es), .ref 13, .ref 16]),(16, .nest 25 3 1 (ox (·.2) g.es g.n.toNat k) none),(13, .nest 25 3 1 (ox (·.1) g.es g.n.toNat k) none)]⟩) (fun k=>g.es.length - k) 0 (by simp) ?_ ?_
 ·refine Le.of ?_ ?_<;>simp [go_sem,simprocAttr,hm]
  exact ⟨uG,uG⟩
 rintro k hk
 rcases Nat.lt_or_ge k g.es.length with hlt|hge
 ·have hb:decide ((k:Int)<(g.es.length:Int))=true:=decide_eq_true (by omega)
  obtain ⟨vR,zx⟩:=dX hm hlt
  have hg1:=ko (f:=(·.1)) (es:=g.es) (k:=k) (show (g.es.getD k (0,0)).1.toNat<g.n.toNat by omega)
  have hg2:=ko (f:=(·.2)) (es:=g.es) (k:=k) (show (g.es.getD k (0,0)).2.toNat<g.n.toNat by omega)
  have QM:=jc (f:=(·.1)) (es:=g.es) (k:=k) (x:=(g.es.getD k (0,0)).1.toNat)
  have TC:=jc (f:=(·.2)) (es:=g.es) (k:=k) (x:=(g.es.getD k (0,0)).2.toNat)
  repeat' (first|refine Rn.p ?_|(with_reducible apply And.intro)|((first|(refine hK _ ?_;clear hK K)|with_reducible intro K hK|refine Rs.p ?_|((with_reducible first|apply oP|apply oQ);exact rfl)|refine aa hX hC hP (iA g hl) rfl rfl rfl (by simp only [go_sem,simprocAttr,hm,hb,hg1,hg2,cr]) rfl ?_|refine aa hX hC hP (mL g.es hl') rfl rfl rfl (by simp only [go_sem,simprocAttr,hm,hb,hg1,hg2,cr]) rfl ?_);try simp only [go_sem,simprocAttr,hm,hb,hg1,hg2,cr])|((with_reducible refine oD ?_ ?_);first|(focus (simp only [s9,nE,iL,meets,uh,oW,DO,dP,p7,ow,Rec.rs,Rec.qQ,Rec.JD,gu,Rec.dL,Rec.names,KV.ids,F7,F8,F9,Ga,Gb,Gc,List.zip_cons_cons,List.zip_nil_right,List.zipIdx_cons,List.zipIdx_nil,List.all_cons,List.all_nil,List.contains_cons,List.contains_nil,List.any_cons,List.any_nil,List.flatMap_nil,List.reverse_cons,List.reverse_nil,jY,DN,Region.binds,go_sem,simprocAttr,hm,hb,hg1,hg2,cr];done))|kernel_rfl)|((with_reducible intro h);try simp only [go_sem,simprocAttr,hm,hb,hg1,hg2,cr] at h)|omega|intro h)
  refine ⟨k+1,by omega, ?_,by omega⟩
  refine Le.of ?_ ?_<;>simp [go_sem,simprocAttr,hm,hb,hg1,hg2,cr]
  exact ⟨uF (f:=(·.2)) zx.1,uF (f:=(·.1)) vR.1⟩
 ·repeat' (first|refine Rn.p ?_|(with_reducible apply And.intro)|((first|(refine hK _ ?_;clear hK K)|with_reducible intro K hK|refine Rs.p ?_|((with_reducible first|apply oP|apply oQ);exact rfl)|refine aa hX hC hP (iA g hl) rfl rfl rfl (by simp only [go_sem,simprocAttr]) rfl ?_|refine aa hX hC hP (mL g.es hl') rfl rfl rfl (by simp only [go_sem,simprocAttr]) rfl ?_);try simp only [go_sem,simprocAttr])|((with_reducible refine oD ?_ ?_);first|(focus (simp only [s9,nE,iL,meets,uh,oW,DO,dP,p7,ow,Rec.rs,Rec.qQ,Rec.JD,gu,Rec.dL,Rec.names,KV.ids,F7,F8,F9,Ga,Gb,Gc,List.zip_cons_cons,List.zip_nil_right,List.zipIdx_cons,List.zipIdx_nil,List.all_cons,List.all_nil,List.contains_cons,List.contains_nil,List.any_cons,List.any_nil,List.flatMap_nil,List.reverse_cons,List.reverse_nil,jY,DN,Region.binds,go_sem,simprocAttr];done))|kernel_rfl)|((with_reducible intro h);try simp only [go_sem,simprocAttr] at h)|omega|intro h)
  have:k=g.es.length:=by omega
  subst this
  simp only [vw,sE,sL,eR,ox,List.map_map]
  rfl
end Go.Ab
end
section
namespace Go.Ab
open Go.Proofs
attribute [local congr] ACall.congr gd.congr Nx.congr
set_option maxRecDepth 10000
def tl (g:Gr) (i:Nat):Int:=(g.es.getD i (0,0)).1
def hd (g:Gr) (i:Nat):Int:=(g.es.getD i (0,0)).2
def wt (g:Gr) (out:List Int) (y:Nat):Int:=
 if (y:Int)∈out then -1 else (((List.range g.es.length).countP fun i=>decide (hd g i=(y:Int))&& !decide (tl g i∈out):Nat):Int)
def cW (g:Gr) (out:List Int):List Int:=(List.range g.n.toNat).map (wt g out)
def vZ (g:Gr):Nat→List Int→List Int
 |0,out=>out
 |f+1,out=>if gw (cW g out) 0<0 then out else vZ g f (out++ [gw (cW g out) 0])
def aO (g:Gr):List Int:=vZ g g.n.toNat []
structure fq (g:Gr) (out:List Int):Prop where
 lo:∀x∈out,0≤x∧x<g.n
 back:∀i,i<g.es.length→hd g i∈out→tl g i∈out
 fuel:out.length+(List.range g.n.toNat).countP (fun y:Nat=> !decide ((y:Int)∈out))=g.n.toNat
theorem gT {α:Type} {f:α→Bool} {l:List α} (d:α):bS f l= -1∧(∀x∈l,f x=false)∨∃k:Nat,bS f l=k∧k<l.length∧f (l.getD k d)=true∧∀j,j<k→f (l.getD j d)=false:=by
 cases h:l.findIdx? f with
 |none=>
  rw [List.findIdx?_eq_none_iff] at h
  exact .inl ⟨by simp [bS,List.findIdx?_eq_none_iff.2 h],h⟩
 |some i=>
  obtain ⟨hi,hg,hb⟩:=List.findIdx?_eq_some_iff_getElem.1 h
  refine .inr ⟨i,by simp [bS,h],hi,by simpa [List.getD_eq_getElem?_getD,List.getElem?_eq_getElem hi] using hg,fun j hj=> ?_⟩
  have hjl:j<l.length:=by omega
  have:=hb j hj
  simpa [List.getD_eq_getElem?_getD,List.getElem?_eq_getElem hjl] using this
theorem wts_length {g:Gr} {out:List Int} :(cW g out).length=g.n.toNat:=by simp [cW]
theorem mN {g:Gr} {out:List Int} {y:Nat} (h:y<g.n.toNat) (d:Int):(cW g out).getD y d=wt g out y:=by
 simp [cW,List.getD_eq_getElem?_getD,List.getElem?_range h]
theorem mO {p:Nat→Bool} {x:Nat} (hx:p x=true):∀ {n:Nat},x<n→(List.range n).countP (fun y=>p y&& !decide (y=x))+1=(List.range n).countP p
 |0,h=>by omega
 |n+1,h=>by
  rw [List.range_succ,List.countP_append,List.countP_append]
  by_cases HZ:x=n
  ·subst HZ
   have:(List.range x).countP (fun y=>p y&& !decide (y=x))=(List.range x).countP p:=by
    refine List.countP_congr fun y hy=> ?_
    have:y≠x:=by have:=List.mem_range.1 hy;omega
    simp [this]
   rw [this]
   simp [List.countP_cons,hx]
  ·have:=mO hx (n:=n) (by omega)
   have hn:n≠x:=fun e=>HZ e.symm
   simp only [List.countP_cons,List.countP_nil,hn,decide_false,Bool.not_false,Bool.and_true]
   omega
theorem fq.nil (g:Gr):fq g []:=⟨by simp,by simp,by rw [List.countP_eq_length_filter,List.filter_eq_self.2 (by simp)];simp⟩
theorem fq.next {g:Gr} (hm:aX g=true) {out:List Int} (h:fq g out) {x:Nat} (hx:x<g.n.toNat) (hw:wt g out x=0):fq g (out++ [(x:Int)])∧(x:Int)∉out∧(∀i,i<g.es.length→hd g i=x→tl g i∈out):=by
 have qV:(x:Int)∉out:=fun hi=>by simp [wt,hi] at hw
 have hb:∀i,i<g.es.length→hd g i=x→tl g i∈out:=by
  intro i hi he
  simp only [wt,qV,if_false] at hw
  have:=List.countP_eq_zero.1 (Int.ofNat.inj hw) i (List.mem_range.2 hi)
  simpa [he] using this
 refine ⟨⟨?_, ?_, ?_⟩,qV,hb⟩
 ·intro y hy
  rcases List.mem_append.1 hy with hy|hy
  ·exact h.lo y hy
  ·simp at hy;omega
 ·intro i hi hh
  rcases List.mem_append.1 hh with hh|hh
  ·exact List.mem_append_left _ (h.back i hi hh)
  ·simp at hh
   exact List.mem_append_left _ (hb i hi hh)
 ·have h1:=h.fuel
  have h2:=mO (p:=fun y:Nat=> !decide ((y:Int)∈out)) (x:=x) (by simp [qV]) hx
  have h3:(List.range g.n.toNat).countP (fun y:Nat=> !decide ((y:Int)∈out++ [(x:Int)]))=(List.range g.n.toNat).countP (fun y:Nat=>(!decide ((y:Int)∈out))&& !decide (y=x)):=by
   refine List.countP_congr fun y _=> ?_
   simp;omega
  rw [h3,List.length_append,List.length_singleton]
  omega
def jJ (g:Gr) (x:Nat):List Int:=fD (·.1) g.es g.es.length x
def kT (g:Gr) (x:Nat):List Int:=fD (·.2) g.es g.es.length x
theorem Gm {g:Gr} {x:Nat} {e:Int} (h:e∈jJ g x):∃i:Nat,e=i∧i<g.es.length∧tl g i=x:=by
 simp only [jJ,fD,List.mem_map,List.mem_filter,List.mem_range,decide_eq_true_eq] at h
 obtain ⟨i,⟨h1,h2⟩,rfl⟩:=h
 exact ⟨i,rfl,h1,h2⟩
def Fb (g:Gr) (out:List Int) (x j y:Nat):Int:=
 if (y:Int)∈out++ [(x:Int)] then -1 else (((List.range g.es.length).countP fun i=>decide (hd g i=(y:Int))&& !decide (tl g i∈out):Nat):Int) - (((jJ g x).take j).countP fun e=>decide (hd g e.toNat=(y:Int)):Nat)
def v7 (g:Gr) (out:List Int) (x j:Nat):List Int:=(List.range g.n.toNat).map (Fb g out x j)
theorem wtps_length {g:Gr} {out:List Int} {x j:Nat} :(v7 g out x j).length=g.n.toNat:=by simp [v7]
theorem qe {g:Gr} {out:List Int} {x j y:Nat} (h:y<g.n.toNat):(v7 g out x j)[y]? =some (Fb g out x j y):=by
 simp [v7,List.getElem?_range h]
theorem lD {g:Gr} {out:List Int} {y:Nat} (h:y<g.n.toNat):(cW g out)[y]? =some (wt g out y):=by
 simp [cW,List.getElem?_range h]
theorem DZ {g:Gr} {out:List Int} {x:Nat} :(cW g out).set x (-1)=v7 g out x 0:=by
 refine List.ext_getElem? fun i=> ?_
 rw [List.getElem?_set,wts_length]
 by_cases hi:i<g.n.toNat
 ·rw [lD hi,qe hi]
  by_cases hx:x=i
  ·subst hx;simp [hi,Fb]
  ·have:¬i=x:=fun e=>hx e.symm
   simp only [hx,if_false,Fb,wt,List.mem_append,List.mem_singleton,List.take_zero,List.countP_nil]
   have h2:¬(i:Int)=(x:Int):=by omega
   simp [h2]
 ·rw [List.getElem?_eq_none (by rw [wts_length];omega),List.getElem?_eq_none (by rw [wtps_length];omega)]
  split
  ·rw [if_neg (by omega)]
  ·rfl
theorem lE {α:Type} {p q r:α→Bool} :∀ {l:List α},(∀a∈l,p a=(q a||r a)∧(q a&&r a)=false)→l.countP p=l.countP q+l.countP r
 | [],_=>rfl
 |a::l,h=>by
  obtain ⟨h1,h2⟩:=h a List.mem_cons_self
  have:=lE (l:=l) fun b hb=>h b (List.mem_cons_of_mem _ hb)
  simp only [List.countP_cons,this,h1]
  cases hq:q a<;>cases hr:r a<;>simp [hq,hr] at h2 ⊢ <;>omega
theorem Gn {g:Gr} {out:List Int} {x j:Nat} (hx:(x:Int)∉out) (hj:(jJ g x).length≤j):v7 g out x j=cW g (out++ [(x:Int)]):=by
 refine List.map_congr_left fun y _=> ?_
 simp only [Fb,wt]
 split
 ·rfl
 ·rw [List.take_of_length_le hj]
  have h1:(jJ g x).countP (fun e=>decide (hd g e.toNat=(y:Int)))=(List.range g.es.length).countP (fun i=>decide (hd g i=(y:Int))&&decide (tl g i=(x:Int))):=by
   simp only [jJ,fD,List.countP_map,List.countP_filter]
   exact List.countP_congr fun i _=>by simp [tl]
  have h2:=lE (p:=fun i=>decide (hd g i=(y:Int))&& !decide (tl g i∈out)) (q:=fun i=>decide (hd g i=(y:Int))&& !decide (tl g i∈out++ [(x:Int)])) (r:=fun i=>decide (hd g i=(y:Int))&&decide (tl g i=(x:Int))) (l:=List.range g.es.length) (fun i _=>by
   by_cases h3:tl g i=x
   ·simp [h3,hx]
   ·simp [h3])
  rw [h1,h2];omega
theorem KJ {g:Gr} {out:List Int} {x:Nat} (hP:fq g out) (qV:(x:Int)∉out) (hb:∀i,i<g.es.length→hd g i=x→tl g i∈out) {i:Nat} (hi:i<g.es.length) (ht:tl g i=x):hd g i∉out++ [(x:Int)]:=by
 intro h
 rcases List.mem_append.1 h with h|h
 ·exact qV (ht ▸ hP.back i hi h)
 ·simp at h
  exact qV (ht ▸ hb i hi h)
theorem D3 {g:Gr} {out:List Int} {x j i:Nat} (hj:(jJ g x)[j]? =some (i:Int)) (h0:0≤hd g i) (hn:hd g i∉out++ [(x:Int)]):
 (v7 g out x j).set (hd g i).toNat (Fb g out x j (hd g i).toNat - 1)=v7 g out x (j+1):=by
 refine List.ext_getElem? fun y=> ?_
 rw [List.getElem?_set,wtps_length]
 by_cases hy:y<g.n.toNat
 ·rw [qe hy,qe hy]
  have ht:((jJ g x).take (j+1)).countP (fun e=>decide (hd g e.toNat=(y:Int)))=((jJ g x).take j).countP (fun e=>decide (hd g e.toNat=(y:Int)))+if hd g i=(y:Int) then 1 else 0:=by
   rw [List.take_add_one,List.countP_append,hj]
   simp [List.countP_cons]
  by_cases hq:(hd g i).toNat=y
  ·subst hq
   have he:((hd g i).toNat:Int)=hd g i:=by omega
   rw [if_pos rfl,if_pos (by assumption)]
   rw [he,if_pos rfl] at ht
   simp only [Fb,he,hn,if_false,ht]
   congr 1;omega
  ·rw [if_neg hq]
   have lZ:¬hd g i=(y:Int):=by omega
   simp only [Fb,ht,lZ,if_false,Nat.add_zero]
 ·rw [List.getElem?_eq_none (by rw [wtps_length];omega),List.getElem?_eq_none (by rw [wtps_length];omega)]
  split
  ·rw [if_neg (by omega)]
  ·rfl
def H6 (f:Edge→Int) (g:Gr):List (List D):=(eR f g).map fun l=> [sI l]
theorem mP {f:Edge→Int} {g:Gr} {x:Nat} (h:x<g.n.toNat) (d:List D):(H6 f g).getD x d= [sI (fD f g.es g.es.length x)]:=by
 simp [H6,eR,List.getD_eq_getElem?_getD,List.getElem?_range h]
theorem vwl_length {f:Edge→Int} {g:Gr} :(H6 f g).length=g.n.toNat:=by simp [H6,eR]
def LZ (g:Gr):D:= .pt [.sc (.int .i64 g.n),sE g.es, .sl 1 (H6 (·.1) g), .sl 1 (H6 (·.2) g)]
theorem aA (g:Gr):vw g=LZ g:=rfl
attribute [go_sem] LZ wtps_length wts_length vwl_length
theorem Gp {g:Gr} {k:Nat} (h:k<g.n.toNat):(cW g []).take (k+1)=(cW g []).take k++ [((kT g k).length:Int)]:=by
 rw [List.take_add_one,lD h]
 simp [wt,kT,fD,hd,List.countP_eq_length_filter]
theorem D4 {g:Gr} (hm:aX g=true) {out:List Int} {x j y:Nat} : -1000≤Fb g out x j y∧Fb g out x j y≤1000:=by
 have hn:=bF hm
 have h1:=List.countP_le_length (p:=fun i=>decide (hd g i=(y:Int))&& !decide (tl g i∈out)) (l:=List.range g.es.length)
 have h2:=List.countP_le_length (p:=fun e:Int=>decide (hd g e.toNat=(y:Int))) (l:=(jJ g x).take j)
 have h3:((jJ g x).take j).length≤g.es.length:=Nat.le_trans (List.length_take_le' _ _) jc
 simp only [List.length_range] at h1
 unfold Fb
 split<;>omega
theorem zZ {g:Gr} {out:List Int} (h:gw (cW g out) 0<0):∀f,vZ g f out=out
 |0=>rfl
 |f+1=>by simp [vZ,h]
def left (g:Gr) (out:List Int):Nat:=(List.range g.n.toNat).countP (fun y:Nat=> !decide ((y:Int)∈out))
theorem wU {g:Gr} {out:List Int} {x:Nat} (h:fq g out) (h':fq g (out++ [(x:Int)])):left g out=left g (out++ [(x:Int)])+1:=by
 have h1:=h.fuel
 have h2:=h'.fuel
 rw [List.length_append,List.length_singleton] at h2
 unfold left;omega
theorem NA {g:Gr} (out:List Int):gw (cW g out) 0= -1∨∃x:Nat,gw (cW g out) 0=x∧x<g.n.toNat∧wt g out x=0:=by
 rcases gT (f:=fun y:Int=>decide (0=y)) (l:=cW g out) 0 with ⟨h,_⟩|⟨k,h1,h2,h3,_⟩
 ·exact .inl h
 ·rw [wts_length] at h2
  rw [mN h2] at h3
  exact .inr ⟨k,h1,h2,by simpa using (of_decide_eq_true h3).symm⟩
theorem kq (g:Gr) (hm:aX g=true):Spec Tryz.prog 161 (Args [.d (vw g)]) [] (.tup [.d (sI (aO g)), .d (sI (cW g (aO g)))]) []:=by
 rw [aA]
 have hn:=bF hm
 (refine Spec.hd (C:=T.cfg [22] []) (rs:= [.t 2, .t 3]) (T.ah _ _) Tryz.func161 rfl rfl Tryz.ntmps161 Tryz.results161 (by simp [AObj.isNest]) (by simp [AObj.isNest]) (by kernel_rfl) T.mixed fun X hX hP hC aB bK=> ?_)
 repeat' (first|refine Rn.p ?_|(with_reducible apply And.intro)|((first|(refine hK _ ?_;clear hK K)|with_reducible intro K hK|refine Rs.p ?_|((with_reducible first|apply oP|apply oQ);exact rfl)|(refine ai hX hC hP (aV (cW g out) 0 CV) rfl rfl rfl ?_ ?_ ?_ ?_;iterate 3 (focus (simp only [go_sem,simprocAttr];done))));try simp only [go_sem,simprocAttr])|((with_reducible refine oD ?_ ?_);kernel_rfl)|((with_reducible intro h);try simp only [go_sem,simprocAttr] at h)|omega|intro h)
 (refine gv hX 3 22 (.own 3 1 []) (by simp only [go_sem,simprocAttr]) (by simp only [go_sem,simprocAttr]) (by decide) ⟨3,1,by decide, .inl rfl⟩ ?_;simp only [go_sem,simprocAttr])
 refine ag (fun k:Nat=>k≤g.n.toNat) (fun k=>⟨[(14,eN k),(13,eN g.n.toNat),(12, .d (.sl 1 (H6 (·.2) g))),(3, .ref 22),(2, .nil 3),(0, .d (LZ g))], [(22, .own 3 1 (((cW g []).take k).map rI))]⟩) (fun k=>g.n.toNat - k) 0 (by simp) ?_ ?_
 ·(refine Le.of ?_ ?_<;>simp [go_sem,simprocAttr])
 ·rintro k hk
  rcases Nat.lt_or_ge k g.n.toNat with hlt|hge
  ·have hb:decide ((k:Int)<(g.n.toNat:Int))=true:=decide_eq_true (by omega)
   have hv:=mP (f:=(·.2)) hlt
   have QM:(kT g k).length≤g.es.length:=jc
   have hlt':((cW g []).take k).length≤64:=by rw [List.length_take,wts_length];omega
   repeat' (first|refine Rn.p ?_|(with_reducible apply And.intro)|((first|(refine hK _ ?_;clear hK K)|with_reducible intro K hK|refine Rs.p ?_|((with_reducible first|apply oP|apply oQ);exact rfl)|(refine ai hX hC hP (aV (cW g out) 0 CV) rfl rfl rfl ?_ ?_ ?_ ?_;iterate 3 (focus (simp only [go_sem,simprocAttr,hb,hv];done))));try simp only [go_sem,simprocAttr,hb,hv])|((with_reducible refine oD ?_ ?_);kernel_rfl)|((with_reducible intro h);try simp only [go_sem,simprocAttr,hb,hv] at h)|omega|intro h)
   refine ⟨k+1,by omega, ?_,by omega⟩
   refine Le.of ?_ ?_<;>simp [go_sem,simprocAttr,hb,hv,Gp hlt]
   rfl
  ·obtain rfl:k=g.n.toNat:=by omega
   have hb:decide ((g.n.toNat:Int)<(g.n.toNat:Int))=false:=decide_eq_false (by omega)
   have ht:(cW g []).take g.n.toNat=cW g []:=List.take_of_length_le (by rw [wts_length];omega)
   repeat' (first|refine Rn.p ?_|(with_reducible apply And.intro)|((first|(refine hK _ ?_;clear hK K)|with_reducible intro K hK|refine Rs.p ?_|((with_reducible first|apply oP|apply oQ);exact rfl)|(refine ai hX hC hP (aV (cW g out) 0 CV) rfl rfl rfl ?_ ?_ ?_ ?_;iterate 3 (focus (simp only [go_sem,simprocAttr,hb,ht];done))));try simp only [go_sem,simprocAttr,hb,ht])|((with_reducible refine oD ?_ ?_);kernel_rfl)|((with_reducible intro h);try simp only [go_sem,simprocAttr,hb,ht] at h)|omega|intro h)
   (refine gv hX 2 33 (.tip 3 1 []) (by simp only [go_sem,simprocAttr,hb,ht]) (by simp only [go_sem,simprocAttr,hb,ht]) (by decide) ⟨3,1,by decide, .inr rfl⟩ ?_;simp only [go_sem,simprocAttr,hb,ht])
   refine ag (fun out:List Int=>fq g out∧vZ g (left g out) out=aO g) (fun out=>⟨[(3, .ref 22),(2, .ref 33),(0, .d (LZ g))], [(22, .own 3 1 ((cW g out).map rI)),(33, .tip 3 1 (out.map rI))]⟩) (left g) [] ⟨fq.nil g, ?_⟩ ?_ ?_
   ·have:=(fq.nil g).fuel
    simp only [List.length_nil,Nat.zero_add] at this
    unfold left aO
    rw [this]
   ·(refine Le.of ?_ ?_<;>simp [go_sem,simprocAttr,hb,ht])
   rintro out ⟨ez,hrun⟩
   have CV:(cW g out).length≤9223372036854775807:=by rw [wts_length];omega
   have hout:out.length≤64:=by have:=ez.fuel;omega
   rcases NA (g:=g) out with hx|⟨x,hx,HZ,hw0⟩
   ·have hr:=zZ (g:=g) (out:=out) (by omega) (left g out)
    rw [hrun] at hr
    repeat' (first|refine Rn.p ?_|(with_reducible apply And.intro)|((first|(refine hK _ ?_;clear hK K)|with_reducible intro K hK|refine Rs.p ?_|((with_reducible first|apply oP|apply oQ);exact rfl)|(refine ai hX hC hP (aV (cW g out) 0 CV) rfl rfl rfl ?_ ?_ ?_ ?_;iterate 3 (focus (simp only [go_sem,simprocAttr,hx];done))));try simp only [go_sem,simprocAttr,hx])|((with_reducible refine oD ?_ ?_);kernel_rfl)|((with_reducible intro h);try simp only [go_sem,simprocAttr,hx] at h)|omega|intro h)
    ·rw [hr]
    ·rw [hr]
   ·obtain ⟨pY,qV,hbk⟩:=ez.next hm HZ hw0
    have aC:decide ((x:Int)<0)=false:=decide_eq_false (by omega)
    have hv:=mP (f:=(·.1)) HZ
    have QM:(jJ g x).length≤g.es.length:=jc
    repeat' (first|refine Rn.p ?_|(with_reducible apply And.intro)|((first|(refine hK _ ?_;clear hK K)|with_reducible intro K hK|refine Rs.p ?_|((with_reducible first|apply oP|apply oQ);exact rfl)|(refine ai hX hC hP (aV (cW g out) 0 CV) rfl rfl rfl ?_ ?_ ?_ ?_;iterate 3 (focus (simp only [go_sem,simprocAttr,hx,aC,hv];done))));try simp only [go_sem,simprocAttr,hx,aC,hv])|((with_reducible refine oD ?_ ?_);kernel_rfl)|((with_reducible intro h);try simp only [go_sem,simprocAttr,hx,aC,hv] at h)|omega|intro h)
    refine ag (fun j:Nat=>j≤(jJ g x).length) (fun j=>⟨[(45,eN j),(44,eN (jJ g x).length),(43, .d (sI (jJ g x))),(3, .ref 22),(2, .ref 33),(0, .d (LZ g))], [(22, .own 3 1 ((v7 g out x j).map rI)),(33, .tip 3 1 ((out++ [(x:Int)]).map rI))]⟩) (fun j=>(jJ g x).length - j) 0 (by simp) ?_ ?_
    ·refine Le.of ?_ ?_<;>simp [go_sem,simprocAttr,hx,aC,hv,jJ,rI]
     rw [← DZ,List.map_set];rfl
    rintro j hj
    rcases Nat.lt_or_ge j (jJ g x).length with hlt|hge
    ·have aI:decide ((j:Int)<((jJ g x).length:Int))=true:=decide_eq_true (by omega)
     obtain ⟨i,hi,hil,hit⟩:=Gm (List.getElem_mem hlt)
     have hi1:(jJ g x)[j]? =some (i:Int):=by rw [List.getElem?_eq_getElem hlt,hi]
     have hi2:(jJ g x).getD j 0=(i:Int):=by rw [List.getD_eq_getElem?_getD,hi1];rfl
     have hnew:=KJ ez qV hbk hil hit
     obtain ⟨_,Gq,vR⟩:=dX hm hil
     have hnext:=D3 hi1 Gq hnew
     have hw:(v7 g out x j).getD (g.es.getD i (0,0)).2.toNat 0=Fb g out x j (hd g i).toNat:=by
      rw [List.getD_eq_getElem?_getD,qe (by omega)];rfl
     have hbd:=D4 hm (out:=out) (x:=x) (j:=j) (y:=(hd g i).toNat)
     repeat' (first|refine Rn.p ?_|(with_reducible apply And.intro)|((first|(refine hK _ ?_;clear hK K)|with_reducible intro K hK|refine Rs.p ?_|((with_reducible first|apply oP|apply oQ);exact rfl)|(refine ai hX hC hP (aV (cW g out) 0 CV) rfl rfl rfl ?_ ?_ ?_ ?_;iterate 3 (focus (simp only [go_sem,simprocAttr,aI,hi2,hw];done))));try simp only [go_sem,simprocAttr,aI,hi2,hw])|((with_reducible refine oD ?_ ?_);kernel_rfl)|((with_reducible intro h);try simp only [go_sem,simprocAttr,aI,hi2,hw] at h)|omega|intro h)
     refine ⟨j+1,by omega, ?_,by omega⟩
     refine Le.of ?_ ?_<;>simp [go_sem,simprocAttr,aI,hi2,hw]
     rw [← hnext,List.map_set];rfl
    ·have aI:decide ((j:Int)<((jJ g x).length:Int))=false:=decide_eq_false (by omega)
     repeat' (first|refine Rn.p ?_|(with_reducible apply And.intro)|((first|(refine hK _ ?_;clear hK K)|with_reducible intro K hK|refine Rs.p ?_|((with_reducible first|apply oP|apply oQ);exact rfl)|(refine ai hX hC hP (aV (cW g out) 0 CV) rfl rfl rfl ?_ ?_ ?_ ?_;iterate 3 (focus (simp only [go_sem,simprocAttr,aI];done))));try simp only [go_sem,simprocAttr,aI])|((with_reducible refine oD ?_ ?_);kernel_rfl)|((with_reducible intro h);try simp only [go_sem,simprocAttr,aI] at h)|omega|intro h)
     have NB:=wU ez pY
     refine ⟨out++ [(x:Int)],⟨pY, ?_⟩, ?_,by omega⟩
     ·rw [← hrun,NB]
      simp only [vZ,hx]
      rw [if_neg (by omega)]
     ·refine Le.of ?_ ?_<;>simp [go_sem,simprocAttr,aI,Gn qV hge]
end Go.Ab
end
section
namespace Go.Ab
open Go.Proofs
attribute [local congr] ACall.congr gd.congr Nx.congr
set_option maxRecDepth 10000
def l9 (l:List Int) (k:Nat):List Int:=(List.range l.length).map fun p=>if p<k∨l.length - 1<p+k then l.getD (l.length - 1 - p) 0 else l.getD p 0
theorem dn {l:List Int} {k:Nat} :(l9 l k).length=l.length:=by simp [l9]
theorem kr {l:List Int} {k p:Nat} (h:p<l.length):(l9 l k)[p]? =some (if p<k∨l.length - 1<p+k then l.getD (l.length - 1 - p) 0 else l.getD p 0):=by
 simp [l9,List.getElem?_range h]
theorem uH {l:List Int} {k p:Nat} (h:p<l.length) (d:Int):(l9 l k).getD p d=if p<k∨l.length - 1<p+k then l.getD (l.length - 1 - p) 0 else l.getD p 0:=by
 rw [List.getD_eq_getElem?_getD,kr h];rfl
theorem Bx {l:List Int} :l9 l 0=l:=by
 refine List.ext_getElem? fun i=> ?_
 by_cases hi:i<l.length
 ·rw [kr hi,if_neg (by omega),List.getD_eq_getElem?_getD,List.getElem?_eq_getElem hi];rfl
 ·rw [List.getElem?_eq_none (by rw [dn];omega),List.getElem?_eq_none (by omega)]
theorem D5 {l:List Int} {k:Nat} (h:l.length≤2*k+1):l9 l k=l.reverse:=by
 refine List.ext_getElem? fun i=> ?_
 by_cases hi:i<l.length
 ·rw [kr hi,List.getElem?_reverse hi]
  split
  ·rw [List.getD_eq_getElem?_getD,List.getElem?_eq_getElem (by omega)];rfl
  ·have:i=l.length - 1 - i:=by omega
   rw [← this,List.getD_eq_getElem?_getD,List.getElem?_eq_getElem hi];rfl
 ·rw [List.getElem?_eq_none (by rw [dn];omega),List.getElem?_eq_none (by rw [List.length_reverse];omega)]
theorem By {l:List Int} {k:Nat} (h:k<l.length - 1 - k):((l9 l k).set k ((l9 l k).getD (l.length - 1 - k) 0)).set (l.length - 1 - k) ((l9 l k).getD k 0)=l9 l (k+1):=by
 refine List.ext_getElem? fun i=> ?_
 rw [List.getElem?_set,List.length_set,dn,List.getElem?_set,dn]
 by_cases hi:i<l.length
 ·rw [kr hi,kr hi,uH (by omega),uH (by omega)]
  by_cases h1:l.length - 1 - k=i
  ·rw [if_pos h1,if_pos (by omega),if_neg (by omega),if_pos (by omega)]
   congr 2;omega
  ·rw [if_neg h1]
   by_cases h2:k=i
   ·rw [if_pos h2,if_pos (by omega),if_neg (by omega),if_pos (by omega)]
    congr 2;omega
   ·rw [if_neg h2]
    congr 1
    by_cases h3:i<k∨l.length - 1<i+k
    ·rw [if_pos h3,if_pos (by omega)]
    ·rw [if_neg h3,if_neg (by omega)]
 ·rw [List.getElem?_eq_none (by rw [dn];omega),List.getElem?_eq_none (by rw [dn];omega),if_neg (by omega),if_neg (by omega)]
theorem e9 (l:List Int) (hl:l.length≤1000000):Spec Tryz.prog 82 (Args [.ref 10000]) [(10000, .part 3 1 (l.map rI))] (.tup []) [(10000, .part 3 1 (l.reverse.map rI))]:=by
 (refine Spec.hd (C:=T.cfg [] []) (rs:= []) (T.ah _ _) Tryz.func82 rfl rfl Tryz.ntmps82 Tryz.results82 (by simp [AObj.isNest]) (by simp [AObj.isNest]) (by kernel_rfl) T.mixed fun X hX hP hC aB bK=> ?_)
 repeat' (first|refine Rn.p ?_|(with_reducible apply And.intro)|((first|(refine hK _ ?_;clear hK K)|with_reducible intro K hK|refine Rs.p ?_|((with_reducible first|apply oP|apply oQ);exact rfl));try simp only [go_sem,simprocAttr])|((with_reducible refine oD ?_ ?_);kernel_rfl)|((with_reducible intro h);try simp only [go_sem,simprocAttr] at h)|omega|intro h)
 refine ag (fun k:Nat=>2*k≤l.length+1) (fun k=>⟨[(0, .ref 10000),(2,eN k),(3,eN ((l.length:Int) - 1 - k))], [(10000, .part 3 1 ((l9 l k).map rI))]⟩) (fun k=>l.length+1 - k) 0 (by omega) ?_ ?_
 ·refine Le.of ?_ ?_<;>simp [go_sem,simprocAttr,Bx]
 rintro k hk
 rcases Nat.lt_or_ge (2*k+1) l.length with hlt|hge
 ·have hb:decide ((k:Int)<(l.length:Int) - 1 - (k:Int))=true:=decide_eq_true (by omega)
  have ht:((l.length:Int) - 1 - (k:Int)).toNat=l.length - 1 - k:=by omega
  repeat' (first|refine Rn.p ?_|(with_reducible apply And.intro)|((first|(refine hK _ ?_;clear hK K)|with_reducible intro K hK|refine Rs.p ?_|((with_reducible first|apply oP|apply oQ);exact rfl));try simp only [go_sem,simprocAttr,hb,ht,dn,yg])|((with_reducible refine oD ?_ ?_);kernel_rfl)|((with_reducible intro h);try simp only [go_sem,simprocAttr,hb,ht,dn,yg] at h)|omega|intro h)
  refine ⟨k+1,by omega, ?_,by omega⟩
  refine Le.of ?_ ?_<;>simp [go_sem,simprocAttr]
  ·omega
  ·rw [← By (by omega),List.map_set,List.map_set]
   simp only [List.getD_eq_getElem?_getD]
 ·have hb:decide ((k:Int)<(l.length:Int) - 1 - (k:Int))=false:=decide_eq_false (by omega)
  repeat' (first|refine Rn.p ?_|(with_reducible apply And.intro)|((first|(refine hK _ ?_;clear hK K)|with_reducible intro K hK|refine Rs.p ?_|((with_reducible first|apply oP|apply oQ);exact rfl));try simp only [go_sem,simprocAttr,hb])|((with_reducible refine oD ?_ ?_);kernel_rfl)|((with_reducible intro h);try simp only [go_sem,simprocAttr,hb] at h)|omega|intro h)
  simp only [go_sem,simprocAttr,hb,D5 hge]
def iU:List Int→Int
 | []=>0
 |a::r=>r.foldl min a
theorem D6 {l:List Int} {k:Nat} (h0:0<k) (h:k<l.length):iU (l.take (k+1))=min (iU (l.take k)) (l.getD k 0):=by
 cases l with
 |nil=>simp at h
 |cons a r=>
  obtain ⟨k,rfl⟩:∃j,k=j+1:=⟨k - 1,by omega⟩
  simp only [List.length_cons] at h
  simp only [List.take_succ_cons,iU,List.getD_cons_succ]
  rw [List.take_add_one,List.foldl_append,List.getElem?_eq_getElem (by omega),List.getD_eq_getElem?_getD,List.getElem?_eq_getElem (by omega)]
  rfl
theorem Gs {l:List Int} (h:0<l.length):iU (l.take 1)=l.getD 0 0:=by
 cases l with
 |nil=>simp at h
 |cons a r=>simp [iU]
theorem ku (l:List Int) (h0:0<l.length) (hl:l.length≤1000000):Spec Tryz.prog 165 (Args [.d (sI l)]) [] (eN (iU l)) []:=by
 (refine Spec.hd (C:=T.cfg [] []) (rs:= [.t 2]) (T.ah _ _) Tryz.func165 rfl rfl Tryz.ntmps165 Tryz.results165 (by simp [AObj.isNest]) (by simp [AObj.isNest]) (by kernel_rfl) T.mixed fun X hX hP hC aB bK=> ?_)
 repeat' (first|refine Rn.p ?_|(with_reducible apply And.intro)|((first|(refine hK _ ?_;clear hK K)|with_reducible intro K hK|refine Rs.p ?_|((with_reducible first|apply oP|apply oQ);exact rfl));try simp only [go_sem,simprocAttr])|((with_reducible refine oD ?_ ?_);kernel_rfl)|((with_reducible intro h);try simp only [go_sem,simprocAttr] at h)|omega|intro h)
 refine ag (fun k:Nat=>0<k∧k≤l.length) (fun k=>⟨[(0, .d (sI l)),(3,eN (iU (l.take k))),(4,eN k)], []⟩) (fun k=>l.length - k) 1 (by omega) ?_ ?_
 ·refine Le.of ?_ ?_<;>simp [go_sem,simprocAttr,Gs h0]
 rintro k ⟨HU,hk⟩
 repeat' (first|refine Rn.p ?_|(with_reducible apply And.intro)|((first|(refine hK _ ?_;clear hK K)|with_reducible intro K hK|refine Rs.p ?_|((with_reducible first|apply oP|apply oQ);exact rfl));try simp only [go_sem,simprocAttr])|((with_reducible refine oD ?_ ?_);kernel_rfl)|((with_reducible intro h);try simp only [go_sem,simprocAttr] at h)|omega|intro h)
 ·refine ⟨k+1,by omega, ?_,by omega⟩
  refine Le.of ?_ ?_<;>simp [go_sem,simprocAttr]
  rw [D6 HU (by omega),List.getD_eq_getElem?_getD]
 ·rw [List.take_of_length_le (by omega)]
theorem fV (n:Int) (h0:0<n) (hl:n≤1000000):Spec Tryz.prog 94 (Args [.nil 3,eN n]) [] (.ref 10000) [(10000, .own 3 1 [])]:=by
 (refine Spec.CT (C:=T.cfg [] []) (rs:= [.t 4]) [(10000,25)] (T.ah _ _) Tryz.func94 rfl rfl Tryz.ntmps94 Tryz.results94 (by simp [AObj.isNest]) (by simp [AObj.isNest]) (by first|(simp [look];done)|(simp [asN];done)|(intro l hl;simp only [asN];repeat (rw [if_neg (fun e=>by subst e;simp [look] at hl)]))) (by first|(simp [look];done)|(simp [asN];done)|(intro l hl;simp only [asN];repeat (rw [if_neg (fun e=>by subst e;simp [look] at hl)]))) (by kernel_rfl) T.mixed fun X hX hP hC aB bK=> ?_)
 repeat' (first|refine Rn.p ?_|(with_reducible apply And.intro)|((first|(refine hK _ ?_;clear hK K)|with_reducible intro K hK|refine Rs.p ?_|((with_reducible first|apply oP|apply oQ);exact rfl));try simp only [go_sem,simprocAttr])|((with_reducible refine oD ?_ ?_);kernel_rfl)|((with_reducible intro h);try simp only [go_sem,simprocAttr] at h)|omega|intro h)
end Go.Ab
end
section
namespace Go.Ab
open Go.Proofs
attribute [local congr] ACall.congr gd.congr Nx.congr
set_option maxRecDepth 10000
def vL (ls:List (List Int)):List (List D):=ls.map fun l=> [sI l]
theorem vL_length {ls:List (List Int)} :(vL ls).length=ls.length:=by simp [vL]
theorem yj {ls:List (List Int)} {k:Nat} (h:k<ls.length) (d:List D):(vL ls).getD k d= [sI (ls.getD k [])]:=by
 simp [vL,List.getD_eq_getElem?_getD,List.getElem?_eq_getElem h]
attribute [go_sem] vL_length
theorem wV {ls:List (List Int)} {k:Nat} (h:k<ls.length):(ls.take (k+1)).flatten=(ls.take k).flatten++ls.getD k []:=by
 rw [List.take_add_one,List.flatten_append,List.getElem?_eq_getElem h,List.getD_eq_getElem?_getD,List.getElem?_eq_getElem h]
 simp
theorem th {ls:List (List Int)} {k:Nat} :(ls.take k).flatten.length≤ls.flatten.length:=by
 have:=congrArg (fun x=>x.flatten.length) (List.take_append_drop k ls)
 simp only [List.flatten_append,List.length_append] at this
 omega
theorem dR (ls:List (List Int)) (hn:ls.length≤1000) (h0:0<ls.flatten.length) (hl:ls.flatten.length≤1000000):Spec Tryz.prog 45 (Args [.d (.sl 1 (vL ls))]) [] (.d (sI ls.flatten)) []:=by
 (refine Spec.hd (C:=T.cfg [] []) (rs:= [.t 2]) (T.ah _ _) Tryz.func45 rfl rfl Tryz.ntmps45 Tryz.results45 (by simp [AObj.isNest]) (by simp [AObj.isNest]) (by kernel_rfl) T.mixed fun X hX hP hC aB bK=> ?_)
 repeat' (first|refine Rn.p ?_|(with_reducible apply And.intro)|((first|(refine hK _ ?_;clear hK K)|with_reducible intro K hK|refine Rs.p ?_|((with_reducible first|apply oP|apply oQ);exact rfl)|(refine aJ hX hC hP [(10000,33)] (fV (ls.flatten.length:Int) (by omega) (by omega)) rfl rfl rfl ?_ ?_ ?_ ?_ ?_ ?_ ?_ ?_ ?_ ?_ ?_ ?_ ?_ ?_;(focus (simp only [go_sem,simprocAttr];done));(iterate 12 (focus (simp [go_sem,simprocAttr];done)));try simp only [List.map_cons,List.map_nil]));try simp only [go_sem,simprocAttr])|((with_reducible refine oD ?_ ?_);kernel_rfl)|((with_reducible intro h);try simp only [go_sem,simprocAttr] at h)|omega|intro h)
 refine ag (fun k:Nat=>k≤ls.length) (fun k=>⟨[(0, .d (.sl 1 (vL ls))),(9, .d (.sl 1 (vL ls))),(10,eN ls.length),(11,eN k),(3,eN ((ls.take k).flatten.length))], []⟩) (fun k=>ls.length - k) 0 (by omega) ?_ ?_
 ·(refine Le.of ?_ ?_<;>simp [go_sem,simprocAttr])
 ·rintro k hk
  rcases Nat.lt_or_ge k ls.length with hlt|hge
  ·have hb:decide ((k:Int)<(ls.length:Int))=true:=decide_eq_true (by omega)
   have hv:=yj hlt
   have hf:=wV hlt
   have OF:=th (ls:=ls) (k:=k)
   have Gt:=th (ls:=ls) (k:=k+1)
   rw [hf,List.length_append] at Gt
   have hneg:decide (((ls.take k).flatten.length:Int)+((ls.getD k []).length:Int)<0)=false:=decide_eq_false (by omega)
   repeat' (first|refine Rn.p ?_|(with_reducible apply And.intro)|((first|(refine hK _ ?_;clear hK K)|with_reducible intro K hK|refine Rs.p ?_|((with_reducible first|apply oP|apply oQ);exact rfl)|(refine aJ hX hC hP [(10000,33)] (fV (ls.flatten.length:Int) (by omega) (by omega)) rfl rfl rfl ?_ ?_ ?_ ?_ ?_ ?_ ?_ ?_ ?_ ?_ ?_ ?_ ?_ ?_;(focus (simp only [go_sem,simprocAttr,hb,hv,hneg];done));(iterate 12 (focus (simp [go_sem,simprocAttr,hb,hv,hneg];done)));try simp only [List.map_cons,List.map_nil]));try simp only [go_sem,simprocAttr,hb,hv,hneg])|((with_reducible refine oD ?_ ?_);kernel_rfl)|((with_reducible intro h);try simp only [go_sem,simprocAttr,hb,hv,hneg] at h)|omega|intro h)
   refine ⟨k+1,by omega, ?_,by omega⟩
   simp only [hf]
   refine Le.of ?_ ?_<;>simp [go_sem,simprocAttr,hb,hv,hneg]
  ·have hb:decide ((k:Int)<(ls.length:Int))=false:=decide_eq_false (by omega)
   have ht:ls.take k=ls:=List.take_of_length_le (by omega)
   repeat' (first|refine Rn.p ?_|(with_reducible apply And.intro)|((first|(refine hK _ ?_;clear hK K)|with_reducible intro K hK|refine Rs.p ?_|((with_reducible first|apply oP|apply oQ);exact rfl)|(refine aJ hX hC hP [(10000,33)] (fV (ls.flatten.length:Int) (by omega) (by omega)) rfl rfl rfl ?_ ?_ ?_ ?_ ?_ ?_ ?_ ?_ ?_ ?_ ?_ ?_ ?_ ?_;(focus (simp only [go_sem,simprocAttr,hb,ht];done));(iterate 12 (focus (simp [go_sem,simprocAttr,hb,ht];done)));try simp only [List.map_cons,List.map_nil]));try simp only [go_sem,simprocAttr,hb,ht])|((with_reducible refine oD ?_ ?_);kernel_rfl)|((with_reducible intro h);try simp only [go_sem,simprocAttr,hb,ht] at h)|omega|intro h)
   refine ag (fun k:Nat=>k≤ls.length) (fun k=>⟨[(25, .d (.sl 1 (vL ls))),(26,eN ls.length),(27,eN k),(6, .ref 33)], [(33, .own 3 1 ((ls.take k).flatten.map rI))]⟩) (fun k=>ls.length - k) 0 (by omega) ?_ ?_
   ·(refine Le.of ?_ ?_<;>simp [go_sem,simprocAttr,hb,ht])
   ·clear hb ht hk hge
    rintro k hk
    rcases Nat.lt_or_ge k ls.length with hlt|hge
    ·have hb:decide ((k:Int)<(ls.length:Int))=true:=decide_eq_true (by omega)
     have hv:=yj hlt
     have hf:=wV hlt
     have OF:=th (ls:=ls) (k:=k)
     have Gt:=th (ls:=ls) (k:=k+1)
     rw [hf,List.length_append] at Gt
     repeat' (first|refine Rn.p ?_|(with_reducible apply And.intro)|((first|(refine hK _ ?_;clear hK K)|with_reducible intro K hK|refine Rs.p ?_|((with_reducible first|apply oP|apply oQ);exact rfl)|(refine aJ hX hC hP [(10000,33)] (fV (ls.flatten.length:Int) (by omega) (by omega)) rfl rfl rfl ?_ ?_ ?_ ?_ ?_ ?_ ?_ ?_ ?_ ?_ ?_ ?_ ?_ ?_;(focus (simp only [go_sem,simprocAttr,hb,hv];done));(iterate 12 (focus (simp [go_sem,simprocAttr,hb,hv];done)));try simp only [List.map_cons,List.map_nil]));try simp only [go_sem,simprocAttr,hb,hv])|((with_reducible refine oD ?_ ?_);kernel_rfl)|((with_reducible intro h);try simp only [go_sem,simprocAttr,hb,hv] at h)|omega|intro h)
     refine ⟨k+1,by omega, ?_,by omega⟩
     simp only [hf]
     refine Le.of ?_ ?_<;>simp [go_sem,simprocAttr,hb,hv]
    ·have hb:decide ((k:Int)<(ls.length:Int))=false:=decide_eq_false (by omega)
     have ht:ls.take k=ls:=List.take_of_length_le (by omega)
     repeat' (first|refine Rn.p ?_|(with_reducible apply And.intro)|((first|(refine hK _ ?_;clear hK K)|with_reducible intro K hK|refine Rs.p ?_|((with_reducible first|apply oP|apply oQ);exact rfl)|(refine aJ hX hC hP [(10000,33)] (fV (ls.flatten.length:Int) (by omega) (by omega)) rfl rfl rfl ?_ ?_ ?_ ?_ ?_ ?_ ?_ ?_ ?_ ?_ ?_ ?_ ?_ ?_;(focus (simp only [go_sem,simprocAttr,hb,ht];done));(iterate 12 (focus (simp [go_sem,simprocAttr,hb,ht];done)));try simp only [List.map_cons,List.map_nil]));try simp only [go_sem,simprocAttr,hb,ht])|((with_reducible refine oD ?_ ?_);kernel_rfl)|((with_reducible intro h);try simp only [go_sem,simprocAttr,hb,ht] at h)|omega|intro h)
def jO (ls:List (List Int)) (k:Nat):List Int:=((List.range k).filter fun x=>decide ((ls.getD x []).length=0)).map Int.ofNat
theorem o3 {ls:List (List Int)} {k:Nat} :jO ls (k+1)=jO ls k++if (ls.getD k []).length=0 then [(k:Int)] else []:=by
 simp only [jO,List.range_succ,List.filter_append,List.map_append,List.filter_cons,List.filter_nil]
 split<;>simp_all
theorem wW {ls:List (List Int)} {k:Nat} :(jO ls k).length≤k:=by
 simpa [jO] using List.length_filter_le (fun x=>decide ((ls.getD x []).length=0)) (List.range k)
theorem D7 (ls:List (List Int)) (hn:ls.length≤1000):Spec Tryz.prog 93 (Args [.d (.sl 1 (vL ls))]) [] (.d (sI (jO ls ls.length))) []:=by
 (refine Spec.hd (C:=T.cfg [] []) (rs:= [.t 2]) (T.ah _ _) Tryz.func93 rfl rfl Tryz.ntmps93 Tryz.results93 (by simp [AObj.isNest]) (by simp [AObj.isNest]) (by kernel_rfl) T.mixed fun X hX hP hC aB bK=> ?_)
 repeat' (first|refine Rn.p ?_|(with_reducible apply And.intro)|((first|(refine hK _ ?_;clear hK K)|with_reducible intro K hK|refine Rs.p ?_|((with_reducible first|apply oP|apply oQ);exact rfl)|(refine aJ hX hC hP [(10000,33)] (fV (ls.flatten.length:Int) (by omega) (by omega)) rfl rfl rfl ?_ ?_ ?_ ?_ ?_ ?_ ?_ ?_ ?_ ?_ ?_ ?_ ?_ ?_;(focus (simp only [go_sem,simprocAttr];done));(iterate 12 (focus (simp [go_sem,simprocAttr];done)));try simp only [List.map_cons,List.map_nil]));try simp only [go_sem,simprocAttr])|((with_reducible refine oD ?_ ?_);kernel_rfl)|((with_reducible intro h);try simp only [go_sem,simprocAttr] at h)|omega|intro h)
 (refine gv hX 2 18 (.tip 3 1 []) (by simp only [go_sem,simprocAttr]) (by simp only [go_sem,simprocAttr]) (by decide) ⟨3,1,by decide, .inr rfl⟩ ?_;simp only [go_sem,simprocAttr])
 refine ag (fun k:Nat=>k≤ls.length) (fun k=>⟨[(5, .d (.sl 1 (vL ls))),(6,eN ls.length),(7,eN k),(2, .ref 18)], [(18, .tip 3 1 ((jO ls k).map rI))]⟩) (fun k=>ls.length - k) 0 (by omega) ?_ ?_
 ·refine Le.of ?_ ?_<;>simp [go_sem,simprocAttr,jO]
 ·rintro k hk
  rcases Nat.lt_or_ge k ls.length with hlt|hge
  ·have hb:decide ((k:Int)<(ls.length:Int))=true:=decide_eq_true (by omega)
   have hv:=yj hlt
   have hlen:=wW (ls:=ls) (k:=k)
   repeat' (first|refine Rn.p ?_|(with_reducible apply And.intro)|((first|(refine hK _ ?_;clear hK K)|with_reducible intro K hK|refine Rs.p ?_|((with_reducible first|apply oP|apply oQ);exact rfl)|(refine aJ hX hC hP [(10000,33)] (fV (ls.flatten.length:Int) (by omega) (by omega)) rfl rfl rfl ?_ ?_ ?_ ?_ ?_ ?_ ?_ ?_ ?_ ?_ ?_ ?_ ?_ ?_;(focus (simp only [go_sem,simprocAttr,hb,hv];done));(iterate 12 (focus (simp [go_sem,simprocAttr,hb,hv];done)));try simp only [List.map_cons,List.map_nil]));try simp only [go_sem,simprocAttr,hb,hv])|((with_reducible refine oD ?_ ?_);kernel_rfl)|((with_reducible intro h);try simp only [go_sem,simprocAttr,hb,hv] at h)|omega|intro h)
   ·refine ⟨k+1,by omega, ?_,by omega⟩
    rw [o3,if_pos (by omega)]
    refine Le.of ?_ ?_<;>simp [go_sem,simprocAttr,hb,hv]
    rfl
   ·refine ⟨k+1,by omega, ?_,by omega⟩
    rw [o3,if_neg (by omega),List.append_nil]
    refine Le.of ?_ ?_<;>simp [go_sem,simprocAttr,hb,hv]
  ·have hb:decide ((k:Int)<(ls.length:Int))=false:=decide_eq_false (by omega)
   obtain rfl:k=ls.length:=by omega
   repeat' (first|refine Rn.p ?_|(with_reducible apply And.intro)|((first|(refine hK _ ?_;clear hK K)|with_reducible intro K hK|refine Rs.p ?_|((with_reducible first|apply oP|apply oQ);exact rfl)|(refine aJ hX hC hP [(10000,33)] (fV (ls.flatten.length:Int) (by omega) (by omega)) rfl rfl rfl ?_ ?_ ?_ ?_ ?_ ?_ ?_ ?_ ?_ ?_ ?_ ?_ ?_ ?_;(focus (simp only [go_sem,simprocAttr,hb];done));(iterate 12 (focus (simp [go_sem,simprocAttr,hb];done)));try simp only [List.map_cons,List.map_nil]));try simp only [go_sem,simprocAttr,hb])|((with_reducible refine oD ?_ ?_);kernel_rfl)|((with_reducible intro h);try simp only [go_sem,simprocAttr,hb] at h)|omega|intro h)
theorem KK {f:Edge→Int} {g:Gr} :H6 f g=vL (eR f g):=rfl
theorem qf {f:Edge→Int} {g:Gr} :(eR f g).length=g.n.toNat:=by simp [eR]
def dN (f:Edge→Int) (g:Gr):List Int:=jO (eR f g) g.n.toNat
theorem gy (g:Gr) (hm:aX g=true):Spec Tryz.prog 41 (Args [.d (vw g)]) [] (.d (sI (dN (·.2) g))) []:=by
 rw [aA]
 have hn:=bF hm
 have hle:(eR (·.2) g).length≤1000:=by rw [qf];omega
 (refine Spec.hd (C:=T.cfg [] []) (rs:= [.t 2]) (T.ah _ _) Tryz.func41 rfl rfl Tryz.ntmps41 Tryz.results41 (by simp [AObj.isNest]) (by simp [AObj.isNest]) (by kernel_rfl) T.mixed fun X hX hP hC aB bK=> ?_)
 repeat' (first|refine Rn.p ?_|(with_reducible apply And.intro)|((first|(refine hK _ ?_;clear hK K)|with_reducible intro K hK|refine Rs.p ?_|((with_reducible first|apply oP|apply oQ);exact rfl)|(rw [KK];refine aa hX hC hP (D7 (eR (·.2) g) hle) rfl rfl rfl (by simp only [go_sem,simprocAttr]) rfl ?_));try simp only [go_sem,simprocAttr])|((with_reducible refine oD ?_ ?_);kernel_rfl)|((with_reducible intro h);try simp only [go_sem,simprocAttr] at h)|omega|intro h)
 rw [qf];rfl
end Go.Ab
end
section
namespace Go.Ab
open Go.Proofs
attribute [local congr] ACall.congr gd.congr Nx.congr
set_option maxRecDepth 10000
def fW (g:Gr) (ws:List Int) (b:Int) (e:Int):Int:=if 0<ws.getD (tl g e.toNat).toNat 0∧(b<0∨tl g e.toNat<b) then tl g e.toNat else b
theorem Gu (g:Gr) (ws:List Int) (b:Int) (i:Nat):fW g ws b (i:Int)=if 0<ws.getD (g.es.getD i (0,0)).1.toNat 0∧(b<0∨(g.es.getD i (0,0)).1<b) then (g.es.getD i (0,0)).1 else b:=rfl
def wX (g:Gr) (ws:List Int) (es:List Int):Int:=es.foldl (fW g ws) (-1)
def jP (g:Gr) (ws:List Int) (at_:Int):Int:=wX g ws (kT g at_.toNat)
def lF (g:Gr) (ws:List Int):Nat→List Int→Int→List Int × Int
 |0,way,at_=>(way,at_)
 |f+1,way,at_=>if at_<0∨at_∈way then (way,at_) else lF g ws f (way++ [at_]) (jP g ws at_)
def kz (g:Gr):List Int × Int:=lF g (cW g (aO g)) g.n.toNat [] (bS (fun n=>decide (0<n)) (cW g (aO g)))
def me (l:List Int):List Int:=l.drop (gw l (iU l)).toNat++l.take (gw l (iU l)).toNat
def kA (g:Gr):List Int:=if (kz g).2<0 then [] else me ((kz g).1.drop (gw (kz g).1 (kz g).2).toNat).reverse
theorem jd (n:Int):Spec Tryz.prog 163 (Args [eN n]) [] (eB (decide (0<n))) []:=by
 (refine Spec.hd (C:=T.cfg [] []) (rs:= [.t 2]) (T.ah _ _) Tryz.func163 rfl rfl Tryz.ntmps163 Tryz.results163 (by simp [AObj.isNest]) (by simp [AObj.isNest]) (by kernel_rfl) T.mixed fun X hX hP hC aB bK=> ?_)
 repeat' (first|refine Rn.p ?_|(with_reducible apply And.intro)|((first|(refine hK _ ?_;clear hK K)|with_reducible intro K hK|refine Rs.p ?_|((with_reducible first|apply oP|apply oQ);exact rfl));try simp only [go_sem,simprocAttr])|((with_reducible refine oD ?_ ?_);kernel_rfl)|((with_reducible intro h);try simp only [go_sem,simprocAttr] at h)|omega|intro h)
structure Way (g:Gr) (way:List Int):Prop where
 lo:∀x∈way,0≤x∧x<g.n
 fuel:way.length+left g way=g.n.toNat
theorem qg {g:Gr} :left g []=g.n.toNat:=by
 have:=(fq.nil g).fuel
 rw [List.length_nil,Nat.zero_add] at this
 exact this
theorem jo {g:Gr} {way:List Int} {a:Nat} (ha:a<g.n.toNat) (hn:(a:Int)∉way):left g way=left g (way++ [(a:Int)])+1:=by
 unfold left
 rw [← mO (p:=fun y:Nat=> !decide ((y:Int)∈way)) (x:=a) (by simp [hn]) ha]
 congr 1
 refine List.countP_congr fun y _=> ?_
 simp;omega
theorem Way.nil (g:Gr):Way g []:=⟨by simp,by rw [qg];simp⟩
theorem Way.next {g:Gr} {way:List Int} {a:Nat} (h:Way g way) (ha:a<g.n.toNat) (hn:(a:Int)∉way):Way g (way++ [(a:Int)]):=by
 refine ⟨fun x hx=> ?_, ?_⟩
 ·rcases List.mem_append.1 hx with hx|hx
  ·exact h.lo x hx
  ·simp at hx;omega
 ·have h1:=h.fuel
  have h2:=jo ha hn
  rw [List.length_append,List.length_singleton];omega
theorem yl {g:Gr} {x:Nat} {e:Int} (h:e∈kT g x):∃i:Nat,e=i∧i<g.es.length∧hd g i=x:=by
 simp only [kT,fD,List.mem_map,List.mem_filter,List.mem_range,decide_eq_true_eq] at h
 obtain ⟨i,⟨h1,h2⟩,rfl⟩:=h
 exact ⟨i,rfl,h1,h2⟩
theorem D8 {α β:Type} {f:β→α→β} {b:β} {l:List α} {j:Nat} {x:α} (h:l[j]? =some x):(l.take (j+1)).foldl f b=f ((l.take j).foldl f b) x:=by
 rw [List.take_add_one,List.foldl_append,h];rfl
theorem sr {g:Gr} (hm:aX g=true) (ws:List Int):∀(l:List Int) (b:Int),(b= -1∨(0≤b∧b<g.n))→(∀e∈l,∃i:Nat,e=i∧i<g.es.length)→l.foldl (fW g ws) b= -1∨(0≤l.foldl (fW g ws) b∧l.foldl (fW g ws) b<g.n)
 | [],b,hb,_=>hb
 |e::l,b,hb,h=>by
  refine sr hm ws l _ ?_ fun e he=>h e (List.mem_cons_of_mem _ he)
  obtain ⟨i,rfl,hi⟩:=h e List.mem_cons_self
  obtain ⟨⟨h1,h2⟩,_⟩:=dX hm hi
  unfold fW
  split
  ·exact .inr ⟨h1,h2⟩
  ·exact hb
theorem Gv {g:Gr} {x:Nat} :∀e∈kT g x,∃i:Nat,e=i∧i<g.es.length:=fun e he=>by
 obtain ⟨i,h1,h2,_⟩:=yl he;exact ⟨i,h1,h2⟩
theorem kB {g:Gr} {ws way:List Int} {a:Int} (h:a<0∨a∈way):∀f,lF g ws f way a=(way,a)
 |0=>rfl
 |f+1=>by simp only [lF];rw [if_pos h]
theorem eS {l:List Int} {x:Int} (h:x∈l):∃k:Nat,gw l x=k∧k<l.length∧l.getD k 0=x:=by
 rcases gT (f:=fun y:Int=>decide (x=y)) (l:=l) 0 with ⟨h1,h2⟩|⟨k,h1,h2,h3,_⟩
 ·exact absurd (h2 x h) (by simp)
 ·exact ⟨k,h1,h2,(of_decide_eq_true h3).symm⟩
theorem jq:∀ {l:List Int},0<l.length→iU l∈l
 |a::r,_=>by
  have:∀(r:List Int) (a:Int),r.foldl min a=a∨r.foldl min a∈r:=by
   intro r
   induction r with
   |nil=>intro a;exact .inl rfl
   |cons b r ih=>
    intro a
    simp only [List.foldl_cons]
    rcases ih (min a b) with h|h
    ·by_cases hab:a≤b
     ·left;rw [h];omega
     ·right;rw [h];simp;omega
    ·right;simp [h]
  rcases this r a with h|h
  ·simp [iU,h]
  ·simp [iU,h]
theorem jr (g:Gr) (hm:aX g=true):Spec Tryz.prog 114 (Args [.d (vw g)]) [] (.d (sI (kA g))) []:=by
 have hn:=bF hm
 have CV:(cW g (aO g)).length≤9223372036854775807:=by rw [wts_length];omega
 (refine Spec.hd (C:=T.cfg [30] []) (rs:= [.t 2]) (T.ah _ _) Tryz.func114 rfl rfl Tryz.ntmps114 Tryz.results114 (by simp [AObj.isNest]) (by simp [AObj.isNest]) (by kernel_rfl) T.mixed fun X hX hP hC aB bK=> ?_)
 repeat' (first|refine Rn.p ?_|(with_reducible apply And.intro)|((first|(refine hK _ ?_;clear hK K)|with_reducible intro K hK|refine Rs.p ?_|((with_reducible first|apply oP|apply oQ);exact rfl)|refine aa hX hC hP (kq g hm) rfl rfl rfl (by simp only [go_sem,simprocAttr]) rfl ?_|refine aa hX hC hP (de aH.nil _ [] _ jd (cW g (aO g)) CV) rfl rfl rfl (by simp only [go_sem,simprocAttr]) rfl ?_|(refine ai hX hC hP (bu way a cq) rfl rfl rfl ?_ ?_ ?_ ?_;iterate 3 (focus (simp only [go_sem,simprocAttr];done)))|(refine ai hX hC hP (aV way a cq) rfl rfl rfl ?_ ?_ ?_ ?_;iterate 3 (focus (simp only [go_sem,simprocAttr];done)))|(refine aJ hX hC hP [(10000,75)] (e9 (way.drop k) hlr) rfl rfl rfl ?_ ?_ ?_ ?_ ?_ ?_ ?_ ?_ ?_ ?_ ?_ ?_ ?_ ?_;(focus (simp only [go_sem,simprocAttr];done));(iterate 12 (focus (simp [go_sem,simprocAttr];done)));try simp only [List.map_cons,List.map_nil])|(refine ai hX hC hP (ku rev uI hrev) rfl rfl rfl ?_ ?_ ?_ ?_;iterate 3 (focus (simp only [go_sem,simprocAttr];done)))|(refine ai hX hC hP (aV rev (iU rev) wY) rfl rfl rfl ?_ ?_ ?_ ?_;iterate 3 (focus (simp only [go_sem,simprocAttr];done)))|(refine aq hX hC hP (dR [rev.drop k2,rev.take k2] hc1 JI L0) rfl rfl rfl ?_ ?_ rfl ?_;iterate 2 (focus (simp only [go_sem,simprocAttr];done))));try simp only [go_sem,simprocAttr])|((with_reducible refine oD ?_ ?_);kernel_rfl)|((with_reducible intro h);try simp only [go_sem,simprocAttr] at h)|omega|intro h)
 (refine gv hX 6 30 (.own 3 1 []) (by simp only [go_sem,simprocAttr]) (by simp only [go_sem,simprocAttr]) (by decide) ⟨3,1,by decide, .inl rfl⟩ ?_;simp only [go_sem,simprocAttr])
 refine ag (fun i:List Int × Int=>Way g i.1∧(i.2= -1∨(0≤i.2∧i.2<g.n))∧lF g (cW g (aO g)) (left g i.1) i.1 i.2=kz g) (fun i=>⟨[(0, .d (vw g)),(4, .d (sI (cW g (aO g)))),(5,eN i.2),(6, .ref 30)], [(30, .own 3 1 (i.1.map rI))]⟩) (fun i=>left g i.1) ([],bS (fun n=>decide (0<n)) (cW g (aO g))) ⟨Way.nil g, ?_, ?_⟩ ?_ ?_
 ·rcases zV (fun n:Int=>decide (0<n)) (cW g (aO g)) with h|h
  ·exact .inl h
  ·rw [wts_length] at h;exact .inr (by simp only;omega)
 ·rw [qg];rfl
 ·(refine Le.of ?_ ?_<;>simp [go_sem,simprocAttr])
 rintro ⟨way,at_⟩ ⟨z6,QN,hrun⟩
 simp only at z6 QN hrun ⊢
 have TD:way.length≤64:=by have:=z6.fuel;omega
 have cq:way.length≤9223372036854775807:=by omega
 by_cases h0:at_<0
 ·have aC:decide (0≤at_)=false:=decide_eq_false (by omega)
  have cU:decide (at_<0)=true:=decide_eq_true h0
  have he:kA g= []:=by
   have:=kB (g:=g) (ws:=cW g (aO g)) (way:=way) (.inl h0) (left g way)
   rw [hrun] at this
   simp only [kA,this];rw [if_pos h0]
  repeat' (first|refine Rn.p ?_|(with_reducible apply And.intro)|((first|(refine hK _ ?_;clear hK K)|with_reducible intro K hK|refine Rs.p ?_|((with_reducible first|apply oP|apply oQ);exact rfl)|refine aa hX hC hP (kq g hm) rfl rfl rfl (by simp only [go_sem,simprocAttr,aC,cU]) rfl ?_|refine aa hX hC hP (de aH.nil _ [] _ jd (cW g (aO g)) CV) rfl rfl rfl (by simp only [go_sem,simprocAttr,aC,cU]) rfl ?_|(refine ai hX hC hP (bu way a cq) rfl rfl rfl ?_ ?_ ?_ ?_;iterate 3 (focus (simp only [go_sem,simprocAttr,aC,cU];done)))|(refine ai hX hC hP (aV way a cq) rfl rfl rfl ?_ ?_ ?_ ?_;iterate 3 (focus (simp only [go_sem,simprocAttr,aC,cU];done)))|(refine aJ hX hC hP [(10000,75)] (e9 (way.drop k) hlr) rfl rfl rfl ?_ ?_ ?_ ?_ ?_ ?_ ?_ ?_ ?_ ?_ ?_ ?_ ?_ ?_;(focus (simp only [go_sem,simprocAttr,aC,cU];done));(iterate 12 (focus (simp [go_sem,simprocAttr,aC,cU];done)));try simp only [List.map_cons,List.map_nil])|(refine ai hX hC hP (ku rev uI hrev) rfl rfl rfl ?_ ?_ ?_ ?_;iterate 3 (focus (simp only [go_sem,simprocAttr,aC,cU];done)))|(refine ai hX hC hP (aV rev (iU rev) wY) rfl rfl rfl ?_ ?_ ?_ ?_;iterate 3 (focus (simp only [go_sem,simprocAttr,aC,cU];done)))|(refine aq hX hC hP (dR [rev.drop k2,rev.take k2] hc1 JI L0) rfl rfl rfl ?_ ?_ rfl ?_;iterate 2 (focus (simp only [go_sem,simprocAttr,aC,cU];done))));try simp only [go_sem,simprocAttr,aC,cU])|((with_reducible refine oD ?_ ?_);kernel_rfl)|((with_reducible intro h);try simp only [go_sem,simprocAttr,aC,cU] at h)|omega|intro h)
  rw [he];rfl
 obtain ⟨a,rfl⟩:∃a:Nat,at_=a:=⟨at_.toNat,by omega⟩
 have JJ:a<g.n.toNat:=by omega
 have aC:decide (0≤(a:Int))=true:=decide_eq_true (by omega)
 by_cases hmem:(a:Int)∈way
 ·have aI:decide ((a:Int)∈way)=true:=decide_eq_true hmem
  have cU:decide ((a:Int)<0)=false:=decide_eq_false h0
  have hend:=kB (g:=g) (ws:=cW g (aO g)) (.inr hmem) (left g way)
  rw [hrun] at hend
  obtain ⟨k,hk,cF,_⟩:=eS hmem
  obtain ⟨rev,jQ⟩:∃rev,rev=(way.drop k).reverse:=⟨_,rfl⟩
  have hrl:rev.length=way.length - k:=by rw [jQ];simp
  have uI:0<rev.length:=by omega
  have hrev:rev.length≤1000000:=by omega
  have wY:rev.length≤9223372036854775807:=by omega
  have hlr:(way.drop k).length≤1000000:=by simp;omega
  obtain ⟨k2,hk2,TE,_⟩:=eS (jq uI)
  have hc1: [rev.drop k2,rev.take k2].length≤1000:=by simp
  have JI:0< [rev.drop k2,rev.take k2].flatten.length:=by simp;omega
  have L0: [rev.drop k2,rev.take k2].flatten.length≤1000000:=by simp;omega
  have KL:kA g= [rev.drop k2,rev.take k2].flatten:=by
   simp only [kA,hend]
   rw [if_neg h0,hk]
   simp only [Int.toNat_natCast, ← jQ,me,hk2,List.flatten_cons,List.flatten_nil,List.append_nil]
  repeat' (first|(show cA _ (.seq (.region 20 _ _) _) _ _;(refine c9 hX 75 rfl (.inr rfl) ?_;simp only [go_sem,simprocAttr,aC,aI,cU,hk,hk2, ← List.map_take, ← List.map_drop,List.take_length, ← jQ,vL]))|refine Rn.p ?_|(with_reducible apply And.intro)|((first|(refine hK _ ?_;clear hK K)|with_reducible intro K hK|refine Rs.p ?_|((with_reducible first|apply oP|apply oQ);exact rfl)|refine aa hX hC hP (kq g hm) rfl rfl rfl (by simp only [go_sem,simprocAttr,aC,aI,cU,hk,hk2, ← List.map_take, ← List.map_drop,List.take_length, ← jQ,vL]) rfl ?_|refine aa hX hC hP (de aH.nil _ [] _ jd (cW g (aO g)) CV) rfl rfl rfl (by simp only [go_sem,simprocAttr,aC,aI,cU,hk,hk2, ← List.map_take, ← List.map_drop,List.take_length, ← jQ,vL]) rfl ?_|(refine ai hX hC hP (bu way a cq) rfl rfl rfl ?_ ?_ ?_ ?_;iterate 3 (focus (simp only [go_sem,simprocAttr,aC,aI,cU,hk,hk2, ← List.map_take, ← List.map_drop,List.take_length, ← jQ,vL];done)))|(refine ai hX hC hP (aV way a cq) rfl rfl rfl ?_ ?_ ?_ ?_;iterate 3 (focus (simp only [go_sem,simprocAttr,aC,aI,cU,hk,hk2, ← List.map_take, ← List.map_drop,List.take_length, ← jQ,vL];done)))|(refine aJ hX hC hP [(10000,75)] (e9 (way.drop k) hlr) rfl rfl rfl ?_ ?_ ?_ ?_ ?_ ?_ ?_ ?_ ?_ ?_ ?_ ?_ ?_ ?_;(focus (simp only [go_sem,simprocAttr,aC,aI,cU,hk,hk2, ← List.map_take, ← List.map_drop,List.take_length, ← jQ,vL];done));(iterate 12 (focus (simp [go_sem,simprocAttr,aC,aI,cU,hk,hk2, ← List.map_take, ← List.map_drop,List.take_length, ← jQ,vL];done)));try simp only [List.map_cons,List.map_nil])|(refine ai hX hC hP (ku rev uI hrev) rfl rfl rfl ?_ ?_ ?_ ?_;iterate 3 (focus (simp only [go_sem,simprocAttr,aC,aI,cU,hk,hk2, ← List.map_take, ← List.map_drop,List.take_length, ← jQ,vL];done)))|(refine ai hX hC hP (aV rev (iU rev) wY) rfl rfl rfl ?_ ?_ ?_ ?_;iterate 3 (focus (simp only [go_sem,simprocAttr,aC,aI,cU,hk,hk2, ← List.map_take, ← List.map_drop,List.take_length, ← jQ,vL];done)))|(refine aq hX hC hP (dR [rev.drop k2,rev.take k2] hc1 JI L0) rfl rfl rfl ?_ ?_ rfl ?_;iterate 2 (focus (simp only [go_sem,simprocAttr,aC,aI,cU,hk,hk2, ← List.map_take, ← List.map_drop,List.take_length, ← jQ,vL];done))));try simp only [go_sem,simprocAttr,aC,aI,cU,hk,hk2, ← List.map_take, ← List.map_drop,List.take_length, ← jQ,vL])|((with_reducible refine oD ?_ ?_);kernel_rfl)|((with_reducible intro h);try simp only [go_sem,simprocAttr,aC,aI,cU,hk,hk2, ← List.map_take, ← List.map_drop,List.take_length, ← jQ,vL] at h)|omega|intro h)
  rw [KL]
 ·have aI:decide ((a:Int)∈way)=false:=decide_eq_false hmem
  have hv:=mP (f:=(·.2)) JJ
  have QM:(kT g a).length≤g.es.length:=jc
  repeat' (first|refine Rn.p ?_|(with_reducible apply And.intro)|((first|(refine hK _ ?_;clear hK K)|with_reducible intro K hK|refine Rs.p ?_|((with_reducible first|apply oP|apply oQ);exact rfl)|refine aa hX hC hP (kq g hm) rfl rfl rfl (by simp only [go_sem,simprocAttr,aC,aI,hv,aA]) rfl ?_|refine aa hX hC hP (de aH.nil _ [] _ jd (cW g (aO g)) CV) rfl rfl rfl (by simp only [go_sem,simprocAttr,aC,aI,hv,aA]) rfl ?_|(refine ai hX hC hP (bu way a cq) rfl rfl rfl ?_ ?_ ?_ ?_;iterate 3 (focus (simp only [go_sem,simprocAttr,aC,aI,hv,aA];done)))|(refine ai hX hC hP (aV way a cq) rfl rfl rfl ?_ ?_ ?_ ?_;iterate 3 (focus (simp only [go_sem,simprocAttr,aC,aI,hv,aA];done)))|(refine aJ hX hC hP [(10000,75)] (e9 (way.drop k) hlr) rfl rfl rfl ?_ ?_ ?_ ?_ ?_ ?_ ?_ ?_ ?_ ?_ ?_ ?_ ?_ ?_;(focus (simp only [go_sem,simprocAttr,aC,aI,hv,aA];done));(iterate 12 (focus (simp [go_sem,simprocAttr,aC,aI,hv,aA];done)));try simp only [List.map_cons,List.map_nil])|(refine ai hX hC hP (ku rev uI hrev) rfl rfl rfl ?_ ?_ ?_ ?_;iterate 3 (focus (simp only [go_sem,simprocAttr,aC,aI,hv,aA];done)))|(refine ai hX hC hP (aV rev (iU rev) wY) rfl rfl rfl ?_ ?_ ?_ ?_;iterate 3 (focus (simp only [go_sem,simprocAttr,aC,aI,hv,aA];done)))|(refine aq hX hC hP (dR [rev.drop k2,rev.take k2] hc1 JI L0) rfl rfl rfl ?_ ?_ rfl ?_;iterate 2 (focus (simp only [go_sem,simprocAttr,aC,aI,hv,aA];done))));try simp only [go_sem,simprocAttr,aC,aI,hv,aA])|((with_reducible refine oD ?_ ?_);kernel_rfl)|((with_reducible intro h);try simp only [go_sem,simprocAttr,aC,aI,hv,aA] at h)|omega|intro h)
  refine ag (fun j:Nat=>j≤(kT g a).length) (fun j=>⟨[(39,eN j),(38,eN (kT g a).length),(37, .d (sI (kT g a))),(7,eN (wX g (cW g (aO g)) ((kT g a).take j))),(0, .d (LZ g)),(4, .d (sI (cW g (aO g)))),(6, .ref 30)], [(30, .own 3 1 ((way++ [(a:Int)]).map rI))]⟩) (fun j=>(kT g a).length - j) 0 (by simp) ?_ ?_
  ·refine Le.of ?_ ?_<;>simp [go_sem,simprocAttr,aC,aI,hv,aA,kT,rI,wX]
  rintro j hj
  rcases Nat.lt_or_ge j (kT g a).length with hlt|hge
  ·have hb4:decide ((j:Int)<((kT g a).length:Int))=true:=decide_eq_true (by omega)
   obtain ⟨i,hi,hil,hit⟩:=yl (List.getElem_mem hlt)
   have hi1:(kT g a)[j]? =some (i:Int):=by rw [List.getElem?_eq_getElem hlt,hi]
   have hi2:(kT g a).getD j 0=(i:Int):=by rw [List.getD_eq_getElem?_getD,hi1];rfl
   obtain ⟨⟨Gq,vR⟩,_⟩:=dX hm hil
   have hstep:wX g (cW g (aO g)) ((kT g a).take (j+1))=fW g (cW g (aO g)) (wX g (cW g (aO g)) ((kT g a).take j)) i:=D8 hi1
   rw [Gu] at hstep
   repeat' (first|refine Rn.p ?_|(with_reducible apply And.intro)|((first|(refine hK _ ?_;clear hK K)|with_reducible intro K hK|refine Rs.p ?_|((with_reducible first|apply oP|apply oQ);exact rfl)|refine aa hX hC hP (kq g hm) rfl rfl rfl (by simp only [go_sem,simprocAttr,hb4,hi2,wts_length]) rfl ?_|refine aa hX hC hP (de aH.nil _ [] _ jd (cW g (aO g)) CV) rfl rfl rfl (by simp only [go_sem,simprocAttr,hb4,hi2,wts_length]) rfl ?_|(refine ai hX hC hP (bu way a cq) rfl rfl rfl ?_ ?_ ?_ ?_;iterate 3 (focus (simp only [go_sem,simprocAttr,hb4,hi2,wts_length];done)))|(refine ai hX hC hP (aV way a cq) rfl rfl rfl ?_ ?_ ?_ ?_;iterate 3 (focus (simp only [go_sem,simprocAttr,hb4,hi2,wts_length];done)))|(refine aJ hX hC hP [(10000,75)] (e9 (way.drop k) hlr) rfl rfl rfl ?_ ?_ ?_ ?_ ?_ ?_ ?_ ?_ ?_ ?_ ?_ ?_ ?_ ?_;(focus (simp only [go_sem,simprocAttr,hb4,hi2,wts_length];done));(iterate 12 (focus (simp [go_sem,simprocAttr,hb4,hi2,wts_length];done)));try simp only [List.map_cons,List.map_nil])|(refine ai hX hC hP (ku rev uI hrev) rfl rfl rfl ?_ ?_ ?_ ?_;iterate 3 (focus (simp only [go_sem,simprocAttr,hb4,hi2,wts_length];done)))|(refine ai hX hC hP (aV rev (iU rev) wY) rfl rfl rfl ?_ ?_ ?_ ?_;iterate 3 (focus (simp only [go_sem,simprocAttr,hb4,hi2,wts_length];done)))|(refine aq hX hC hP (dR [rev.drop k2,rev.take k2] hc1 JI L0) rfl rfl rfl ?_ ?_ rfl ?_;iterate 2 (focus (simp only [go_sem,simprocAttr,hb4,hi2,wts_length];done))));try simp only [go_sem,simprocAttr,hb4,hi2,wts_length])|((with_reducible refine oD ?_ ?_);kernel_rfl)|((with_reducible intro h);try simp only [go_sem,simprocAttr,hb4,hi2,wts_length] at h)|omega|intro h)
   all_goals (refine ⟨j+1,by omega, ?_,by omega⟩;first|rw [if_pos (by omega)] at hstep|rw [if_neg (by omega)] at hstep)
   all_goals (refine Le.of ?_ ?_<;>simp [go_sem,simprocAttr,hb4,hi2,wts_length,hstep])
  ·have hb4:decide ((j:Int)<((kT g a).length:Int))=false:=decide_eq_false (by omega)
   have ht:(kT g a).take j=kT g a:=List.take_of_length_le (by omega)
   repeat' (first|refine Rn.p ?_|(with_reducible apply And.intro)|((first|(refine hK _ ?_;clear hK K)|with_reducible intro K hK|refine Rs.p ?_|((with_reducible first|apply oP|apply oQ);exact rfl)|refine aa hX hC hP (kq g hm) rfl rfl rfl (by simp only [go_sem,simprocAttr,hb4,ht]) rfl ?_|refine aa hX hC hP (de aH.nil _ [] _ jd (cW g (aO g)) CV) rfl rfl rfl (by simp only [go_sem,simprocAttr,hb4,ht]) rfl ?_|(refine ai hX hC hP (bu way a cq) rfl rfl rfl ?_ ?_ ?_ ?_;iterate 3 (focus (simp only [go_sem,simprocAttr,hb4,ht];done)))|(refine ai hX hC hP (aV way a cq) rfl rfl rfl ?_ ?_ ?_ ?_;iterate 3 (focus (simp only [go_sem,simprocAttr,hb4,ht];done)))|(refine aJ hX hC hP [(10000,75)] (e9 (way.drop k) hlr) rfl rfl rfl ?_ ?_ ?_ ?_ ?_ ?_ ?_ ?_ ?_ ?_ ?_ ?_ ?_ ?_;(focus (simp only [go_sem,simprocAttr,hb4,ht];done));(iterate 12 (focus (simp [go_sem,simprocAttr,hb4,ht];done)));try simp only [List.map_cons,List.map_nil])|(refine ai hX hC hP (ku rev uI hrev) rfl rfl rfl ?_ ?_ ?_ ?_;iterate 3 (focus (simp only [go_sem,simprocAttr,hb4,ht];done)))|(refine ai hX hC hP (aV rev (iU rev) wY) rfl rfl rfl ?_ ?_ ?_ ?_;iterate 3 (focus (simp only [go_sem,simprocAttr,hb4,ht];done)))|(refine aq hX hC hP (dR [rev.drop k2,rev.take k2] hc1 JI L0) rfl rfl rfl ?_ ?_ rfl ?_;iterate 2 (focus (simp only [go_sem,simprocAttr,hb4,ht];done))));try simp only [go_sem,simprocAttr,hb4,ht])|((with_reducible refine oD ?_ ?_);kernel_rfl)|((with_reducible intro h);try simp only [go_sem,simprocAttr,hb4,ht] at h)|omega|intro h)
   refine ⟨(way++ [(a:Int)],jP g (cW g (aO g)) a),⟨z6.next JJ hmem,sr hm _ _ _ (.inl rfl) Gv, ?_⟩, ?_, ?_⟩
   ·simp only
    rw [← hrun,jo JJ hmem]
    simp only [lF]
    rw [if_neg (by intro h;rcases h with h|h;omega;exact hmem h)]
   ·refine Le.of ?_ ?_<;>simp [go_sem,simprocAttr,hb4,ht,jP]
   ·have:=jo JJ hmem;simp only;omega
end Go.Ab
end
section
namespace Go.Ab
open Go.Proofs
attribute [local congr] ACall.congr gd.congr Nx.congr
set_option maxRecDepth 10000
def eF (f:Int × Int × List Int):AV:= .agg [eN f.1,eN f.2.1, .d (sI f.2.2)]
attribute [go_sem] eF
def kC (g:Gr):Int:=bS (fun e:Edge=>decide (e.1=e.2)) g.es
def o4 (g:Gr) (i:Nat):Bool:=decide (g.es.getD i (0,0)∈g.es.take i)
def fQ (g:Gr):Int:=bS (o4 g) (List.range g.es.length)
def iM (g:Gr) (R8 bare:List Int):Int × Int × List Int:=
 if aX g=false then (1,0, []) else
 if 0≤kC g then (13,kC g, []) else
 if 0≤fQ g then (14,fQ g, []) else
 if 0<R8.length then (15,0,R8) else
 if 1<bare.length then (16,0,bare.take 2) else (0,0, [])
def dD (g:Gr):Int × Int × List Int:=iM g (kA g) (dN (·.2) g)
theorem kD (e:Edge):Spec Tryz.prog 112 (Args [eE e]) [] (eB (decide (e.1=e.2))) []:=by
 (refine Spec.hd (C:=T.cfg [] []) (rs:= [.t 2]) (T.ah _ _) Tryz.func112 rfl rfl Tryz.ntmps112 Tryz.results112 (by simp [AObj.isNest]) (by simp [AObj.isNest]) (by kernel_rfl) T.mixed fun X hX hP hC aB bK=> ?_)
 repeat' (first|refine Rn.p ?_|(with_reducible apply And.intro)|((first|(refine hK _ ?_;clear hK K)|with_reducible intro K hK|refine Rs.p ?_|((with_reducible first|apply oP|apply oQ);exact rfl));try simp only [go_sem,simprocAttr])|((with_reducible refine oD ?_ ?_);kernel_rfl)|((with_reducible intro h);try simp only [go_sem,simprocAttr] at h)|omega|intro h)
theorem cG {n k:Nat} (h:k<n) (d:Nat):(List.range n).getD k d=k:=by
 simp [List.getD_eq_getElem?_getD,List.getElem?_range h]
theorem js (g:Gr) (hl:g.es.length≤1000):Spec Tryz.prog 65 (Args [eG g]) [] (eF (dD g)) []:=by
 have hl:g.es.length≤9223372036854775807:=by omega
 (refine Spec.hd (C:=T.cfg [] []) (rs:= [.c 2 64]) (T.ah _ _) Tryz.func65 rfl rfl Tryz.ntmps65 Tryz.results65 (by simp [AObj.isNest]) (by simp [AObj.isNest]) (by kernel_rfl) T.mixed fun X hX hP hC aB bK=> ?_)
 cases hm:aX g with
 |false=>
  repeat' (first|refine Rn.p ?_|(with_reducible apply And.intro)|((first|(refine hK _ ?_;clear hK K)|with_reducible intro K hK|refine Rs.p ?_|((with_reducible first|apply oP|apply oQ);exact rfl)|refine aa hX hC hP (iA g hl) rfl rfl rfl (by simp only [go_sem,simprocAttr,hm]) rfl ?_|refine aa hX hC hP (bT aH.nil _ [] _ kD g.es hl) rfl rfl rfl (by simp only [go_sem,simprocAttr,hm]) rfl ?_|refine aa hX hC hP (iT g hm) rfl rfl rfl (by simp only [go_sem,simprocAttr,hm]) rfl ?_|refine aa hX hC hP (jr g hm) rfl rfl rfl (by simp only [go_sem,simprocAttr,hm]) rfl ?_|refine aa hX hC hP (gy g hm) rfl rfl rfl (by simp only [go_sem,simprocAttr,hm]) rfl ?_|refine aa hX hC hP (eO (g.es.take k) (g.es.getD k (0,0)) hlk) rfl rfl rfl (by simp only [go_sem,simprocAttr,hm]) rfl ?_);try simp only [go_sem,simprocAttr,hm])|((with_reducible refine oD ?_ ?_);kernel_rfl)|((with_reducible intro h);try simp only [go_sem,simprocAttr,hm] at h)|omega|intro h)
  all_goals simp [dD,iM,hm]
 |true=>
 have hn:=bF hm
 by_cases hlo:0≤kC g
 ·have aC:decide (0≤bS (fun p:Edge=>decide (p.1=p.2)) g.es)=true:=decide_eq_true hlo
  repeat' (first|refine Rn.p ?_|(with_reducible apply And.intro)|((first|(refine hK _ ?_;clear hK K)|with_reducible intro K hK|refine Rs.p ?_|((with_reducible first|apply oP|apply oQ);exact rfl)|refine aa hX hC hP (iA g hl) rfl rfl rfl (by simp only [go_sem,simprocAttr,hm,aC]) rfl ?_|refine aa hX hC hP (bT aH.nil _ [] _ kD g.es hl) rfl rfl rfl (by simp only [go_sem,simprocAttr,hm,aC]) rfl ?_|refine aa hX hC hP (iT g hm) rfl rfl rfl (by simp only [go_sem,simprocAttr,hm,aC]) rfl ?_|refine aa hX hC hP (jr g hm) rfl rfl rfl (by simp only [go_sem,simprocAttr,hm,aC]) rfl ?_|refine aa hX hC hP (gy g hm) rfl rfl rfl (by simp only [go_sem,simprocAttr,hm,aC]) rfl ?_|refine aa hX hC hP (eO (g.es.take k) (g.es.getD k (0,0)) hlk) rfl rfl rfl (by simp only [go_sem,simprocAttr,hm,aC]) rfl ?_);try simp only [go_sem,simprocAttr,hm,aC])|((with_reducible refine oD ?_ ?_);kernel_rfl)|((with_reducible intro h);try simp only [go_sem,simprocAttr,hm,aC] at h)|omega|intro h)
  all_goals (
   have hc:dD g=(13,kC g, []):=by
    simp only [dD,iM];rw [if_neg (by simp [hm]),if_pos hlo]
   rw [hc]<;>rfl)
 have aC:decide (0≤bS (fun p:Edge=>decide (p.1=p.2)) g.es)=false:=decide_eq_false hlo
 repeat' (first|refine Rn.p ?_|(with_reducible apply And.intro)|((first|(refine hK _ ?_;clear hK K)|with_reducible intro K hK|refine Rs.p ?_|((with_reducible first|apply oP|apply oQ);exact rfl)|refine aa hX hC hP (iA g hl) rfl rfl rfl (by simp only [go_sem,simprocAttr,hm,aC]) rfl ?_|refine aa hX hC hP (bT aH.nil _ [] _ kD g.es hl) rfl rfl rfl (by simp only [go_sem,simprocAttr,hm,aC]) rfl ?_|refine aa hX hC hP (iT g hm) rfl rfl rfl (by simp only [go_sem,simprocAttr,hm,aC]) rfl ?_|refine aa hX hC hP (jr g hm) rfl rfl rfl (by simp only [go_sem,simprocAttr,hm,aC]) rfl ?_|refine aa hX hC hP (gy g hm) rfl rfl rfl (by simp only [go_sem,simprocAttr,hm,aC]) rfl ?_|refine aa hX hC hP (eO (g.es.take k) (g.es.getD k (0,0)) hlk) rfl rfl rfl (by simp only [go_sem,simprocAttr,hm,aC]) rfl ?_);try simp only [go_sem,simprocAttr,hm,aC])|((with_reducible refine oD ?_ ?_);kernel_rfl)|((with_reducible intro h);try simp only [go_sem,simprocAttr,hm,aC] at h)|omega|intro h)
 refine ag (fun k:Nat=>k≤g.es.length∧∀j,j<k→o4 g j=false) (fun k=>⟨[(23,eN k),(22,eN g.es.length),(21, .d (sE g.es)),(1, .ptr 1 0),(2, .ptr 2 0)], [(1, .box [eN g.n, .d (sE g.es)]),(2, .box [eN 0,eN 0, .nil 3])]⟩) (fun k=>g.es.length - k) 0 (by simp) ?_ ?_
 ·(refine Le.of ?_ ?_<;>simp [go_sem,simprocAttr,hm,aC])
 rintro k ⟨hk,KM⟩
 rcases Nat.lt_or_ge k g.es.length with hlt|hge
 ·have aI:decide ((k:Int)<(g.es.length:Int))=true:=decide_eq_true (by omega)
  have hlk:(g.es.take k).length≤9223372036854775807:=by rw [List.length_take];omega
  repeat' (first|refine Rn.p ?_|(with_reducible apply And.intro)|((first|(refine hK _ ?_;clear hK K)|with_reducible intro K hK|refine Rs.p ?_|((with_reducible first|apply oP|apply oQ);exact rfl)|refine aa hX hC hP (iA g hl) rfl rfl rfl (by simp only [go_sem,simprocAttr,hm,aC,aI, ← List.map_take]) rfl ?_|refine aa hX hC hP (bT aH.nil _ [] _ kD g.es hl) rfl rfl rfl (by simp only [go_sem,simprocAttr,hm,aC,aI, ← List.map_take]) rfl ?_|refine aa hX hC hP (iT g hm) rfl rfl rfl (by simp only [go_sem,simprocAttr,hm,aC,aI, ← List.map_take]) rfl ?_|refine aa hX hC hP (jr g hm) rfl rfl rfl (by simp only [go_sem,simprocAttr,hm,aC,aI, ← List.map_take]) rfl ?_|refine aa hX hC hP (gy g hm) rfl rfl rfl (by simp only [go_sem,simprocAttr,hm,aC,aI, ← List.map_take]) rfl ?_|refine aa hX hC hP (eO (g.es.take k) (g.es.getD k (0,0)) hlk) rfl rfl rfl (by simp only [go_sem,simprocAttr,hm,aC,aI, ← List.map_take]) rfl ?_);try simp only [go_sem,simprocAttr,hm,aC,aI, ← List.map_take])|((with_reducible refine oD ?_ ?_);kernel_rfl)|((with_reducible intro h);try simp only [go_sem,simprocAttr,hm,aC,aI, ← List.map_take] at h)|omega|intro h)
  any_goals (
   have QO:fQ g=(k:Int):=bZ (d:=0) (by simpa using hlt) (fun j hj=>by rw [cG (by omega)];exact KM j hj) (by rw [cG hlt];exact decide_eq_true h)
   have hc:dD g=(14,fQ g, []):=by
    simp only [dD,iM];rw [if_neg (by simp [hm]),if_neg hlo,if_pos (by omega)]
   rw [hc]<;>first|rfl|exact QO.symm)
  refine ⟨k+1,⟨by omega,fun j hj=> ?_⟩, ?_,by omega⟩
  ·by_cases hjk:j=k
   ·subst hjk;exact decide_eq_false h
   ·exact KM j (by omega)
  ·(refine Le.of ?_ ?_<;>simp [go_sem,simprocAttr,hm,aC,aI, ← List.map_take])
 ·have aI:decide ((k:Int)<(g.es.length:Int))=false:=decide_eq_false (by omega)
  have Gw:¬0≤fQ g:=by
   have:fQ g= -1:=bA 0 fun j hj=>by
    rw [List.length_range] at hj
    rw [cG hj];exact KM j (by omega)
   omega
  repeat' (first|refine Rn.p ?_|(with_reducible apply And.intro)|((first|(refine hK _ ?_;clear hK K)|with_reducible intro K hK|refine Rs.p ?_|((with_reducible first|apply oP|apply oQ);exact rfl)|refine aa hX hC hP (iA g hl) rfl rfl rfl (by simp only [go_sem,simprocAttr,hm,aC,aI]) rfl ?_|refine aa hX hC hP (bT aH.nil _ [] _ kD g.es hl) rfl rfl rfl (by simp only [go_sem,simprocAttr,hm,aC,aI]) rfl ?_|refine aa hX hC hP (iT g hm) rfl rfl rfl (by simp only [go_sem,simprocAttr,hm,aC,aI]) rfl ?_|refine aa hX hC hP (jr g hm) rfl rfl rfl (by simp only [go_sem,simprocAttr,hm,aC,aI]) rfl ?_|refine aa hX hC hP (gy g hm) rfl rfl rfl (by simp only [go_sem,simprocAttr,hm,aC,aI]) rfl ?_|refine aa hX hC hP (eO (g.es.take k) (g.es.getD k (0,0)) hlk) rfl rfl rfl (by simp only [go_sem,simprocAttr,hm,aC,aI]) rfl ?_);try simp only [go_sem,simprocAttr,hm,aC,aI])|((with_reducible refine oD ?_ ?_);kernel_rfl)|((with_reducible intro h);try simp only [go_sem,simprocAttr,hm,aC,aI] at h)|omega|intro h)
  all_goals (
   have hc:dD g=if 0<(kA g).length then (15,0,kA g) else if 1<(dN (·.2) g).length then (16,0,(dN (·.2) g).take 2) else (0,0, []):=by
    simp only [dD,iM];rw [if_neg (by simp [hm]),if_neg hlo,if_neg Gw]
   first|rw [if_pos (by omega)] at hc|(rw [if_neg (by omega)] at hc;first|rw [if_pos (by omega)] at hc|rw [if_neg (by omega)] at hc)
   rw [hc]<;>first|rfl|simp only [List.map_take])
end Go.Ab
end
section
namespace Go.Ab
open Go.Proofs
attribute [local congr] ACall.congr gd.congr Nx.congr
set_option maxRecDepth 10000
theorem bE (ps:List Int) (x:Int) (hl:ps.length≤9223372036854775807):
 Spec Tryz.prog 196 (Args [.d (sI ps),eN x]) [] (eN (gw ps x)) []:=by
 (refine Spec.hd (C:=T.cfg [] []) (rs:= [.t 4]) (T.ah _ _) Tryz.func196 rfl rfl Tryz.ntmps196 Tryz.results196 (by simp [AObj.isNest]) (by simp [AObj.isNest]) (by kernel_rfl) T.mixed fun X hX hP hC aB bK=> ?_)
 repeat' (first|refine Rn.p ?_|(with_reducible apply And.intro)|((first|(refine hK _ ?_;clear hK K)|with_reducible intro K hK|refine Rs.p ?_|((with_reducible first|apply oP|apply oQ);exact rfl));try simp only [go_sem,simprocAttr])|((with_reducible refine oD ?_ ?_);kernel_rfl)|((with_reducible intro h);try simp only [go_sem,simprocAttr] at h)|omega|intro h)
 refine ag (fun k:Nat=>k≤ps.length∧∀j,j<k→decide (x=ps.getD j 0)=false) (fun k=>⟨[(0, .d (sI ps)),(1,eN x),(5,eN k)], []⟩) (fun k=>ps.length - k) 0 (by simp) ?_ ?_
 ·(refine ⟨bD ?_,fun _ _ h=>h⟩;simp [go_sem,simprocAttr])
 rintro k ⟨hk,hg⟩
 repeat' (first|refine Rn.p ?_|(with_reducible apply And.intro)|((first|(refine hK _ ?_;clear hK K)|with_reducible intro K hK|refine Rs.p ?_|((with_reducible first|apply oP|apply oQ);exact rfl));try simp only [go_sem,simprocAttr])|((with_reducible refine oD ?_ ?_);kernel_rfl)|((with_reducible intro h);try simp only [go_sem,simprocAttr] at h)|omega|intro h)
 ·exact (bZ (by omega) hg (by simpa using h.symm)).symm
 ·refine ⟨k+1,⟨by omega,fun j hj=> ?_⟩, ?_,by omega⟩
  ·by_cases hjk:j=k
   ·subst hjk;exact fun e=>h (Eq.symm e)
   ·simpa using hg j (by omega)
  ·(refine ⟨bD ?_,fun _ _ h=>h⟩;simp [go_sem,simprocAttr])
 ·exact (bA 0 fun j hj=>hg j (by omega)).symm
def aZ (f:Edge→Int) (es:List Edge) (k:Nat) (x:Int):List Int:=((List.range k).filter fun i=>decide (f (es.getD i (0,0))=x)).map Int.ofNat
theorem mQ (f:Edge→Int) (es:List Edge) (k x:Nat):fD f es k x=aZ f es k (x:Int):=rfl
theorem je {f:Edge→Int} {es:List Edge} {k:Nat} {x:Int} :(aZ f es k x).length≤k:=by
 simpa [aZ] using List.length_filter_le (fun i=>decide (f (es.getD i (0,0))=x)) (List.range k)
theorem uJ {f:Edge→Int} {es:List Edge} {k:Nat} {x:Int} :aZ f es (k+1) x=aZ f es k x++if f (es.getD k (0,0))=x then [(k:Int)] else []:=by
 simp only [aZ,List.range_succ,List.filter_append,List.map_append,List.filter_cons,List.filter_nil]
 split<;>simp_all
def oe (b:Bool) (e:Edge):Int:=if b then e.1 else e.2
theorem q7 (g:Gr) (x:Int) (b:Bool) (hl:g.es.length≤1000):Spec Tryz.prog 55 (Args [eG g,eN x,eB b]) [] (.d (sI (aZ (oe b) g.es g.es.length x))) []:=by
 (refine Spec.hd (C:=T.cfg [] []) (rs:= [.t 6]) (T.ah _ _) Tryz.func55 rfl rfl Tryz.ntmps55 Tryz.results55 (by simp [AObj.isNest]) (by simp [AObj.isNest]) (by kernel_rfl) T.mixed fun X hX hP hC aB bK=> ?_)
 repeat' (first|refine Rn.p ?_|(with_reducible apply And.intro)|((first|(refine hK _ ?_;clear hK K)|with_reducible intro K hK|refine Rs.p ?_|((with_reducible first|apply oP|apply oQ);exact rfl));try simp only [go_sem,simprocAttr])|((with_reducible refine oD ?_ ?_);kernel_rfl)|((with_reducible intro h);try simp only [go_sem,simprocAttr] at h)|omega|intro h)
 (refine qZ hX 7 9 45 (by simp only [go_sem,simprocAttr]) rfl (by first|exact .inl rfl|exact .inr rfl) (by decide) ?_;simp only [go_sem,simprocAttr])
 refine ag (fun k:Nat=>k≤g.es.length) (fun k=>⟨[(1,eN x),(2,eB b),(3, .ptr 3 0),(8,eN k),(7, .ref 45)], [(3, .box [eN g.n, .d (sE g.es)]),(45, .tip 3 1 ((aZ (oe b) g.es k x).map rI))]⟩) (fun k=>g.es.length - k) 0 (by simp) ?_ ?_
 ·refine Le.of ?_ ?_<;>simp [go_sem,simprocAttr,aZ]
 rintro k hk
 rcases Nat.lt_or_ge k g.es.length with hlt|hge
 ·have hb:decide ((k:Int)<(g.es.length:Int))=true:=decide_eq_true (by omega)
  have jK:=je (f:=oe b) (es:=g.es) (k:=k) (x:=x)
  cases b
  ·have gJ:aZ (oe false) g.es (k+1) x=aZ (oe false) g.es k x++if (g.es.getD k (0,0)).2=x then [(k:Int)] else []:=uJ
   repeat' (first|refine Rn.p ?_|(with_reducible apply And.intro)|((first|(refine hK _ ?_;clear hK K)|with_reducible intro K hK|refine Rs.p ?_|((with_reducible first|apply oP|apply oQ);exact rfl));try simp only [go_sem,simprocAttr,hb])|((with_reducible refine oD ?_ ?_);kernel_rfl)|((with_reducible intro h);try simp only [go_sem,simprocAttr,hb] at h)|omega|intro h)
   all_goals (first|rw [if_pos (by assumption)] at gJ|rw [if_neg (by assumption),List.append_nil] at gJ)
   all_goals (refine ⟨k+1,by omega, ?_,by omega⟩;refine Le.of ?_ ?_<;>simp [go_sem,simprocAttr,hb,gJ,rI])
  ·have gJ:aZ (oe true) g.es (k+1) x=aZ (oe true) g.es k x++if (g.es.getD k (0,0)).1=x then [(k:Int)] else []:=uJ
   repeat' (first|refine Rn.p ?_|(with_reducible apply And.intro)|((first|(refine hK _ ?_;clear hK K)|with_reducible intro K hK|refine Rs.p ?_|((with_reducible first|apply oP|apply oQ);exact rfl));try simp only [go_sem,simprocAttr,hb])|((with_reducible refine oD ?_ ?_);kernel_rfl)|((with_reducible intro h);try simp only [go_sem,simprocAttr,hb] at h)|omega|intro h)
   all_goals (first|rw [if_pos (by assumption)] at gJ|rw [if_neg (by assumption),List.append_nil] at gJ)
   all_goals (refine ⟨k+1,by omega, ?_,by omega⟩;refine Le.of ?_ ?_<;>simp [go_sem,simprocAttr,hb,gJ,rI])
 ·have hb:decide ((k:Int)<(g.es.length:Int))=false:=decide_eq_false (by omega)
  obtain rfl:k=g.es.length:=by omega
  repeat' (first|refine Rn.p ?_|(with_reducible apply And.intro)|((first|(refine hK _ ?_;clear hK K)|with_reducible intro K hK|refine Rs.p ?_|((with_reducible first|apply oP|apply oQ);exact rfl));try simp only [go_sem,simprocAttr,hb])|((with_reducible refine oD ?_ ?_);kernel_rfl)|((with_reducible intro h);try simp only [go_sem,simprocAttr,hb] at h)|omega|intro h)
theorem dr (g:Gr) (b:Bool) (hl:g.es.length≤1000) (hn:0≤g.n∧g.n≤1000):Spec Tryz.prog 17 (Args [eG g,eB b]) [] (.d (sI (dN (oe (!b)) g))) []:=by
 (refine Spec.hd (C:=T.cfg [] []) (rs:= [.t 4]) (T.ah _ _) Tryz.func17 rfl rfl Tryz.ntmps17 Tryz.results17 (by simp [AObj.isNest]) (by simp [AObj.isNest]) (by kernel_rfl) T.mixed fun X hX hP hC aB bK=> ?_)
 repeat' (first|refine Rn.p ?_|(with_reducible apply And.intro)|((first|(refine hK _ ?_;clear hK K)|with_reducible intro K hK|refine Rs.p ?_|((with_reducible first|apply oP|apply oQ);exact rfl)|refine aa hX hC hP (q7 g (k:Int) (!b) hl) rfl rfl rfl (by simp only [go_sem,simprocAttr]) rfl ?_);try simp only [go_sem,simprocAttr])|((with_reducible refine oD ?_ ?_);kernel_rfl)|((with_reducible intro h);try simp only [go_sem,simprocAttr] at h)|omega|intro h)
 (refine qZ hX 5 7 24 (by simp only [go_sem,simprocAttr]) rfl (by first|exact .inl rfl|exact .inr rfl) (by decide) ?_;simp only [go_sem,simprocAttr])
 refine ag (fun k:Nat=>k≤g.n.toNat) (fun k=>⟨[(1,eB b),(2, .ptr 2 0),(6,eN k),(5, .ref 24)], [(2, .box [eN g.n, .d (sE g.es)]),(24, .tip 3 1 ((jO (eR (oe (!b)) g) k).map rI))]⟩) (fun k=>g.n.toNat - k) 0 (by simp) ?_ ?_
 ·refine Le.of ?_ ?_<;>simp [go_sem,simprocAttr,jO]
 rintro k hk
 rcases Nat.lt_or_ge k g.n.toNat with hlt|hge
 ·have hb:decide ((k:Int)<g.n)=true:=decide_eq_true (by omega)
  have jK:=wW (ls:=eR (oe (!b)) g) (k:=k)
  have he:(eR (oe (!b)) g).getD k []=aZ (oe (!b)) g.es g.es.length (k:Int):=by
   simp [eR,List.getD_eq_getElem?_getD,List.getElem?_range hlt,mQ]
  have gJ:=o3 (ls:=eR (oe (!b)) g) (k:=k)
  rw [he] at gJ
  repeat' (first|refine Rn.p ?_|(with_reducible apply And.intro)|((first|(refine hK _ ?_;clear hK K)|with_reducible intro K hK|refine Rs.p ?_|((with_reducible first|apply oP|apply oQ);exact rfl)|refine aa hX hC hP (q7 g (k:Int) (!b) hl) rfl rfl rfl (by simp only [go_sem,simprocAttr,hb]) rfl ?_);try simp only [go_sem,simprocAttr,hb])|((with_reducible refine oD ?_ ?_);kernel_rfl)|((with_reducible intro h);try simp only [go_sem,simprocAttr,hb] at h)|omega|intro h)
  all_goals (first|rw [if_pos (by omega)] at gJ|rw [if_neg (by omega),List.append_nil] at gJ)
  all_goals (refine ⟨k+1,by omega, ?_,by omega⟩;refine Le.of ?_ ?_<;>simp [go_sem,simprocAttr,hb,gJ,rI])
 ·have hb:decide ((k:Int)<g.n)=false:=decide_eq_false (by omega)
  obtain rfl:k=g.n.toNat:=by omega
  repeat' (first|refine Rn.p ?_|(with_reducible apply And.intro)|((first|(refine hK _ ?_;clear hK K)|with_reducible intro K hK|refine Rs.p ?_|((with_reducible first|apply oP|apply oQ);exact rfl)|refine aa hX hC hP (q7 g (k:Int) (!b) hl) rfl rfl rfl (by simp only [go_sem,simprocAttr,hb]) rfl ?_);try simp only [go_sem,simprocAttr,hb])|((with_reducible refine oD ?_ ?_);kernel_rfl)|((with_reducible intro h);try simp only [go_sem,simprocAttr,hb] at h)|omega|intro h)
  rfl
end Go.Ab
end
section
namespace Go.Ab
open Go.Proofs
attribute [local congr] ACall.congr gd.congr Nx.congr
set_option maxRecDepth 10000
def rB (b:Bool):List D:= [.sc (.bool b)]
def sB (l:List Bool):D:= .sl 1 (l.map rB)
theorem getD_rB (l:List Bool) (i:Nat):(l.map rB).getD i [.sc (.bool false)]= [.sc (.bool (l.getD i false))]:=by
 simp only [List.getD_eq_getElem?_getD,List.getElem?_map]
 cases l[i]? <;>rfl
attribute [go_sem] getD_rB sB
theorem mR (l:List Bool) (k:Nat) (v:Bool):(l.map rB).set k [.sc (.bool v)]=(l.set k v).map rB:=by
 rw [List.map_set];rfl
theorem wZ {α:Type} {n k:Nat} {f:Nat→α} {v:α} :((List.range n).map f).set k v=(List.range n).map fun y=>if y=k then v else f y:=by
 refine List.ext_getElem? fun i=> ?_
 rw [List.getElem?_set,List.length_map,List.length_range]
 by_cases hi:i<n
 ·rw [List.getElem?_map,List.getElem?_map,List.getElem?_range hi]
  by_cases h:k=i
  ·subst h;simp [hi]
  ·have:¬i=k:=fun e=>h e.symm
   simp [h,this]
 ·rw [List.getElem?_eq_none (by simp;omega),List.getElem?_eq_none (by simp;omega)]
  split
  ·rw [if_neg (by omega)]
  ·rfl
def mS (n k:Nat):List Bool:=(List.range n).map fun y=>decide (y<k)
def fE (g:Gr) (l:List Bool) (j:Nat):List Bool:=(List.range g.n.toNat).map fun y:Nat=>(List.range j).any fun i=>decide (hd g i=(y:Int))&&(l.getD (tl g i).toNat false&&l.getD (hd g i).toNat false)
def fZ (g:Gr):Nat→List Bool
 |0=>mS g.n.toNat g.n.toNat
 |k+1=>fE g (fZ g k) g.es.length
theorem trueK_length {n k:Nat} :(mS n k).length=n:=by simp [mS]
theorem nextK_length {g:Gr} {l:List Bool} {j:Nat} :(fE g l j).length=g.n.toNat:=by simp [fE]
theorem leftK_length {g:Gr} {k:Nat} :(fZ g k).length=g.n.toNat:=by
 cases k
 ·exact trueK_length
 ·exact nextK_length
theorem Bz {n:Nat} :List.replicate n [D.sc (.bool false)]=(mS n 0).map rB:=by
 refine List.ext_getElem? fun i=> ?_
 by_cases hi:i<n
 ·simp [mS,hi,rB,List.getElem?_range hi]
 ·rw [List.getElem?_eq_none (by simp;omega),List.getElem?_eq_none (by simp [mS];omega)]
theorem lG {n k:Nat} :(mS n k).set k true=mS n (k+1):=by
 unfold mS;rw [wZ]
 refine List.map_congr_left fun y _=> ?_
 split
 ·rename_i h;subst h;simp
 ·rename_i h
  rw [Bool.eq_iff_iff];simp;omega
theorem BA {g:Gr} {l:List Bool} :List.replicate g.n.toNat [D.sc (.bool false)]=(fE g l 0).map rB:=by
 refine List.ext_getElem? fun i=> ?_
 by_cases hi:i<g.n.toNat
 ·simp [fE,hi,rB,List.getElem?_range hi]
 ·rw [List.getElem?_eq_none (by simp;omega),List.getElem?_eq_none (by simp [fE];omega)]
theorem D9 {g:Gr} {l:List Bool} {j:Nat} (h0:0≤hd g j) (h:(l.getD (tl g j).toNat false&&l.getD (hd g j).toNat false)=true):(fE g l j).set (hd g j).toNat true=fE g l (j+1):=by
 unfold fE;rw [wZ]
 refine List.map_congr_left fun y _=> ?_
 rw [List.range_succ,List.any_append]
 simp only [List.any_cons,List.any_nil,h,Bool.and_true,Bool.or_false]
 split
 ·rename_i e
  have:hd g j=(y:Int):=by omega
  simp [this]
 ·rename_i e
  have:¬hd g j=(y:Int):=by omega
  simp [this]
theorem Gx {g:Gr} {l:List Bool} {j:Nat} (h:(l.getD (tl g j).toNat false&&l.getD (hd g j).toNat false)=false):fE g l j=fE g l (j+1):=by
 unfold fE
 refine List.map_congr_left fun y _=> ?_
 rw [List.range_succ,List.any_append]
 simp only [List.any_cons,List.any_nil,h,Bool.and_false,Bool.or_false]
attribute [go_sem] trueK_length nextK_length leftK_length
theorem dg (g:Gr) (hm:aX g=true):Spec Tryz.prog 195 (Args [eG g]) [] (.d (sB (fZ g g.n.toNat))) []:=by
 have hn:=bF hm
 (refine Spec.hd (C:=T.cfg [] []) (rs:= [.t 2]) (T.ah _ _) Tryz.func195 rfl rfl Tryz.ntmps195 Tryz.results195 (by simp [AObj.isNest]) (by simp [AObj.isNest]) (by kernel_rfl) T.mixed fun X hX hP hC aB bK=> ?_)
 repeat' (first|(show cA _ (.seq (.region 6 _ _) _) _ _;(refine c9 hX 11 rfl (.inl rfl) ?_;simp only [go_sem,simprocAttr]))|(show cA _ (.region 8 _ _) _ _;(refine c9 hX 29 rfl (.inl rfl) ?_;simp only [go_sem,simprocAttr]))|refine Rn.p ?_|(with_reducible apply And.intro)|((first|(refine hK _ ?_;clear hK K)|with_reducible intro K hK|refine Rs.p ?_|((with_reducible first|apply oP|apply oQ);exact rfl));try simp only [go_sem,simprocAttr])|((with_reducible refine oD ?_ ?_);kernel_rfl)|((with_reducible intro h);try simp only [go_sem,simprocAttr] at h)|omega|intro h)
 refine ag (fun k:Nat=>k≤g.n.toNat) (fun k=>⟨[(1, .ptr 1 0),(4,eN k),(3, .ref 11)], [(1, .box [eN g.n, .d (sE g.es)]),(11, .own 4 1 ((mS g.n.toNat k).map rB))]⟩) (fun k=>g.n.toNat - k) 0 (by simp) ?_ ?_
 ·refine Le.of ?_ ?_<;>simp [go_sem,simprocAttr]
  exact Bz
 rintro k hk
 rcases Nat.lt_or_ge k g.n.toNat with hlt|hge
 ·have hb:decide ((k:Int)<g.n)=true:=decide_eq_true (by omega)
  repeat' (first|(show cA _ (.seq (.region 6 _ _) _) _ _;(refine c9 hX 11 rfl (.inl rfl) ?_;simp only [go_sem,simprocAttr,hb,mR,lG]))|(show cA _ (.region 8 _ _) _ _;(refine c9 hX 29 rfl (.inl rfl) ?_;simp only [go_sem,simprocAttr,hb,mR,lG]))|refine Rn.p ?_|(with_reducible apply And.intro)|((first|(refine hK _ ?_;clear hK K)|with_reducible intro K hK|refine Rs.p ?_|((with_reducible first|apply oP|apply oQ);exact rfl));try simp only [go_sem,simprocAttr,hb,mR,lG])|((with_reducible refine oD ?_ ?_);kernel_rfl)|((with_reducible intro h);try simp only [go_sem,simprocAttr,hb,mR,lG] at h)|omega|intro h)
  refine ⟨k+1,by omega, ?_,by omega⟩
  (refine Le.of ?_ ?_<;>simp [go_sem,simprocAttr])
 ·have hb:decide ((k:Int)<g.n)=false:=decide_eq_false (by omega)
  obtain rfl:k=g.n.toNat:=by omega
  repeat' (first|(show cA _ (.seq (.region 6 _ _) _) _ _;(refine c9 hX 11 rfl (.inl rfl) ?_;simp only [go_sem,simprocAttr,hb]))|(show cA _ (.region 8 _ _) _ _;(refine c9 hX 29 rfl (.inl rfl) ?_;simp only [go_sem,simprocAttr,hb]))|refine Rn.p ?_|(with_reducible apply And.intro)|((first|(refine hK _ ?_;clear hK K)|with_reducible intro K hK|refine Rs.p ?_|((with_reducible first|apply oP|apply oQ);exact rfl));try simp only [go_sem,simprocAttr,hb])|((with_reducible refine oD ?_ ?_);kernel_rfl)|((with_reducible intro h);try simp only [go_sem,simprocAttr,hb] at h)|omega|intro h)
  clear hb hk hge
  refine ag (fun k:Nat=>k≤g.n.toNat) (fun k=>⟨[(1, .ptr 1 0),(5,eN k),(3, .d (sB (fZ g k)))], [(1, .box [eN g.n, .d (sE g.es)])]⟩) (fun k=>g.n.toNat - k) 0 (by simp) ?_ ?_
  ·refine Le.of ?_ ?_<;>simp [go_sem,simprocAttr,fZ]
  rintro k hk
  rcases Nat.lt_or_ge k g.n.toNat with hlt|hge
  ·have hb:decide ((k:Int)<g.n)=true:=decide_eq_true (by omega)
   repeat' (first|(show cA _ (.seq (.region 6 _ _) _) _ _;(refine c9 hX 11 rfl (.inl rfl) ?_;simp only [go_sem,simprocAttr,hb]))|(show cA _ (.region 8 _ _) _ _;(refine c9 hX 29 rfl (.inl rfl) ?_;simp only [go_sem,simprocAttr,hb]))|refine Rn.p ?_|(with_reducible apply And.intro)|((first|(refine hK _ ?_;clear hK K)|with_reducible intro K hK|refine Rs.p ?_|((with_reducible first|apply oP|apply oQ);exact rfl));try simp only [go_sem,simprocAttr,hb])|((with_reducible refine oD ?_ ?_);kernel_rfl)|((with_reducible intro h);try simp only [go_sem,simprocAttr,hb] at h)|omega|intro h)
   refine ag (fun j:Nat=>j≤g.es.length) (fun j=>⟨[(1, .ptr 1 0),(5,eN k),(3, .d (sB (fZ g k))),(7,eN j),(6, .ref 29)], [(1, .box [eN g.n, .d (sE g.es)]),(29, .own 4 1 ((fE g (fZ g k) j).map rB))]⟩) (fun j=>g.es.length - j) 0 (by simp) ?_ ?_
   ·refine Le.of ?_ ?_<;>simp [go_sem,simprocAttr]
    exact BA
   rintro j hj
   rcases Nat.lt_or_ge j g.es.length with hjl|L1
   ·have aI:decide ((j:Int)<(g.es.length:Int))=true:=decide_eq_true (by omega)
    obtain ⟨⟨Gq,vR⟩,⟨zx,tW⟩⟩:=dX hm hjl
    repeat' (first|(show cA _ (.seq (.region 6 _ _) _) _ _;(refine c9 hX 11 rfl (.inl rfl) ?_;simp only [go_sem,simprocAttr,aI,mR]))|(show cA _ (.region 8 _ _) _ _;(refine c9 hX 29 rfl (.inl rfl) ?_;simp only [go_sem,simprocAttr,aI,mR]))|refine Rn.p ?_|(with_reducible apply And.intro)|((first|(refine hK _ ?_;clear hK K)|with_reducible intro K hK|refine Rs.p ?_|((with_reducible first|apply oP|apply oQ);exact rfl));try simp only [go_sem,simprocAttr,aI,mR])|((with_reducible refine oD ?_ ?_);kernel_rfl)|((with_reducible intro h);try simp only [go_sem,simprocAttr,aI,mR] at h)|omega|intro h)
    ·have hy:(fE g (fZ g k) j).set (g.es.getD j (0,0)).2.toNat true=fE g (fZ g k) (j+1):=D9 zx (by rw [Bool.and_eq_true];exact ⟨by assumption,by assumption⟩)
     refine ⟨j+1,by omega, ?_,by omega⟩
     refine Le.of ?_ ?_<;>simp [go_sem,simprocAttr]
     rw [← hy,List.map_set];rfl
    all_goals (
     have hy:fE g (fZ g k) j=fE g (fZ g k) (j+1):=Gx (Bool.and_eq_false_iff.2 (by first|exact .inl (by assumption)|exact .inr (by assumption)))
     refine ⟨j+1,by omega, ?_,by omega⟩
     refine Le.of ?_ ?_<;>simp [go_sem,simprocAttr, ← hy])
   ·have aI:decide ((j:Int)<(g.es.length:Int))=false:=decide_eq_false (by omega)
    obtain rfl:j=g.es.length:=by omega
    repeat' (first|(show cA _ (.seq (.region 6 _ _) _) _ _;(refine c9 hX 11 rfl (.inl rfl) ?_;simp only [go_sem,simprocAttr,aI]))|(show cA _ (.region 8 _ _) _ _;(refine c9 hX 29 rfl (.inl rfl) ?_;simp only [go_sem,simprocAttr,aI]))|refine Rn.p ?_|(with_reducible apply And.intro)|((first|(refine hK _ ?_;clear hK K)|with_reducible intro K hK|refine Rs.p ?_|((with_reducible first|apply oP|apply oQ);exact rfl));try simp only [go_sem,simprocAttr,aI])|((with_reducible refine oD ?_ ?_);kernel_rfl)|((with_reducible intro h);try simp only [go_sem,simprocAttr,aI] at h)|omega|intro h)
    refine ⟨k+1,by omega, ?_,by omega⟩
    refine Le.of ?_ ?_<;>simp [go_sem,simprocAttr,fZ]
  ·have hb:decide ((k:Int)<g.n)=false:=decide_eq_false (by omega)
   obtain rfl:k=g.n.toNat:=by omega
   repeat' (first|(show cA _ (.seq (.region 6 _ _) _) _ _;(refine c9 hX 11 rfl (.inl rfl) ?_;simp only [go_sem,simprocAttr,hb]))|(show cA _ (.region 8 _ _) _ _;(refine c9 hX 29 rfl (.inl rfl) ?_;simp only [go_sem,simprocAttr,hb]))|refine Rn.p ?_|(with_reducible apply And.intro)|((first|(refine hK _ ?_;clear hK K)|with_reducible intro K hK|refine Rs.p ?_|((with_reducible first|apply oP|apply oQ);exact rfl));try simp only [go_sem,simprocAttr,hb])|((with_reducible refine oD ?_ ?_);kernel_rfl)|((with_reducible intro h);try simp only [go_sem,simprocAttr,hb] at h)|omega|intro h)
end Go.Ab
end
section
namespace Go.Ab
open Go.Proofs
attribute [local congr] ACall.congr gd.congr Nx.congr
set_option maxRecDepth 10000
def ym (g:Gr):List Bool:=fZ g g.n.toNat
theorem uK {g:Gr} :fZ g g.n.toNat=ym g:=rfl
def H7 (g:Gr):Int:=if bS (fun b:Bool=>b) (ym g)<0 then g.n else bS (fun b:Bool=>b) (ym g)
def yo (g:Gr) (x:Int) (b:Int) (i:Nat):Int:=if hd g i=x∧(ym g).getD (tl g i).toNat false=true then min b (tl g i) else b
def eV (g:Gr) (x:Int) (k:Nat):Int:=(List.range k).foldl (yo g x) g.n
def o5 (g:Gr):Nat→List Int→Int→List Int × Int
 |0,way,x=>(way,x)
 |f+1,way,x=>if x∈way then (way,x) else o5 g f (way++ [x]) (eV g x g.es.length)
def gx (g:Gr):Gr:=⟨g.n+1,g.es⟩
def qh (g:Gr):List Int × Int:=o5 g (g.n.toNat+1) [] (H7 g)
def sY (l:List Int) (m k:Nat):List Int:=(List.range k).map fun i=>l.getD ((m+l.length - i) % l.length) 0
def w5 (l:List Int):List Int:=sY l (gw l (iU l)).toNat l.length
def mT (g:Gr):List Int:=if H7 g=g.n then [] else w5 ((qh g).1.drop (gw (qh g).1 (qh g).2).toNat)
theorem o6 {g:Gr} {x:Int} {k:Nat} :eV g x (k+1)=yo g x (eV g x k) k:=by
 simp [eV,List.range_succ]
theorem sx {g:Gr} (hm:aX g=true) {x:Int} :∀ {k:Nat},k≤g.es.length→0≤eV g x k∧eV g x k≤g.n
 |0,_=>by have:=bF hm;simp [eV];omega
 |k+1,h=>by
  have ih:=sx hm (x:=x) (k:=k) (by omega)
  obtain ⟨⟨h1,h2⟩,_⟩:=dX hm (k:=k) (by omega)
  rw [o6];unfold yo tl
  split<;>omega
theorem Ea {l:List Int} {m k:Nat} :sY l m (k+1)=sY l m k++ [l.getD ((m+l.length - k) % l.length) 0]:=by
 simp [sY,List.range_succ]
theorem z7 {g:Gr} {way:List Int} {a:Int} (h:a∈way):∀f,o5 g f way a=(way,a)
 |0=>rfl
 |f+1=>by simp only [o5];rw [if_pos h]
theorem yp:∀ {l:List Int} {x:Int},x∈l→iU l≤x
 |a::r,x,h=>by
  have:∀(r:List Int) (a:Int),r.foldl min a≤a∧∀x∈r,r.foldl min a≤x:=by
   intro r
   induction r with
   |nil=>intro a;exact ⟨Int.le_refl _,by simp⟩
   |cons b r ih=>
    intro a
    obtain ⟨h1,h2⟩:=ih (min a b)
    simp only [List.foldl_cons]
    refine ⟨by omega,fun x hx=> ?_⟩
    rcases List.mem_cons.1 hx with rfl|hx
    ·omega
    ·exact h2 x hx
  obtain ⟨h1,h2⟩:=this r a
  rcases List.mem_cons.1 h with rfl|h
  ·exact h1
  ·exact h2 x h
theorem jt {l:List Int} {m:Nat} (h:m<l.length):l.getD m 0∈l:=by
 rw [List.getD_eq_getElem?_getD,List.getElem?_eq_getElem h];exact List.getElem_mem h
theorem Gy {l:List Int} {m:Nat} (hm:m<l.length) (h1:∀j,j<l.length→l.getD m 0≤l.getD j 0) (h2:∀j,j<m→l.getD m 0<l.getD j 0):gw l (iU l)=m:=by
 have hmin:iU l=l.getD m 0:=by
  have g1:=yp (jt hm)
  obtain ⟨j,hj,e⟩:=List.getElem_of_mem (jq (l:=l) (by omega))
  have g2:=h1 j hj
  rw [List.getD_eq_getElem?_getD (l:=l) (i:=j),List.getElem?_eq_getElem hj,Option.getD_some,e] at g2
  omega
 refine bZ (d:=0) hm (fun j hj=> ?_) ?_
 ·have:=h2 j hj
  rw [hmin];simp only [decide_eq_false_iff_not];omega
 ·rw [hmin];simp
theorem dS (g:Gr) (hm:aX g=true):Spec Tryz.prog 156 (Args [eG g]) [] (.d (sI (mT g))) []:=by
 have hn:=bF hm
 have hlf:(ym g).length=g.n.toNat:=leftK_length
 (refine Spec.hd (C:=T.cfg [] []) (rs:= [.t 2]) (T.ah _ _) Tryz.func156 rfl rfl Tryz.ntmps156 Tryz.results156 (by simp [AObj.isNest]) (by simp [AObj.isNest]) (by kernel_rfl) T.mixed fun X hX hP hC aB bK=> ?_)
 repeat' (first|refine Rn.p ?_|(with_reducible apply And.intro)|((first|(refine hK _ ?_;clear hK K)|with_reducible intro K hK|refine Rs.p ?_|((with_reducible first|apply oP|apply oQ);exact rfl)|refine aa hX hC hP (dg g hm) rfl rfl rfl (by simp only [go_sem,simprocAttr,uK]) rfl ?_|(refine ai hX hC hP (bE way x cq) rfl rfl rfl ?_ ?_ ?_ ?_;iterate 3 (focus (simp only [go_sem,simprocAttr,uK];done)))|(refine ai hX hC hP (bE way (a:Int) cq) rfl rfl rfl ?_ ?_ ?_ ?_;iterate 3 (focus (simp only [go_sem,simprocAttr,uK];done))));try simp only [go_sem,simprocAttr,uK])|((with_reducible refine oD ?_ ?_);kernel_rfl)|((with_reducible intro h);try simp only [go_sem,simprocAttr,uK] at h)|omega|intro h)
 refine ag (fun k:Nat=>k≤g.n.toNat∧∀j,j<k→(ym g).getD j false=false) (fun k=>⟨[(1, .ptr 1 0),(4,eN k),(3, .d (sB (ym g)))], [(1, .box [eN g.n, .d (sE g.es)])]⟩) (fun k=>g.n.toNat - k) 0 (by simp) ?_ ?_
 ·refine Le.of ?_ ?_<;>simp [go_sem,simprocAttr,ym]
 rintro k ⟨hk,hno⟩
 rcases Nat.lt_or_ge k g.n.toNat with hlt|hge
 ·have hb:decide ((k:Int)<g.n)=true:=decide_eq_true (by omega)
  cases hkb:(ym g).getD k false with
  |false=>
   repeat' (first|refine Rn.p ?_|(with_reducible apply And.intro)|((first|(refine hK _ ?_;clear hK K)|with_reducible intro K hK|refine Rs.p ?_|((with_reducible first|apply oP|apply oQ);exact rfl)|refine aa hX hC hP (dg g hm) rfl rfl rfl (by simp only [go_sem,simprocAttr,hb,hkb,hlf]) rfl ?_|(refine ai hX hC hP (bE way x cq) rfl rfl rfl ?_ ?_ ?_ ?_;iterate 3 (focus (simp only [go_sem,simprocAttr,hb,hkb,hlf];done)))|(refine ai hX hC hP (bE way (a:Int) cq) rfl rfl rfl ?_ ?_ ?_ ?_;iterate 3 (focus (simp only [go_sem,simprocAttr,hb,hkb,hlf];done))));try simp only [go_sem,simprocAttr,hb,hkb,hlf])|((with_reducible refine oD ?_ ?_);kernel_rfl)|((with_reducible intro h);try simp only [go_sem,simprocAttr,hb,hkb,hlf] at h)|omega|intro h)
   refine ⟨k+1,⟨by omega,fun j hj=> ?_⟩, ?_,by omega⟩
   ·by_cases hjk:j=k
    ·subst hjk;exact hkb
    ·exact hno j (by omega)
   ·(refine Le.of ?_ ?_<;>simp [go_sem,simprocAttr,hb,hkb,hlf])
  |true=>
   have hst:H7 g=k:=by
    have:bS (fun b:Bool=>b) (ym g)=k:=bZ (d:=false) (by omega) hno hkb
    unfold H7;rw [this,if_neg (by omega)]
   have hne:decide ((k:Int)=g.n)=false:=decide_eq_false (by omega)
   repeat' (first|refine Rn.p ?_|(with_reducible apply And.intro)|((first|(refine hK _ ?_;clear hK K)|with_reducible intro K hK|refine Rs.p ?_|((with_reducible first|apply oP|apply oQ);exact rfl)|refine aa hX hC hP (dg g hm) rfl rfl rfl (by simp only [go_sem,simprocAttr,hb,hkb,hlf,hne]) rfl ?_|(refine ai hX hC hP (bE way x cq) rfl rfl rfl ?_ ?_ ?_ ?_;iterate 3 (focus (simp only [go_sem,simprocAttr,hb,hkb,hlf,hne];done)))|(refine ai hX hC hP (bE way (a:Int) cq) rfl rfl rfl ?_ ?_ ?_ ?_;iterate 3 (focus (simp only [go_sem,simprocAttr,hb,hkb,hlf,hne];done))));try simp only [go_sem,simprocAttr,hb,hkb,hlf,hne])|((with_reducible refine oD ?_ ?_);kernel_rfl)|((with_reducible intro h);try simp only [go_sem,simprocAttr,hb,hkb,hlf,hne] at h)|omega|intro h)
   clear hno hb hne hkb
   (refine qZ hX 5 31 39 (by simp only [go_sem,simprocAttr]) rfl (by first|exact .inl rfl|exact .inr rfl) (by decide) ?_;simp only [go_sem,simprocAttr])
   refine ag (fun i:List Int × Int=>Way (gx g) i.1∧(0≤i.2∧i.2≤g.n)∧o5 g (left (gx g) i.1) i.1 i.2=qh g) (fun i=>⟨[(1, .ptr 1 0),(4,eN i.2),(3, .d (sB (ym g))),(5, .ref 39)], [(1, .box [eN g.n, .d (sE g.es)]),(39, .tip 3 1 (i.1.map rI))]⟩) (fun i=>left (gx g) i.1) ([],(k:Int)) ⟨Way.nil _,by simp only;omega, ?_⟩ ?_ ?_
   ·simp only [qg,qh,gx,hst]
    rw [show (g.n+1).toNat=g.n.toNat+1 from by omega]
   ·refine Le.of ?_ ?_<;>simp [go_sem,simprocAttr]
   rintro ⟨way,x⟩ ⟨z6,hx,hrun⟩
   simp only at z6 hx hrun ⊢
   have TD:way.length≤65:=by have:=z6.fuel;simp only [gx] at this;omega
   have cq:way.length≤9223372036854775807:=by omega
   by_cases hmem:x∈way
   ·have hend:=z7 (g:=g) hmem (left (gx g) way)
    rw [hrun] at hend
    obtain ⟨m,vS,hm2,_⟩:=eS hmem
    have hneg:decide ((m:Int)<0)=false:=decide_eq_false (by omega)
    obtain ⟨l,JK⟩:∃l,l=way.drop m:=⟨_,rfl⟩
    have jK:l.length=way.length - m:=by rw [JK];simp
    have KL:mT g=w5 l:=by
     simp only [mT,hend,vS,Int.toNat_natCast, ← JK]
     rw [if_neg (by omega)]
    repeat' (first|refine Rn.p ?_|(with_reducible apply And.intro)|((first|(refine hK _ ?_;clear hK K)|with_reducible intro K hK|refine Rs.p ?_|((with_reducible first|apply oP|apply oQ);exact rfl)|refine aa hX hC hP (dg g hm) rfl rfl rfl (by simp only [go_sem,simprocAttr,vS,hneg, ← List.map_take, ← List.map_drop,List.take_length, ← JK]) rfl ?_|(refine ai hX hC hP (bE way x cq) rfl rfl rfl ?_ ?_ ?_ ?_;iterate 3 (focus (simp only [go_sem,simprocAttr,vS,hneg, ← List.map_take, ← List.map_drop,List.take_length, ← JK];done)))|(refine ai hX hC hP (bE way (a:Int) cq) rfl rfl rfl ?_ ?_ ?_ ?_;iterate 3 (focus (simp only [go_sem,simprocAttr,vS,hneg, ← List.map_take, ← List.map_drop,List.take_length, ← JK];done))));try simp only [go_sem,simprocAttr,vS,hneg, ← List.map_take, ← List.map_drop,List.take_length, ← JK])|((with_reducible refine oD ?_ ?_);kernel_rfl)|((with_reducible intro h);try simp only [go_sem,simprocAttr,vS,hneg, ← List.map_take, ← List.map_drop,List.take_length, ← JK] at h)|omega|intro h)
    clear hrun z6 hend vS hneg JK
    have hl0:0<l.length:=by omega
    have hlm:l.length≤65:=by omega
    refine ag (fun i:Nat × Nat=>i.1≤l.length∧i.2<l.length∧(∀j,j<i.1→l.getD i.2 0≤l.getD j 0)∧(∀j,j<i.2→l.getD i.2 0<l.getD j 0)) (fun i=>⟨[(9,eN i.1),(8,eN i.2),(5, .d (sI l))], []⟩) (fun i=>l.length - i.1) (0,0) ⟨by simp,hl0,by simp,by simp⟩ ?_ ?_
    ·refine Le.of ?_ ?_<;>simp [go_sem,simprocAttr]
    rintro ⟨i,q⟩ ⟨hi,hq,hq1,A8⟩
    simp only at hi hq hq1 A8 ⊢
    rcases Nat.lt_or_ge i l.length with hil|IM
    ·have hb:decide ((i:Int)<(l.length:Int))=true:=decide_eq_true (by omega)
     repeat' (first|refine Rn.p ?_|(with_reducible apply And.intro)|((first|(refine hK _ ?_;clear hK K)|with_reducible intro K hK|refine Rs.p ?_|((with_reducible first|apply oP|apply oQ);exact rfl)|refine aa hX hC hP (dg g hm) rfl rfl rfl (by simp only [go_sem,simprocAttr,hb]) rfl ?_|(refine ai hX hC hP (bE way x cq) rfl rfl rfl ?_ ?_ ?_ ?_;iterate 3 (focus (simp only [go_sem,simprocAttr,hb];done)))|(refine ai hX hC hP (bE way (a:Int) cq) rfl rfl rfl ?_ ?_ ?_ ?_;iterate 3 (focus (simp only [go_sem,simprocAttr,hb];done))));try simp only [go_sem,simprocAttr,hb])|((with_reducible refine oD ?_ ?_);kernel_rfl)|((with_reducible intro h);try simp only [go_sem,simprocAttr,hb] at h)|omega|intro h)
     ·refine ⟨(i+1,i),⟨by simp only;omega,hil,fun j hj=> ?_,fun j hj=> ?_⟩, ?_,by simp only;omega⟩
      ·simp only at hj ⊢
       by_cases hji:j=i
       ·subst hji;exact Int.le_refl _
       ·have:=hq1 j (by omega);omega
      ·simp only at hj ⊢
       have:=hq1 j hj;omega
      ·refine Le.of ?_ ?_<;>simp [go_sem,simprocAttr]
     ·refine ⟨(i+1,q),⟨by simp only;omega,hq,fun j hj=> ?_,A8⟩, ?_,by simp only;omega⟩
      ·simp only at hj ⊢
       by_cases hji:j=i
       ·subst hji;omega
       ·exact hq1 j (by omega)
      ·refine Le.of ?_ ?_<;>simp [go_sem,simprocAttr]
    ·have hb:decide ((i:Int)<(l.length:Int))=false:=decide_eq_false (by omega)
     obtain rfl:i=l.length:=by omega
     have hidx:=Gy hq hq1 A8
     repeat' (first|refine Rn.p ?_|(with_reducible apply And.intro)|((first|(refine hK _ ?_;clear hK K)|with_reducible intro K hK|refine Rs.p ?_|((with_reducible first|apply oP|apply oQ);exact rfl)|refine aa hX hC hP (dg g hm) rfl rfl rfl (by simp only [go_sem,simprocAttr,hb]) rfl ?_|(refine ai hX hC hP (bE way x cq) rfl rfl rfl ?_ ?_ ?_ ?_;iterate 3 (focus (simp only [go_sem,simprocAttr,hb];done)))|(refine ai hX hC hP (bE way (a:Int) cq) rfl rfl rfl ?_ ?_ ?_ ?_;iterate 3 (focus (simp only [go_sem,simprocAttr,hb];done))));try simp only [go_sem,simprocAttr,hb])|((with_reducible refine oD ?_ ?_);kernel_rfl)|((with_reducible intro h);try simp only [go_sem,simprocAttr,hb] at h)|omega|intro h)
     clear hi hb IM
     (refine qZ hX 10 98 119 (by simp only [go_sem,simprocAttr]) rfl (by first|exact .inl rfl|exact .inr rfl) (by decide) ?_;simp only [go_sem,simprocAttr])
     refine ag (fun i:Nat=>i≤l.length) (fun i=>⟨[(5, .d (sI l)),(8,eN q),(11,eN i),(10, .ref 119)], [(119, .tip 3 1 ((sY l q i).map rI))]⟩) (fun i=>l.length - i) 0 (by simp) ?_ ?_
     ·refine Le.of ?_ ?_<;>simp [go_sem,simprocAttr,sY]
     rintro i hi
     have hrl:(sY l q i).length=i:=by simp [sY]
     rcases Nat.lt_or_ge i l.length with hil|IM
     ·have hb:decide ((i:Int)<(l.length:Int))=true:=decide_eq_true (by omega)
      have L2:((q:Int)+(l.length:Int) - (i:Int)).tmod (l.length:Int)=(((q+l.length - i) % l.length:Nat):Int):=by
       rw [show (q:Int)+(l.length:Int) - (i:Int)=((q+l.length - i:Nat):Int) from by omega]
       rw [Int.tmod_eq_emod_of_nonneg (by omega)];rfl
      have hmod:(q+l.length - i) % l.length<l.length:=Nat.mod_lt _ hl0
      repeat' (first|refine Rn.p ?_|(with_reducible apply And.intro)|((first|(refine hK _ ?_;clear hK K)|with_reducible intro K hK|refine Rs.p ?_|((with_reducible first|apply oP|apply oQ);exact rfl)|refine aa hX hC hP (dg g hm) rfl rfl rfl (by simp only [go_sem,simprocAttr,hb,L2]) rfl ?_|(refine ai hX hC hP (bE way x cq) rfl rfl rfl ?_ ?_ ?_ ?_;iterate 3 (focus (simp only [go_sem,simprocAttr,hb,L2];done)))|(refine ai hX hC hP (bE way (a:Int) cq) rfl rfl rfl ?_ ?_ ?_ ?_;iterate 3 (focus (simp only [go_sem,simprocAttr,hb,L2];done))));try simp only [go_sem,simprocAttr,hb,L2])|((with_reducible refine oD ?_ ?_);kernel_rfl)|((with_reducible intro h);try simp only [go_sem,simprocAttr,hb,L2] at h)|omega|intro h)
      refine ⟨i+1,by omega, ?_,by omega⟩
      rw [Ea]
      refine Le.of ?_ ?_<;>simp [go_sem,simprocAttr,rI]
     ·have hb:decide ((i:Int)<(l.length:Int))=false:=decide_eq_false (by omega)
      obtain rfl:i=l.length:=by omega
      repeat' (first|refine Rn.p ?_|(with_reducible apply And.intro)|((first|(refine hK _ ?_;clear hK K)|with_reducible intro K hK|refine Rs.p ?_|((with_reducible first|apply oP|apply oQ);exact rfl)|refine aa hX hC hP (dg g hm) rfl rfl rfl (by simp only [go_sem,simprocAttr,hb]) rfl ?_|(refine ai hX hC hP (bE way x cq) rfl rfl rfl ?_ ?_ ?_ ?_;iterate 3 (focus (simp only [go_sem,simprocAttr,hb];done)))|(refine ai hX hC hP (bE way (a:Int) cq) rfl rfl rfl ?_ ?_ ?_ ?_;iterate 3 (focus (simp only [go_sem,simprocAttr,hb];done))));try simp only [go_sem,simprocAttr,hb])|((with_reducible refine oD ?_ ?_);kernel_rfl)|((with_reducible intro h);try simp only [go_sem,simprocAttr,hb] at h)|omega|intro h)
      rw [KL,w5,hidx];rfl
   ·have hi:gw way x= -1:=by
     rcases gT (f:=fun y:Int=>decide (x=y)) (l:=way) 0 with ⟨h1,_⟩|⟨q,_,h2,h3,_⟩
     ·exact h1
     ·exact absurd (by rw [of_decide_eq_true h3,List.getD_eq_getElem?_getD,List.getElem?_eq_getElem h2];exact List.getElem_mem h2) hmem
    obtain ⟨a,rfl⟩:∃a:Nat,x=a:=⟨x.toNat,by omega⟩
    have JJ:a<(gx g).n.toNat:=by simp only [gx];omega
    repeat' (first|refine Rn.p ?_|(with_reducible apply And.intro)|((first|(refine hK _ ?_;clear hK K)|with_reducible intro K hK|refine Rs.p ?_|((with_reducible first|apply oP|apply oQ);exact rfl)|refine aa hX hC hP (dg g hm) rfl rfl rfl (by simp only [go_sem,simprocAttr,hi]) rfl ?_|(refine ai hX hC hP (bE way x cq) rfl rfl rfl ?_ ?_ ?_ ?_;iterate 3 (focus (simp only [go_sem,simprocAttr,hi];done)))|(refine ai hX hC hP (bE way (a:Int) cq) rfl rfl rfl ?_ ?_ ?_ ?_;iterate 3 (focus (simp only [go_sem,simprocAttr,hi];done))));try simp only [go_sem,simprocAttr,hi])|((with_reducible refine oD ?_ ?_);kernel_rfl)|((with_reducible intro h);try simp only [go_sem,simprocAttr,hi] at h)|omega|intro h)
    refine ag (fun j:Nat=>j≤g.es.length) (fun j=>⟨[(1, .ptr 1 0),(4,eN a),(3, .d (sB (ym g))),(5, .ref 39),(6,eN (eV g a j)),(7,eN j)], [(1, .box [eN g.n, .d (sE g.es)]),(39, .tip 3 1 ((way++ [(a:Int)]).map rI))]⟩) (fun j=>g.es.length - j) 0 (by simp) ?_ ?_
    ·refine Le.of ?_ ?_<;>simp [go_sem,simprocAttr,rI,eV]
    rintro j hj
    rcases Nat.lt_or_ge j g.es.length with hjl|L1
    ·have aI:decide ((j:Int)<(g.es.length:Int))=true:=decide_eq_true (by omega)
     obtain ⟨⟨Gq,vR⟩,_⟩:=dX hm hjl
     have gJ:eV g a (j+1)=if (g.es.getD j (0,0)).2=(a:Int)∧(ym g).getD (g.es.getD j (0,0)).1.toNat false=true then min (eV g a j) (g.es.getD j (0,0)).1 else eV g a j:=o6
     repeat' (first|refine Rn.p ?_|(with_reducible apply And.intro)|((first|(refine hK _ ?_;clear hK K)|with_reducible intro K hK|refine Rs.p ?_|((with_reducible first|apply oP|apply oQ);exact rfl)|refine aa hX hC hP (dg g hm) rfl rfl rfl (by simp only [go_sem,simprocAttr,aI,hlf]) rfl ?_|(refine ai hX hC hP (bE way x cq) rfl rfl rfl ?_ ?_ ?_ ?_;iterate 3 (focus (simp only [go_sem,simprocAttr,aI,hlf];done)))|(refine ai hX hC hP (bE way (a:Int) cq) rfl rfl rfl ?_ ?_ ?_ ?_;iterate 3 (focus (simp only [go_sem,simprocAttr,aI,hlf];done))));try simp only [go_sem,simprocAttr,aI,hlf])|((with_reducible refine oD ?_ ?_);kernel_rfl)|((with_reducible intro h);try simp only [go_sem,simprocAttr,aI,hlf] at h)|omega|intro h)
     all_goals (first|rw [if_pos ⟨by assumption,by assumption⟩] at gJ|rw [if_neg (fun e=>by first|exact absurd e.1 (by assumption)|simp_all)] at gJ)
     all_goals (refine ⟨j+1,by omega, ?_,by omega⟩;refine Le.of ?_ ?_<;>simp [go_sem,simprocAttr,gJ])
    ·have aI:decide ((j:Int)<(g.es.length:Int))=false:=decide_eq_false (by omega)
     obtain rfl:j=g.es.length:=by omega
     repeat' (first|refine Rn.p ?_|(with_reducible apply And.intro)|((first|(refine hK _ ?_;clear hK K)|with_reducible intro K hK|refine Rs.p ?_|((with_reducible first|apply oP|apply oQ);exact rfl)|refine aa hX hC hP (dg g hm) rfl rfl rfl (by simp only [go_sem,simprocAttr,aI]) rfl ?_|(refine ai hX hC hP (bE way x cq) rfl rfl rfl ?_ ?_ ?_ ?_;iterate 3 (focus (simp only [go_sem,simprocAttr,aI];done)))|(refine ai hX hC hP (bE way (a:Int) cq) rfl rfl rfl ?_ ?_ ?_ ?_;iterate 3 (focus (simp only [go_sem,simprocAttr,aI];done))));try simp only [go_sem,simprocAttr,aI])|((with_reducible refine oD ?_ ?_);kernel_rfl)|((with_reducible intro h);try simp only [go_sem,simprocAttr,aI] at h)|omega|intro h)
     refine ⟨(way++ [(a:Int)],eV g a g.es.length),⟨z6.next JJ hmem,sx hm (Nat.le_refl _), ?_⟩, ?_, ?_⟩
     ·simp only
      rw [← hrun,jo JJ hmem]
      simp only [o5]
      rw [if_neg hmem]
     ·refine Le.of ?_ ?_<;>simp [go_sem,simprocAttr]
     ·have:=jo JJ hmem;simp only;omega
 ·have hb:decide ((k:Int)<g.n)=false:=decide_eq_false (by omega)
  have hst:H7 g=g.n:=by
   have:bS (fun b:Bool=>b) (ym g)= -1:=bA false fun j hj=>hno j (by omega)
   unfold H7;rw [this,if_pos (by omega)]
  have hne:decide ((k:Int)=g.n)=true:=decide_eq_true (by omega)
  repeat' (first|refine Rn.p ?_|(with_reducible apply And.intro)|((first|(refine hK _ ?_;clear hK K)|with_reducible intro K hK|refine Rs.p ?_|((with_reducible first|apply oP|apply oQ);exact rfl)|refine aa hX hC hP (dg g hm) rfl rfl rfl (by simp only [go_sem,simprocAttr,hb,hne]) rfl ?_|(refine ai hX hC hP (bE way x cq) rfl rfl rfl ?_ ?_ ?_ ?_;iterate 3 (focus (simp only [go_sem,simprocAttr,hb,hne];done)))|(refine ai hX hC hP (bE way (a:Int) cq) rfl rfl rfl ?_ ?_ ?_ ?_;iterate 3 (focus (simp only [go_sem,simprocAttr,hb,hne];done))));try simp only [go_sem,simprocAttr,hb,hne])|((with_reducible refine oD ?_ ?_);kernel_rfl)|((with_reducible intro h);try simp only [go_sem,simprocAttr,hb,hne] at h)|omega|intro h)
  simp only [mT];rw [if_pos hst];rfl
end Go.Ab
end
section
namespace Go.Ab
open Go.Proofs
attribute [local congr] ACall.congr gd.congr Nx.congr
set_option maxRecDepth 10000
def mU (g:Gr):Int × Int × List Int:=iM g (mT g) (dN (·.2) g)
theorem z8 {l:List Edge} {k:Nat} {x:Edge} :x∈l.take k↔∃j,j<k∧j<l.length∧l.getD j (0,0)=x:=by
 rw [List.mem_iff_getElem?]
 constructor
 ·rintro ⟨j,hj⟩
  rw [List.getElem?_take] at hj
  split at hj
  ·exact ⟨j,by assumption,(List.getElem?_eq_some_iff.1 hj).1,by rw [List.getD_eq_getElem?_getD,hj];rfl⟩
  ·cases hj
 ·rintro ⟨j,h1,h2,h3⟩
  refine ⟨j, ?_⟩
  rw [List.getElem?_take,if_pos h1,List.getElem?_eq_getElem h2]
  rw [List.getD_eq_getElem?_getD,List.getElem?_eq_getElem h2] at h3
  exact congrArg some h3
theorem v8 (g:Gr) (hl0:g.es.length≤1000):Spec Tryz.prog 107 (Args [eG g]) [] (.tup [eN (mU g).1,eN (mU g).2.1, .d (sI (mU g).2.2)]) []:=by
 have hl:g.es.length≤9223372036854775807:=by omega
 (refine Spec.hd (C:=T.cfg [] []) (rs:= [.t 2, .t 3, .t 4]) (T.ah _ _) Tryz.func107 rfl rfl Tryz.ntmps107 Tryz.results107 (by simp [AObj.isNest]) (by simp [AObj.isNest]) (by kernel_rfl) T.mixed fun X hX hP hC aB bK=> ?_)
 cases hm:aX g with
 |false=>
  repeat' (first|refine Rn.p ?_|(with_reducible apply And.intro)|((first|(refine hK _ ?_;clear hK K)|with_reducible intro K hK|refine Rs.p ?_|((with_reducible first|apply oP|apply oQ);exact rfl)|refine aa hX hC hP (dQ g hl) rfl rfl rfl (by simp only [go_sem,simprocAttr,hm]) rfl ?_|refine aa hX hC hP (dS g hm) rfl rfl rfl (by simp only [go_sem,simprocAttr,hm]) rfl ?_|refine aa hX hC hP (dr g true hl0 hn0) rfl rfl rfl (by simp only [go_sem,simprocAttr,hm]) rfl ?_);try simp only [go_sem,simprocAttr,hm])|((with_reducible refine oD ?_ ?_);kernel_rfl)|((with_reducible intro h);try simp only [go_sem,simprocAttr,hm] at h)|omega|intro h)
  all_goals simp [mU,iM,hm]
 |true=>
 have hn:=bF hm
 have hn0:0≤g.n∧g.n≤1000:=by omega
 repeat' (first|refine Rn.p ?_|(with_reducible apply And.intro)|((first|(refine hK _ ?_;clear hK K)|with_reducible intro K hK|refine Rs.p ?_|((with_reducible first|apply oP|apply oQ);exact rfl)|refine aa hX hC hP (dQ g hl) rfl rfl rfl (by simp only [go_sem,simprocAttr,hm]) rfl ?_|refine aa hX hC hP (dS g hm) rfl rfl rfl (by simp only [go_sem,simprocAttr,hm]) rfl ?_|refine aa hX hC hP (dr g true hl0 hn0) rfl rfl rfl (by simp only [go_sem,simprocAttr,hm]) rfl ?_);try simp only [go_sem,simprocAttr,hm])|((with_reducible refine oD ?_ ?_);kernel_rfl)|((with_reducible intro h);try simp only [go_sem,simprocAttr,hm] at h)|omega|intro h)
 refine ag (fun k:Nat=>k≤g.es.length∧∀j,j<k→decide ((g.es.getD j (0,0)).1=(g.es.getD j (0,0)).2)=false) (fun k=>⟨[(5,eN k),(1, .ptr 1 0)], [(1, .box [eN g.n, .d (sE g.es)])]⟩) (fun k=>g.es.length - k) 0 (by simp) ?_ ?_
 ·(refine Le.of ?_ ?_<;>simp [go_sem,simprocAttr,hm])
 rintro k ⟨hk,hno⟩
 rcases Nat.lt_or_ge k g.es.length with hlt|hge
 ·have aI:decide ((k:Int)<(g.es.length:Int))=true:=decide_eq_true (by omega)
  repeat' (first|refine Rn.p ?_|(with_reducible apply And.intro)|((first|(refine hK _ ?_;clear hK K)|with_reducible intro K hK|refine Rs.p ?_|((with_reducible first|apply oP|apply oQ);exact rfl)|refine aa hX hC hP (dQ g hl) rfl rfl rfl (by simp only [go_sem,simprocAttr,hm,aI]) rfl ?_|refine aa hX hC hP (dS g hm) rfl rfl rfl (by simp only [go_sem,simprocAttr,hm,aI]) rfl ?_|refine aa hX hC hP (dr g true hl0 hn0) rfl rfl rfl (by simp only [go_sem,simprocAttr,hm,aI]) rfl ?_);try simp only [go_sem,simprocAttr,hm,aI])|((with_reducible refine oD ?_ ?_);kernel_rfl)|((with_reducible intro h);try simp only [go_sem,simprocAttr,hm,aI] at h)|omega|intro h)
  any_goals (
   have hlo:kC g=(k:Int):=bZ (d:=(0,0)) hlt hno (decide_eq_true h)
   have hc:mU g=(13,kC g, []):=by
    simp only [mU,iM];rw [if_neg (by simp [hm]),if_pos (by omega)]
   rw [hc]<;>first|rfl|exact hlo.symm)
  refine ⟨k+1,⟨by omega,fun j hj=> ?_⟩, ?_,by omega⟩
  ·by_cases hjk:j=k
   ·subst hjk;exact h
   ·simpa using hno j (by omega)
  ·(refine Le.of ?_ ?_<;>simp [go_sem,simprocAttr,hm,aI])
 ·have aI:decide ((k:Int)<(g.es.length:Int))=false:=decide_eq_false (by omega)
  have hlo:¬0≤kC g:=by
   have:kC g= -1:=bA (0,0) fun j hj=>hno j (by omega)
   omega
  repeat' (first|refine Rn.p ?_|(with_reducible apply And.intro)|((first|(refine hK _ ?_;clear hK K)|with_reducible intro K hK|refine Rs.p ?_|((with_reducible first|apply oP|apply oQ);exact rfl)|refine aa hX hC hP (dQ g hl) rfl rfl rfl (by simp only [go_sem,simprocAttr,hm,aI]) rfl ?_|refine aa hX hC hP (dS g hm) rfl rfl rfl (by simp only [go_sem,simprocAttr,hm,aI]) rfl ?_|refine aa hX hC hP (dr g true hl0 hn0) rfl rfl rfl (by simp only [go_sem,simprocAttr,hm,aI]) rfl ?_);try simp only [go_sem,simprocAttr,hm,aI])|((with_reducible refine oD ?_ ?_);kernel_rfl)|((with_reducible intro h);try simp only [go_sem,simprocAttr,hm,aI] at h)|omega|intro h)
  clear hno aI hk hge
  refine ag (fun k:Nat=>k≤g.es.length∧∀j,j<k→o4 g j=false) (fun k=>⟨[(6,eN k),(1, .ptr 1 0)], [(1, .box [eN g.n, .d (sE g.es)])]⟩) (fun k=>g.es.length - k) 0 (by simp) ?_ ?_
  ·(refine Le.of ?_ ?_<;>simp [go_sem,simprocAttr])
  rintro k ⟨hk,KM⟩
  rcases Nat.lt_or_ge k g.es.length with hlt|hge
  ·have aI:decide ((k:Int)<(g.es.length:Int))=true:=decide_eq_true (by omega)
   repeat' (first|refine Rn.p ?_|(with_reducible apply And.intro)|((first|(refine hK _ ?_;clear hK K)|with_reducible intro K hK|refine Rs.p ?_|((with_reducible first|apply oP|apply oQ);exact rfl)|refine aa hX hC hP (dQ g hl) rfl rfl rfl (by simp only [go_sem,simprocAttr,hm,aI]) rfl ?_|refine aa hX hC hP (dS g hm) rfl rfl rfl (by simp only [go_sem,simprocAttr,hm,aI]) rfl ?_|refine aa hX hC hP (dr g true hl0 hn0) rfl rfl rfl (by simp only [go_sem,simprocAttr,hm,aI]) rfl ?_);try simp only [go_sem,simprocAttr,hm,aI])|((with_reducible refine oD ?_ ?_);kernel_rfl)|((with_reducible intro h);try simp only [go_sem,simprocAttr,hm,aI] at h)|omega|intro h)
   refine ag (fun q:Nat=>q≤k∧∀j,j<q→¬g.es.getD j (0,0)=g.es.getD k (0,0)) (fun q=>⟨[(6,eN k),(7,eN q),(1, .ptr 1 0)], [(1, .box [eN g.n, .d (sE g.es)])]⟩) (fun q=>k - q) 0 (by simp) ?_ ?_
   ·(refine Le.of ?_ ?_<;>simp [go_sem,simprocAttr,hm,aI])
   rintro q ⟨hq,hne⟩
   rcases Nat.lt_or_ge q k with IN|IN
   ·have cU:decide ((q:Int)<(k:Int))=true:=decide_eq_true (by omega)
    repeat' (first|refine Rn.p ?_|(with_reducible apply And.intro)|((first|(refine hK _ ?_;clear hK K)|with_reducible intro K hK|refine Rs.p ?_|((with_reducible first|apply oP|apply oQ);exact rfl)|refine aa hX hC hP (dQ g hl) rfl rfl rfl (by simp only [go_sem,simprocAttr,cU,jI]) rfl ?_|refine aa hX hC hP (dS g hm) rfl rfl rfl (by simp only [go_sem,simprocAttr,cU,jI]) rfl ?_|refine aa hX hC hP (dr g true hl0 hn0) rfl rfl rfl (by simp only [go_sem,simprocAttr,cU,jI]) rfl ?_);try simp only [go_sem,simprocAttr,cU,jI])|((with_reducible refine oD ?_ ?_);kernel_rfl)|((with_reducible intro h);try simp only [go_sem,simprocAttr,cU,jI] at h)|omega|intro h)
    any_goals (
     have Gw:o4 g k=true:=decide_eq_true (z8.2 ⟨q,IN,by omega,h⟩)
     have QO:fQ g=(k:Int):=bZ (d:=0) (by simpa using hlt) (fun j hj=>by rw [cG (by omega)];exact KM j hj) (by rw [cG hlt];exact Gw)
     have hc:mU g=(14,fQ g, []):=by
      simp only [mU,iM];rw [if_neg (by simp [hm]),if_neg hlo,if_pos (by omega)]
     rw [hc]<;>first|rfl|exact QO.symm)
    refine ⟨q+1,⟨by omega,fun j hj=> ?_⟩, ?_,by omega⟩
    ·by_cases hjk:j=q
     ·subst hjk;exact h
     ·exact hne j (by omega)
    ·refine Le.of ?_ ?_<;>simp [go_sem,simprocAttr]
   ·have cU:decide ((q:Int)<(k:Int))=false:=decide_eq_false (by omega)
    repeat' (first|refine Rn.p ?_|(with_reducible apply And.intro)|((first|(refine hK _ ?_;clear hK K)|with_reducible intro K hK|refine Rs.p ?_|((with_reducible first|apply oP|apply oQ);exact rfl)|refine aa hX hC hP (dQ g hl) rfl rfl rfl (by simp only [go_sem,simprocAttr,cU]) rfl ?_|refine aa hX hC hP (dS g hm) rfl rfl rfl (by simp only [go_sem,simprocAttr,cU]) rfl ?_|refine aa hX hC hP (dr g true hl0 hn0) rfl rfl rfl (by simp only [go_sem,simprocAttr,cU]) rfl ?_);try simp only [go_sem,simprocAttr,cU])|((with_reducible refine oD ?_ ?_);kernel_rfl)|((with_reducible intro h);try simp only [go_sem,simprocAttr,cU] at h)|omega|intro h)
    refine ⟨k+1,⟨by omega,fun j hj=> ?_⟩, ?_,by omega⟩
    ·by_cases hjk:j=k
     ·subst hjk
      refine decide_eq_false fun h=> ?_
      obtain ⟨i,h1,_,h3⟩:=z8.1 h
      exact hne i (by omega) h3
     ·exact KM j (by omega)
    ·(refine Le.of ?_ ?_<;>simp [go_sem,simprocAttr,cU])
  ·have aI:decide ((k:Int)<(g.es.length:Int))=false:=decide_eq_false (by omega)
   have Gw:¬0≤fQ g:=by
    have:fQ g= -1:=bA 0 fun j hj=>by
     rw [List.length_range] at hj
     rw [cG hj];exact KM j (by omega)
    omega
   repeat' (first|refine Rn.p ?_|(with_reducible apply And.intro)|((first|(refine hK _ ?_;clear hK K)|with_reducible intro K hK|refine Rs.p ?_|((with_reducible first|apply oP|apply oQ);exact rfl)|refine aa hX hC hP (dQ g hl) rfl rfl rfl (by simp only [go_sem,simprocAttr,hm,aI]) rfl ?_|refine aa hX hC hP (dS g hm) rfl rfl rfl (by simp only [go_sem,simprocAttr,hm,aI]) rfl ?_|refine aa hX hC hP (dr g true hl0 hn0) rfl rfl rfl (by simp only [go_sem,simprocAttr,hm,aI]) rfl ?_);try simp only [go_sem,simprocAttr,hm,aI])|((with_reducible refine oD ?_ ?_);kernel_rfl)|((with_reducible intro h);try simp only [go_sem,simprocAttr,hm,aI] at h)|omega|intro h)
   all_goals (
    have hc:mU g=if 0<(mT g).length then (15,0,mT g) else if 1<(dN (oe false) g).length then (16,0,(dN (oe false) g).take 2) else (0,0, []):=by
     show iM g (mT g) (dN (oe false) g)=_
     simp only [iM];rw [if_neg (by simp [hm]),if_neg hlo,if_neg Gw]
    first|rw [if_pos (by omega)] at hc|(rw [if_neg (by omega)] at hc;first|rw [if_pos (by omega)] at hc|rw [if_neg (by omega)] at hc)
    rw [hc]<;>first|rfl|simp only [List.map_take])
end Go.Ab
end
