/- A part of the proof. -/
import Derived.Test.YtameldglfobjkaaGreatProg
import Derived.Test.YtameldglfobjkaaGreatL2P12
set_option linter.unusedSimpArgs false
set_option linter.unusedVariables false
section
namespace Go.Ab.T
open Go.Proofs
def T:Nat→Option TI
 |2=>some ⟨(.int .i64),1,8, [(.d (.sc (.int .i64 0)))]⟩
 |3=>some ⟨(.int .i64),1,8, [(.d (.sc (.int .i64 0)))]⟩
 |4=>some ⟨.bool,1,1, [(.d (.sc (.bool false)))]⟩
 |5=>some ⟨(.int .u8),1,1, [(.d (.sc (.int .u8 0)))]⟩
 |9=>some ⟨.sc,1,16, [(.d (.sc (.string ⟨#[]⟩)))]⟩
 |12=>some ⟨(.int .u64),1,8, [(.d (.sc (.int .u64 0)))]⟩
 |21=>some ⟨(.int .i32),1,4, [(.d (.sc (.int .i32 0)))]⟩
 |22=>some ⟨(.sl 56),1,24, [(.nil 56)]⟩
 |24=>some ⟨(.st [(0,3),(1,22)]),2,32, [(.d (.sc (.int .i64 0))),(.nil 56)]⟩
 |25=>some ⟨(.sl 3),1,24, [(.nil 3)]⟩
 |26=>some ⟨(.sl 25),1,24, [(.nil 25)]⟩
 |28=>some ⟨(.st [(0,25),(1,26)]),2,48, [(.nil 3),(.nil 25)]⟩
 |32=>some ⟨(.st [(0,25),(1,25),(2,25),(3,25)]),4,96, [(.nil 3),(.nil 3),(.nil 3),(.nil 3)]⟩
 |33=>some ⟨(.int .i64),1,8, [(.d (.sc (.int .i64 0)))]⟩
 |36=>some ⟨(.sl 25),1,24, [(.nil 25)]⟩
 |42=>some ⟨(.st [(0,25),(1,25),(2,25),(3,25)]),4,96, [(.nil 3),(.nil 3),(.nil 3),(.nil 3)]⟩
 |45=>some ⟨(.mp 3 3),1,8, [(.d (.sc (.map none)))]⟩
 |47=>some ⟨(.sl 54),1,24, [(.nil 54)]⟩
 |48=>some ⟨(.sl 47),1,24, [(.nil 47)]⟩
 |50=>some ⟨(.st [(0,47),(1,48)]),2,48, [(.nil 54),(.nil 47)]⟩
 |54=>some ⟨(.st [(0,3),(1,3)]),2,16, [(.d (.sc (.int .i64 0))),(.d (.sc (.int .i64 0)))]⟩
 |56=>some ⟨(.st [(0,3),(1,3)]),2,16, [(.d (.sc (.int .i64 0))),(.d (.sc (.int .i64 0)))]⟩
 |60=>some ⟨.sc,1,8, [(.d (.sc .nilFunc))]⟩
 |64=>some ⟨(.st [(0,33),(1,3),(2,25)]),3,40, [(.d (.sc (.int .i64 0))),(.d (.sc (.int .i64 0))),(.nil 3)]⟩
 |72=>some ⟨(.st [(0,25),(1,25),(2,25),(3,25)]),4,96, [(.nil 3),(.nil 3),(.nil 3),(.nil 3)]⟩
 |77=>some ⟨(.sl 78),1,24, [(.nil 78)]⟩
 |78=>some ⟨(.sl 92),1,24, [(.nil 92)]⟩
 |81=>some ⟨(.pt 146),1,8, [(.d (.sc (.pointer none)))]⟩
 |84=>some ⟨(.pt 86),1,8, [(.d (.sc (.pointer none)))]⟩
 |86=>some ⟨(.st [(0,25),(1,25),(2,32)]),6,144, [(.nil 3),(.nil 3),(.nil 3),(.nil 3),(.nil 3),(.nil 3)]⟩
 |92=>some ⟨(.st [(0,3),(1,3),(2,3)]),3,24, [(.d (.sc (.int .i64 0))),(.d (.sc (.int .i64 0))),(.d (.sc (.int .i64 0)))]⟩
 |107=>some ⟨(.pt 113),1,8, [(.d (.sc (.pointer none)))]⟩
 |113=>some ⟨(.st [(0,24),(2,28),(4,45)]),5,88, [(.d (.sc (.int .i64 0))),(.nil 56),(.nil 3),(.nil 25),(.d (.sc (.map none)))]⟩
 |119=>some ⟨(.pt 121),1,8, [(.d (.sc (.pointer none)))]⟩
 |121=>some ⟨(.st [(0,24),(2,50)]),4,80, [(.d (.sc (.int .i64 0))),(.nil 56),(.nil 54),(.nil 47)]⟩
 |134=>some ⟨(.pt 144),1,8, [(.d (.sc (.pointer none)))]⟩
 |142=>some ⟨(.st [(0,78)]),1,24, [(.nil 92)]⟩
 |144=>some ⟨(.st [(0,142),(1,81),(2,25)]),3,56, [(.nil 92),(.d (.sc (.pointer none))),(.nil 3)]⟩
 |146=>some ⟨(.st [(0,24),(2,26),(3,26)]),4,80, [(.d (.sc (.int .i64 0))),(.nil 56),(.nil 25),(.nil 25)]⟩
 |154=>some ⟨(.pt 156),1,8, [(.d (.sc (.pointer none)))]⟩
 |156=>some ⟨(.st [(0,24),(2,28)]),4,80, [(.d (.sc (.int .i64 0))),(.nil 56),(.nil 3),(.nil 25)]⟩
 |174=>some ⟨(.sl 176),1,24, [(.nil 176)]⟩
 |176=>some ⟨(.st [(0,54),(2,54)]),4,32, [(.d (.sc (.int .i64 0))),(.d (.sc (.int .i64 0))),(.d (.sc (.int .i64 0))),(.d (.sc (.int .i64 0)))]⟩
 |184=>some ⟨(.int .u64),1,8, [(.d (.sc (.int .u64 0)))]⟩
 |185=>some ⟨(.pt 187),1,8, [(.d (.sc (.pointer none)))]⟩
 |187=>some ⟨(.st [(0,24),(2,78),(3,25)]),4,80, [(.d (.sc (.int .i64 0))),(.nil 56),(.nil 92),(.nil 3)]⟩
 |198=>some ⟨(.pt 142),1,8, [(.d (.sc (.pointer none)))]⟩
 |204=>some ⟨(.sl 208),1,24, [(.nil 208)]⟩
 |207=>some ⟨(.int .u64),1,8, [(.d (.sc (.int .u64 0)))]⟩
 |208=>some ⟨(.int .u64),1,8, [(.d (.sc (.int .u64 0)))]⟩
 |221=>some ⟨(.ar 2 3),2,16, [(.d (.sc (.int .i64 0))),(.d (.sc (.int .i64 0)))]⟩
 |222=>some ⟨(.mp 54 3),1,8, [(.d (.sc (.map none)))]⟩
 |223=>some ⟨(.ar 2 54),4,32, [(.d (.sc (.int .i64 0))),(.d (.sc (.int .i64 0))),(.d (.sc (.int .i64 0))),(.d (.sc (.int .i64 0)))]⟩
 |226=>some ⟨(.int .i64),1,8, [(.d (.sc (.int .i64 0)))]⟩
 |233=>some ⟨(.int .u32),1,4, [(.d (.sc (.int .u32 0)))]⟩
 |239=>some ⟨(.sl 4),1,24, [(.nil 4)]⟩
 |241=>some ⟨(.int .u64),1,8, [(.d (.sc (.int .u64 0)))]⟩
 |245=>some ⟨(.pt 3),1,8, [(.d (.sc (.pointer none)))]⟩
 |252=>some ⟨(.pt 241),1,8, [(.d (.sc (.pointer none)))]⟩
 |273=>some ⟨(.pt 5),1,8, [(.d (.sc (.pointer none)))]⟩
 |_=>none
theorem T2:T 2=some ⟨(.int .i64),1,8, [(.d (.sc (.int .i64 0)))]⟩:=rfl
theorem T3:T 3=some ⟨(.int .i64),1,8, [(.d (.sc (.int .i64 0)))]⟩:=rfl
theorem T4:T 4=some ⟨.bool,1,1, [(.d (.sc (.bool false)))]⟩:=rfl
theorem T5:T 5=some ⟨(.int .u8),1,1, [(.d (.sc (.int .u8 0)))]⟩:=rfl
theorem T9:T 9=some ⟨.sc,1,16, [(.d (.sc (.string ⟨#[]⟩)))]⟩:=rfl
theorem T12:T 12=some ⟨(.int .u64),1,8, [(.d (.sc (.int .u64 0)))]⟩:=rfl
theorem T21:T 21=some ⟨(.int .i32),1,4, [(.d (.sc (.int .i32 0)))]⟩:=rfl
theorem T22:T 22=some ⟨(.sl 56),1,24, [(.nil 56)]⟩:=rfl
theorem T24:T 24=some ⟨(.st [(0,3),(1,22)]),2,32, [(.d (.sc (.int .i64 0))),(.nil 56)]⟩:=rfl
theorem T25:T 25=some ⟨(.sl 3),1,24, [(.nil 3)]⟩:=rfl
theorem T26:T 26=some ⟨(.sl 25),1,24, [(.nil 25)]⟩:=rfl
theorem T28:T 28=some ⟨(.st [(0,25),(1,26)]),2,48, [(.nil 3),(.nil 25)]⟩:=rfl
theorem T32:T 32=some ⟨(.st [(0,25),(1,25),(2,25),(3,25)]),4,96, [(.nil 3),(.nil 3),(.nil 3),(.nil 3)]⟩:=rfl
theorem T33:T 33=some ⟨(.int .i64),1,8, [(.d (.sc (.int .i64 0)))]⟩:=rfl
theorem T36:T 36=some ⟨(.sl 25),1,24, [(.nil 25)]⟩:=rfl
theorem T42:T 42=some ⟨(.st [(0,25),(1,25),(2,25),(3,25)]),4,96, [(.nil 3),(.nil 3),(.nil 3),(.nil 3)]⟩:=rfl
theorem T45:T 45=some ⟨(.mp 3 3),1,8, [(.d (.sc (.map none)))]⟩:=rfl
theorem T47:T 47=some ⟨(.sl 54),1,24, [(.nil 54)]⟩:=rfl
theorem T48:T 48=some ⟨(.sl 47),1,24, [(.nil 47)]⟩:=rfl
theorem T50:T 50=some ⟨(.st [(0,47),(1,48)]),2,48, [(.nil 54),(.nil 47)]⟩:=rfl
theorem T54:T 54=some ⟨(.st [(0,3),(1,3)]),2,16, [(.d (.sc (.int .i64 0))),(.d (.sc (.int .i64 0)))]⟩:=rfl
theorem T56:T 56=some ⟨(.st [(0,3),(1,3)]),2,16, [(.d (.sc (.int .i64 0))),(.d (.sc (.int .i64 0)))]⟩:=rfl
theorem T60:T 60=some ⟨.sc,1,8, [(.d (.sc .nilFunc))]⟩:=rfl
theorem T64:T 64=some ⟨(.st [(0,33),(1,3),(2,25)]),3,40, [(.d (.sc (.int .i64 0))),(.d (.sc (.int .i64 0))),(.nil 3)]⟩:=rfl
theorem T72:T 72=some ⟨(.st [(0,25),(1,25),(2,25),(3,25)]),4,96, [(.nil 3),(.nil 3),(.nil 3),(.nil 3)]⟩:=rfl
theorem T77:T 77=some ⟨(.sl 78),1,24, [(.nil 78)]⟩:=rfl
theorem T78:T 78=some ⟨(.sl 92),1,24, [(.nil 92)]⟩:=rfl
theorem T81:T 81=some ⟨(.pt 146),1,8, [(.d (.sc (.pointer none)))]⟩:=rfl
theorem T84:T 84=some ⟨(.pt 86),1,8, [(.d (.sc (.pointer none)))]⟩:=rfl
theorem T86:T 86=some ⟨(.st [(0,25),(1,25),(2,32)]),6,144, [(.nil 3),(.nil 3),(.nil 3),(.nil 3),(.nil 3),(.nil 3)]⟩:=rfl
theorem T92:T 92=some ⟨(.st [(0,3),(1,3),(2,3)]),3,24, [(.d (.sc (.int .i64 0))),(.d (.sc (.int .i64 0))),(.d (.sc (.int .i64 0)))]⟩:=rfl
theorem T107:T 107=some ⟨(.pt 113),1,8, [(.d (.sc (.pointer none)))]⟩:=rfl
theorem T113:T 113=some ⟨(.st [(0,24),(2,28),(4,45)]),5,88, [(.d (.sc (.int .i64 0))),(.nil 56),(.nil 3),(.nil 25),(.d (.sc (.map none)))]⟩:=rfl
theorem T119:T 119=some ⟨(.pt 121),1,8, [(.d (.sc (.pointer none)))]⟩:=rfl
theorem T121:T 121=some ⟨(.st [(0,24),(2,50)]),4,80, [(.d (.sc (.int .i64 0))),(.nil 56),(.nil 54),(.nil 47)]⟩:=rfl
theorem T134:T 134=some ⟨(.pt 144),1,8, [(.d (.sc (.pointer none)))]⟩:=rfl
theorem T142:T 142=some ⟨(.st [(0,78)]),1,24, [(.nil 92)]⟩:=rfl
theorem T144:T 144=some ⟨(.st [(0,142),(1,81),(2,25)]),3,56, [(.nil 92),(.d (.sc (.pointer none))),(.nil 3)]⟩:=rfl
theorem T146:T 146=some ⟨(.st [(0,24),(2,26),(3,26)]),4,80, [(.d (.sc (.int .i64 0))),(.nil 56),(.nil 25),(.nil 25)]⟩:=rfl
theorem T154:T 154=some ⟨(.pt 156),1,8, [(.d (.sc (.pointer none)))]⟩:=rfl
theorem T156:T 156=some ⟨(.st [(0,24),(2,28)]),4,80, [(.d (.sc (.int .i64 0))),(.nil 56),(.nil 3),(.nil 25)]⟩:=rfl
theorem T174:T 174=some ⟨(.sl 176),1,24, [(.nil 176)]⟩:=rfl
theorem T176:T 176=some ⟨(.st [(0,54),(2,54)]),4,32, [(.d (.sc (.int .i64 0))),(.d (.sc (.int .i64 0))),(.d (.sc (.int .i64 0))),(.d (.sc (.int .i64 0)))]⟩:=rfl
theorem T184:T 184=some ⟨(.int .u64),1,8, [(.d (.sc (.int .u64 0)))]⟩:=rfl
theorem T185:T 185=some ⟨(.pt 187),1,8, [(.d (.sc (.pointer none)))]⟩:=rfl
theorem T187:T 187=some ⟨(.st [(0,24),(2,78),(3,25)]),4,80, [(.d (.sc (.int .i64 0))),(.nil 56),(.nil 92),(.nil 3)]⟩:=rfl
theorem T198:T 198=some ⟨(.pt 142),1,8, [(.d (.sc (.pointer none)))]⟩:=rfl
theorem T204:T 204=some ⟨(.sl 208),1,24, [(.nil 208)]⟩:=rfl
theorem T207:T 207=some ⟨(.int .u64),1,8, [(.d (.sc (.int .u64 0)))]⟩:=rfl
theorem T208:T 208=some ⟨(.int .u64),1,8, [(.d (.sc (.int .u64 0)))]⟩:=rfl
theorem T221:T 221=some ⟨(.ar 2 3),2,16, [(.d (.sc (.int .i64 0))),(.d (.sc (.int .i64 0)))]⟩:=rfl
theorem T222:T 222=some ⟨(.mp 54 3),1,8, [(.d (.sc (.map none)))]⟩:=rfl
theorem T223:T 223=some ⟨(.ar 2 54),4,32, [(.d (.sc (.int .i64 0))),(.d (.sc (.int .i64 0))),(.d (.sc (.int .i64 0))),(.d (.sc (.int .i64 0)))]⟩:=rfl
theorem T226:T 226=some ⟨(.int .i64),1,8, [(.d (.sc (.int .i64 0)))]⟩:=rfl
theorem T233:T 233=some ⟨(.int .u32),1,4, [(.d (.sc (.int .u32 0)))]⟩:=rfl
theorem T239:T 239=some ⟨(.sl 4),1,24, [(.nil 4)]⟩:=rfl
theorem T241:T 241=some ⟨(.int .u64),1,8, [(.d (.sc (.int .u64 0)))]⟩:=rfl
theorem T245:T 245=some ⟨(.pt 3),1,8, [(.d (.sc (.pointer none)))]⟩:=rfl
theorem T252:T 252=some ⟨(.pt 241),1,8, [(.d (.sc (.pointer none)))]⟩:=rfl
theorem T273:T 273=some ⟨(.pt 5),1,8, [(.d (.sc (.pointer none)))]⟩:=rfl
def zV:Nat→Option Nat
 |54=>some 2
 |56=>some 2
 |92=>some 3
 |_=>none
theorem eqn54:zV 54=some 2:=rfl
theorem eqn56:zV 56=some 2:=rfl
theorem eqn92:zV 92=some 3:=rfl
theorem Sq:aB Tryz.prog 2 ⟨(.int .i64),1,8, [(.d (.sc (.int .i64 0)))]⟩:=aB.mk' (by kernel_rfl) (by kernel_rfl) rfl Tryz.underlying2
theorem Sr:aB Tryz.prog 3 ⟨(.int .i64),1,8, [(.d (.sc (.int .i64 0)))]⟩:=aB.mk' (by kernel_rfl) (by kernel_rfl) rfl Tryz.underlying3
theorem Ss:aB Tryz.prog 4 ⟨.bool,1,1, [(.d (.sc (.bool false)))]⟩:=aB.mk' (by kernel_rfl) (by kernel_rfl) rfl Tryz.underlying4
theorem St:aB Tryz.prog 5 ⟨(.int .u8),1,1, [(.d (.sc (.int .u8 0)))]⟩:=aB.mk' (by kernel_rfl) (by kernel_rfl) rfl Tryz.underlying5
theorem Su:aB Tryz.prog 9 ⟨.sc,1,16, [(.d (.sc (.string ⟨#[]⟩)))]⟩:=aB.mk' (by kernel_rfl) (by kernel_rfl) rfl ⟨_,Tryz.underlying9,trivial⟩
theorem OM:aB Tryz.prog 12 ⟨(.int .u64),1,8, [(.d (.sc (.int .u64 0)))]⟩:=aB.mk' (by kernel_rfl) (by kernel_rfl) rfl Tryz.underlying12
theorem Js:aB Tryz.prog 21 ⟨(.int .i32),1,4, [(.d (.sc (.int .i32 0)))]⟩:=aB.mk' (by kernel_rfl) (by kernel_rfl) rfl Tryz.underlying21
theorem ON:aB Tryz.prog 22 ⟨(.sl 56),1,24, [(.nil 56)]⟩:=aB.mk' (by kernel_rfl) (by kernel_rfl) rfl Tryz.underlying22
theorem OO:aB Tryz.prog 24 ⟨(.st [(0,3),(1,22)]),2,32, [(.d (.sc (.int .i64 0))),(.nil 56)]⟩:=aB.mk' (by kernel_rfl) (by kernel_rfl) rfl ⟨_,Tryz.underlying24,rfl⟩
theorem OP:aB Tryz.prog 25 ⟨(.sl 3),1,24, [(.nil 3)]⟩:=aB.mk' (by kernel_rfl) (by kernel_rfl) rfl Tryz.underlying25
theorem OQ:aB Tryz.prog 26 ⟨(.sl 25),1,24, [(.nil 25)]⟩:=aB.mk' (by kernel_rfl) (by kernel_rfl) rfl Tryz.underlying26
theorem OR:aB Tryz.prog 28 ⟨(.st [(0,25),(1,26)]),2,48, [(.nil 3),(.nil 25)]⟩:=aB.mk' (by kernel_rfl) (by kernel_rfl) rfl ⟨_,Tryz.underlying28,rfl⟩
theorem OS:aB Tryz.prog 32 ⟨(.st [(0,25),(1,25),(2,25),(3,25)]),4,96, [(.nil 3),(.nil 3),(.nil 3),(.nil 3)]⟩:=aB.mk' (by kernel_rfl) (by kernel_rfl) rfl ⟨_,Tryz.underlying32,rfl⟩
theorem OU:aB Tryz.prog 33 ⟨(.int .i64),1,8, [(.d (.sc (.int .i64 0)))]⟩:=aB.mk' (by kernel_rfl) (by kernel_rfl) rfl Tryz.underlying33
theorem OV:aB Tryz.prog 36 ⟨(.sl 25),1,24, [(.nil 25)]⟩:=aB.mk' (by kernel_rfl) (by kernel_rfl) rfl Tryz.underlying36
theorem OW:aB Tryz.prog 42 ⟨(.st [(0,25),(1,25),(2,25),(3,25)]),4,96, [(.nil 3),(.nil 3),(.nil 3),(.nil 3)]⟩:=aB.mk' (by kernel_rfl) (by kernel_rfl) rfl ⟨_,Tryz.underlying42,rfl⟩
theorem OX:aB Tryz.prog 45 ⟨(.mp 3 3),1,8, [(.d (.sc (.map none)))]⟩:=aB.mk' (by kernel_rfl) (by kernel_rfl) rfl ⟨Tryz.underlying45,fun w=>by kernel_rfl⟩
theorem OY:aB Tryz.prog 47 ⟨(.sl 54),1,24, [(.nil 54)]⟩:=aB.mk' (by kernel_rfl) (by kernel_rfl) rfl Tryz.underlying47
theorem OZ:aB Tryz.prog 48 ⟨(.sl 47),1,24, [(.nil 47)]⟩:=aB.mk' (by kernel_rfl) (by kernel_rfl) rfl Tryz.underlying48
theorem O0:aB Tryz.prog 50 ⟨(.st [(0,47),(1,48)]),2,48, [(.nil 54),(.nil 47)]⟩:=aB.mk' (by kernel_rfl) (by kernel_rfl) rfl ⟨_,Tryz.underlying50,rfl⟩
theorem O2:aB Tryz.prog 54 ⟨(.st [(0,3),(1,3)]),2,16, [(.d (.sc (.int .i64 0))),(.d (.sc (.int .i64 0)))]⟩:=aB.mk' (by kernel_rfl) (by kernel_rfl) rfl ⟨_,Tryz.underlying54,rfl⟩
theorem O3:aB Tryz.prog 56 ⟨(.st [(0,3),(1,3)]),2,16, [(.d (.sc (.int .i64 0))),(.d (.sc (.int .i64 0)))]⟩:=aB.mk' (by kernel_rfl) (by kernel_rfl) rfl ⟨_,Tryz.underlying56,rfl⟩
theorem O4:aB Tryz.prog 60 ⟨.sc,1,8, [(.d (.sc .nilFunc))]⟩:=aB.mk' (by kernel_rfl) (by kernel_rfl) rfl ⟨_,Tryz.underlying60,trivial⟩
theorem O5:aB Tryz.prog 64 ⟨(.st [(0,33),(1,3),(2,25)]),3,40, [(.d (.sc (.int .i64 0))),(.d (.sc (.int .i64 0))),(.nil 3)]⟩:=aB.mk' (by kernel_rfl) (by kernel_rfl) rfl ⟨_,Tryz.underlying64,rfl⟩
theorem O6:aB Tryz.prog 72 ⟨(.st [(0,25),(1,25),(2,25),(3,25)]),4,96, [(.nil 3),(.nil 3),(.nil 3),(.nil 3)]⟩:=aB.mk' (by kernel_rfl) (by kernel_rfl) rfl ⟨_,Tryz.underlying72,rfl⟩
theorem O7:aB Tryz.prog 77 ⟨(.sl 78),1,24, [(.nil 78)]⟩:=aB.mk' (by kernel_rfl) (by kernel_rfl) rfl Tryz.underlying77
theorem O8:aB Tryz.prog 78 ⟨(.sl 92),1,24, [(.nil 92)]⟩:=aB.mk' (by kernel_rfl) (by kernel_rfl) rfl Tryz.underlying78
theorem O9:aB Tryz.prog 81 ⟨(.pt 146),1,8, [(.d (.sc (.pointer none)))]⟩:=aB.mk' (by kernel_rfl) (by kernel_rfl) rfl Tryz.underlying81
theorem Pb:aB Tryz.prog 84 ⟨(.pt 86),1,8, [(.d (.sc (.pointer none)))]⟩:=aB.mk' (by kernel_rfl) (by kernel_rfl) rfl Tryz.underlying84
theorem Pd:aB Tryz.prog 86 ⟨(.st [(0,25),(1,25),(2,32)]),6,144, [(.nil 3),(.nil 3),(.nil 3),(.nil 3),(.nil 3),(.nil 3)]⟩:=aB.mk' (by kernel_rfl) (by kernel_rfl) rfl ⟨_,Tryz.underlying86,rfl⟩
theorem Pe:aB Tryz.prog 92 ⟨(.st [(0,3),(1,3),(2,3)]),3,24, [(.d (.sc (.int .i64 0))),(.d (.sc (.int .i64 0))),(.d (.sc (.int .i64 0)))]⟩:=aB.mk' (by kernel_rfl) (by kernel_rfl) rfl ⟨_,Tryz.underlying92,rfl⟩
theorem Lw:aB Tryz.prog 107 ⟨(.pt 113),1,8, [(.d (.sc (.pointer none)))]⟩:=aB.mk' (by kernel_rfl) (by kernel_rfl) rfl Tryz.underlying107
theorem Lx:aB Tryz.prog 113 ⟨(.st [(0,24),(2,28),(4,45)]),5,88, [(.d (.sc (.int .i64 0))),(.nil 56),(.nil 3),(.nil 25),(.d (.sc (.map none)))]⟩:=aB.mk' (by kernel_rfl) (by kernel_rfl) rfl ⟨_,Tryz.underlying113,rfl⟩
theorem LB:aB Tryz.prog 119 ⟨(.pt 121),1,8, [(.d (.sc (.pointer none)))]⟩:=aB.mk' (by kernel_rfl) (by kernel_rfl) rfl Tryz.underlying119
theorem LC:aB Tryz.prog 121 ⟨(.st [(0,24),(2,50)]),4,80, [(.d (.sc (.int .i64 0))),(.nil 56),(.nil 54),(.nil 47)]⟩:=aB.mk' (by kernel_rfl) (by kernel_rfl) rfl ⟨_,Tryz.underlying121,rfl⟩
theorem LD:aB Tryz.prog 134 ⟨(.pt 144),1,8, [(.d (.sc (.pointer none)))]⟩:=aB.mk' (by kernel_rfl) (by kernel_rfl) rfl Tryz.underlying134
theorem LF:aB Tryz.prog 142 ⟨(.st [(0,78)]),1,24, [(.nil 92)]⟩:=aB.mk' (by kernel_rfl) (by kernel_rfl) rfl ⟨_,Tryz.underlying142,rfl⟩
theorem LG:aB Tryz.prog 144 ⟨(.st [(0,142),(1,81),(2,25)]),3,56, [(.nil 92),(.d (.sc (.pointer none))),(.nil 3)]⟩:=aB.mk' (by kernel_rfl) (by kernel_rfl) rfl ⟨_,Tryz.underlying144,rfl⟩
theorem LH:aB Tryz.prog 146 ⟨(.st [(0,24),(2,26),(3,26)]),4,80, [(.d (.sc (.int .i64 0))),(.nil 56),(.nil 25),(.nil 25)]⟩:=aB.mk' (by kernel_rfl) (by kernel_rfl) rfl ⟨_,Tryz.underlying146,rfl⟩
theorem LI:aB Tryz.prog 154 ⟨(.pt 156),1,8, [(.d (.sc (.pointer none)))]⟩:=aB.mk' (by kernel_rfl) (by kernel_rfl) rfl Tryz.underlying154
theorem LJ:aB Tryz.prog 156 ⟨(.st [(0,24),(2,28)]),4,80, [(.d (.sc (.int .i64 0))),(.nil 56),(.nil 3),(.nil 25)]⟩:=aB.mk' (by kernel_rfl) (by kernel_rfl) rfl ⟨_,Tryz.underlying156,rfl⟩
theorem LL:aB Tryz.prog 174 ⟨(.sl 176),1,24, [(.nil 176)]⟩:=aB.mk' (by kernel_rfl) (by kernel_rfl) rfl Tryz.underlying174
theorem LM:aB Tryz.prog 176 ⟨(.st [(0,54),(2,54)]),4,32, [(.d (.sc (.int .i64 0))),(.d (.sc (.int .i64 0))),(.d (.sc (.int .i64 0))),(.d (.sc (.int .i64 0)))]⟩:=aB.mk' (by kernel_rfl) (by kernel_rfl) rfl ⟨_,Tryz.underlying176,rfl⟩
theorem LN:aB Tryz.prog 184 ⟨(.int .u64),1,8, [(.d (.sc (.int .u64 0)))]⟩:=aB.mk' (by kernel_rfl) (by kernel_rfl) rfl Tryz.underlying184
theorem LO:aB Tryz.prog 185 ⟨(.pt 187),1,8, [(.d (.sc (.pointer none)))]⟩:=aB.mk' (by kernel_rfl) (by kernel_rfl) rfl Tryz.underlying185
theorem LP:aB Tryz.prog 187 ⟨(.st [(0,24),(2,78),(3,25)]),4,80, [(.d (.sc (.int .i64 0))),(.nil 56),(.nil 92),(.nil 3)]⟩:=aB.mk' (by kernel_rfl) (by kernel_rfl) rfl ⟨_,Tryz.underlying187,rfl⟩
theorem LQ:aB Tryz.prog 198 ⟨(.pt 142),1,8, [(.d (.sc (.pointer none)))]⟩:=aB.mk' (by kernel_rfl) (by kernel_rfl) rfl Tryz.underlying198
theorem LS:aB Tryz.prog 204 ⟨(.sl 208),1,24, [(.nil 208)]⟩:=aB.mk' (by kernel_rfl) (by kernel_rfl) rfl Tryz.underlying204
theorem LU:aB Tryz.prog 207 ⟨(.int .u64),1,8, [(.d (.sc (.int .u64 0)))]⟩:=aB.mk' (by kernel_rfl) (by kernel_rfl) rfl Tryz.underlying207
theorem LV:aB Tryz.prog 208 ⟨(.int .u64),1,8, [(.d (.sc (.int .u64 0)))]⟩:=aB.mk' (by kernel_rfl) (by kernel_rfl) rfl Tryz.underlying208
theorem LW:aB Tryz.prog 221 ⟨(.ar 2 3),2,16, [(.d (.sc (.int .i64 0))),(.d (.sc (.int .i64 0)))]⟩:=aB.mk' (by kernel_rfl) (by kernel_rfl) rfl Tryz.underlying221
theorem LX:aB Tryz.prog 222 ⟨(.mp 54 3),1,8, [(.d (.sc (.map none)))]⟩:=aB.mk' (by kernel_rfl) (by kernel_rfl) rfl ⟨Tryz.underlying222,fun w=>by kernel_rfl⟩
theorem LY:aB Tryz.prog 223 ⟨(.ar 2 54),4,32, [(.d (.sc (.int .i64 0))),(.d (.sc (.int .i64 0))),(.d (.sc (.int .i64 0))),(.d (.sc (.int .i64 0)))]⟩:=aB.mk' (by kernel_rfl) (by kernel_rfl) rfl Tryz.underlying223
theorem LZ:aB Tryz.prog 226 ⟨(.int .i64),1,8, [(.d (.sc (.int .i64 0)))]⟩:=aB.mk' (by kernel_rfl) (by kernel_rfl) rfl Tryz.underlying226
theorem L0:aB Tryz.prog 233 ⟨(.int .u32),1,4, [(.d (.sc (.int .u32 0)))]⟩:=aB.mk' (by kernel_rfl) (by kernel_rfl) rfl Tryz.underlying233
theorem L3:aB Tryz.prog 239 ⟨(.sl 4),1,24, [(.nil 4)]⟩:=aB.mk' (by kernel_rfl) (by kernel_rfl) rfl Tryz.underlying239
theorem L4:aB Tryz.prog 241 ⟨(.int .u64),1,8, [(.d (.sc (.int .u64 0)))]⟩:=aB.mk' (by kernel_rfl) (by kernel_rfl) rfl Tryz.underlying241
theorem L5:aB Tryz.prog 245 ⟨(.pt 3),1,8, [(.d (.sc (.pointer none)))]⟩:=aB.mk' (by kernel_rfl) (by kernel_rfl) rfl Tryz.underlying245
theorem L6:aB Tryz.prog 252 ⟨(.pt 241),1,8, [(.d (.sc (.pointer none)))]⟩:=aB.mk' (by kernel_rfl) (by kernel_rfl) rfl Tryz.underlying252
theorem L7:aB Tryz.prog 273 ⟨(.pt 5),1,8, [(.d (.sc (.pointer none)))]⟩:=aB.mk' (by kernel_rfl) (by kernel_rfl) rfl Tryz.underlying273
theorem Pf:nH Tryz.prog 54 2:=nH.two (by kernel_rfl) (by kernel_rfl) Tryz.underlying54 (by decide) rfl Tryz.underlying3 (by decide) rfl Tryz.underlying3
theorem Pg:nH Tryz.prog 56 2:=nH.two (by kernel_rfl) (by kernel_rfl) Tryz.underlying56 (by decide) rfl Tryz.underlying3 (by decide) rfl Tryz.underlying3
theorem Ph:nH Tryz.prog 92 3:=nH.three (by kernel_rfl) (by kernel_rfl) Tryz.underlying92 (by decide) rfl Tryz.underlying3 (by decide) rfl Tryz.underlying3 (by decide) rfl Tryz.underlying3
set_option maxHeartbeats 4000000 in
theorem Sv:∀t ti,T t=some ti→aB Tryz.prog t ti:=by
 intro t ti h
 unfold T at h
 split at h
 ·cases h;exact Sq
 ·cases h;exact Sr
 ·cases h;exact Ss
 ·cases h;exact St
 ·cases h;exact Su
 ·cases h;exact OM
 ·cases h;exact Js
 ·cases h;exact ON
 ·cases h;exact OO
 ·cases h;exact OP
 ·cases h;exact OQ
 ·cases h;exact OR
 ·cases h;exact OS
 ·cases h;exact OU
 ·cases h;exact OV
 ·cases h;exact OW
 ·cases h;exact OX
 ·cases h;exact OY
 ·cases h;exact OZ
 ·cases h;exact O0
 ·cases h;exact O2
 ·cases h;exact O3
 ·cases h;exact O4
 ·cases h;exact O5
 ·cases h;exact O6
 ·cases h;exact O7
 ·cases h;exact O8
 ·cases h;exact O9
 ·cases h;exact Pb
 ·cases h;exact Pd
 ·cases h;exact Pe
 ·cases h;exact Lw
 ·cases h;exact Lx
 ·cases h;exact LB
 ·cases h;exact LC
 ·cases h;exact LD
 ·cases h;exact LF
 ·cases h;exact LG
 ·cases h;exact LH
 ·cases h;exact LI
 ·cases h;exact LJ
 ·cases h;exact LL
 ·cases h;exact LM
 ·cases h;exact LN
 ·cases h;exact LO
 ·cases h;exact LP
 ·cases h;exact LQ
 ·cases h;exact LS
 ·cases h;exact LU
 ·cases h;exact LV
 ·cases h;exact LW
 ·cases h;exact LX
 ·cases h;exact LY
 ·cases h;exact LZ
 ·cases h;exact L0
 ·cases h;exact L3
 ·cases h;exact L4
 ·cases h;exact L5
 ·cases h;exact L6
 ·cases h;exact L7
 ·cases h
theorem Sw:∀t n,zV t=some n→nH Tryz.prog t n:=by
 intro t n h
 unfold zV at h
 split at h
 ·cases h;exact Pf
 ·cases h;exact Pg
 ·cases h;exact Ph
 ·cases h
def cfg (own zI:List Nat):Cfg:=⟨T,own,zV,zI⟩
theorem cfg_T (own zI:List Nat):(cfg own zI).T=T:=rfl
theorem cfg_own (own zI:List Nat):(cfg own zI).own=own:=rfl
theorem cfg_nst (own zI:List Nat):(cfg own zI).zI=zI:=rfl
theorem cfg_eqn (own zI:List Nat):(cfg own zI).zV=zV:=rfl
theorem ai (own zI:List Nat):(cfg own zI).Ok Tryz.prog:=⟨Sv,Sw⟩
theorem mixed:Tryz.prog.follows .mixedOrders=true:=by kernel_rfl
attribute [go_sem] T2 T3 T4 T5 T9 T12 T21 T22 T24 T25 T26 T28 T32 T33 T36 T42 T45 T47 T48 T50 T54 T56 T60 T64 T72 T77 T78 T81 T84 T86 T92 T107 T113 T119 T121 T134 T142 T144 T146 T154 T156 T174 T176 T184 T185 T187 T198 T204 T207 T208 T221 T222 T223 T226 T233 T239 T241 T245 T252 T273 eqn54 eqn56 eqn92 cfg_T cfg_own cfg_nst cfg_eqn
end Go.Ab.T
end
section
namespace Go.Ab
open Go.Proofs
attribute [local congr] ACall.congr gd.congr Nx.congr
set_option maxRecDepth 10000
def eN (n:Int):AV:= .d (.sc (.int .i64 n))
def eB (b:Bool):AV:= .d (.sc (.bool b))
abbrev Edge:=Int × Int
structure Gr where
 n:Int
 es:List Edge
def rE (e:Edge):List D:= [.sc (.int .i64 e.1), .sc (.int .i64 e.2)]
def rI (n:Int):List D:= [.sc (.int .i64 n)]
def eE (e:Edge):AV:= .agg [.d (.sc (.int .i64 e.1)), .d (.sc (.int .i64 e.2))]
def sE (es:List Edge):D:= .sl 2 (es.map rE)
def sI (l:List Int):D:= .sl 1 (l.map rI)
def eG (g:Gr):AV:= .agg [eN g.n, .d (sE g.es)]
attribute [go_sem] eN eB eE sE sI eG Args AVrs
theorem getD_rE (ps:List Edge) (i:Nat):(ps.map rE).getD i [.sc (.int .i64 0), .sc (.int .i64 0)]= [.sc (.int .i64 (ps.getD i (0,0)).1), .sc (.int .i64 (ps.getD i (0,0)).2)]:=by
 simp only [List.getD_eq_getElem?_getD,List.getElem?_map]
 cases ps[i]? <;>rfl
theorem getD_rI (ps:List Int) (i:Nat):(ps.map rI).getD i [.sc (.int .i64 0)]= [.sc (.int .i64 (ps.getD i 0))]:=by
 simp only [List.getD_eq_getElem?_getD,List.getElem?_map]
 cases ps[i]? <;>rfl
theorem E3 (l:List Int) (k:Nat) (v:Int):(l.map rI).set k [.sc (.int .i64 v)]=(l.set k v).map rI:=by
 rw [List.map_set];rfl
attribute [go_sem] getD_rE getD_rI Int.toNat_natCast List.length_set
def UD (n:Int):Prop:= -9223372036854775808≤n∧n≤9223372036854775807
def Len (n:Nat):Prop:=n≤9223372036854775807
end Go.Ab
end
section
namespace Go.Ab
open Go.Proofs
attribute [local congr] ACall.congr gd.congr Nx.congr
set_option maxRecDepth 10000
def bP {α:Type} (g:α→Bool) (ps:List α):Int:=match ps.findIdx? g with|some i=>i|none=> -1
theorem eC {α:Type} {g:α→Bool} {ps:List α} (d:α) (h:∀j,j<ps.length→g (ps.getD j d)=false):bP g ps= -1:=by
 have:ps.findIdx? g=none:=by
  rw [List.findIdx?_eq_none_iff]
  intro x hx
  obtain ⟨j,hj,rfl⟩:=List.getElem_of_mem hx
  simpa [List.getD_eq_getElem?_getD,List.getElem?_eq_getElem hj] using h j hj
 simp [bP,this]
theorem fA {α:Type} {g:α→Bool} {ps:List α} {d:α} {k:Nat} (hk:k<ps.length) (h:∀j,j<k→g (ps.getD j d)=false) (hg:g (ps.getD k d)=true):bP g ps=k:=by
 have:ps.findIdx? g=some k:=by
  rw [List.findIdx?_eq_some_iff_getElem]
  refine ⟨hk,by simpa [List.getD_eq_getElem?_getD,List.getElem?_eq_getElem hk] using hg,fun j hj=> ?_⟩
  have:=h j hj
  simpa [List.getD_eq_getElem?_getD,List.getElem?_eq_getElem (Nat.lt_trans hj hk)] using this
 simp [bP,this]
theorem eW {α:Type} (g:α→Bool) (ps:List α):decide (0≤bP g ps)=ps.any g:=by
 cases h:ps.findIdx? g with
 |none=>
  have:bP g ps= -1:=by simp [bP,h]
  rw [this]
  rw [List.findIdx?_eq_none_iff] at h
  symm
  simpa using h
 |some i=>
  have:bP g ps=i:=by simp [bP,h]
  rw [this]
  obtain ⟨hi,hg,_⟩:=List.findIdx?_eq_some_iff_getElem.1 h
  have:ps.any g=true:=List.any_eq_true.2 ⟨_,List.getElem_mem hi,hg⟩
  rw [this];simp
theorem yo {α:Type} (g:α→Bool) (ps:List α):bP g ps= -1∨(0≤bP g ps∧bP g ps<ps.length):=by
 cases h:ps.findIdx? g with
 |none=>exact .inl (by simp [bP,h])
 |some i=>
  obtain ⟨hi,hg,_⟩:=List.findIdx?_eq_some_iff_getElem.1 h
  exact .inr (by simp [bP,h];omega)
theorem yp (rn:List (Nat × Nat)) (h0:rn= []) {m:List (Nat × AObj)} :∀ {r:List (Nat × AObj)},(∀p∈r,look m p.1=some p.2)→leR m rn r
 | [],_=>trivial
 |p::r,h=>by
  subst h0
  have h1:=h p List.mem_cons_self
  refine ⟨?_,yp [] rfl fun q hq=>h q (List.mem_cons_of_mem _ hq)⟩
  have e:renO [] p.2=p.2:=rfl
  show look m p.1=some (renO [] p.2)
  rw [e];exact h1
theorem fB {m:List (Nat × AObj)} (h:bD m):leR m [] m:=yp [] rfl fun _ hp=>aM h.nd hp
theorem bJ {m:List (Nat × AObj)} (hR:bD m) (f:Nat) (caps:List AV) (g:Edge→Bool) (hf:∀p,Spec Tryz.prog f (Args (eE p::caps)) m (eB (g p)) m) (ps:List Edge) (hl:ps.length≤9223372036854775807):
 Spec Tryz.prog 111 (Args [.d (sE ps), .fn f [] caps]) m (eN (bP g ps)) m:=by
 (refine Spec.hd (C:=T.cfg [] []) (rs:= [.t 4]) (T.ai _ _) Tryz.func111 rfl rfl Tryz.ntmps111 Tryz.results111 (fun p hp=>⟨(bD.low hR p hp).1,bD.nest hR p hp⟩) (fun p hp=>⟨(bD.low hR p hp).2,bD.nest hR p hp⟩) (by kernel_rfl) T.mixed fun X hX hP hC aQ cy=> ?_)
 repeat' (first|refine Rn.p ?_|(with_reducible apply And.intro)|((first|(refine hK _ ?_;clear hK K)|with_reducible intro K hK|refine Rs.p ?_|((with_reducible first|apply oP|apply oQ);exact rfl)|(first|(refine bf hX hC hP hR (hf _) rfl rfl rfl ?_ ?_ rfl rfl ?_;(focus (simp only [go_sem,simprocAttr];done));(focus (first|(intro p hp;exact aM (bD.nd hR) hp)|(simp [go_sem,simprocAttr];done))))|(refine bf hX hC hP hR (hf _) rfl rfl rfl ?_ ?_ ?_ rfl ?_;(focus (simp only [go_sem,simprocAttr];done));(focus (first|(intro p hp;exact aM (bD.nd hR) hp)|(simp [go_sem,simprocAttr];done)));(focus (simp [go_sem,simprocAttr];done)))));try simp only [go_sem,simprocAttr])|((with_reducible refine oD ?_ ?_);kernel_rfl)|((with_reducible intro h);try simp only [go_sem,simprocAttr] at h)|omega|intro h)
 refine ak (fun k:Nat=>k≤ps.length∧∀j,j<k→g (ps.getD j (0,0))=false) (fun k=>⟨[(0, .d (sE ps)),(1, .fn f [] caps),(7,eN ps.length),(8,eN k)],m⟩) (fun k=>ps.length - k) 0 (by simp) ?_ ?_
 ·(refine ⟨dr ?_,fun _ _ h=>h⟩;simp [go_sem,simprocAttr])
 rintro k ⟨hk,hg⟩
 repeat' (first|refine Rn.p ?_|(with_reducible apply And.intro)|((first|(refine hK _ ?_;clear hK K)|with_reducible intro K hK|refine Rs.p ?_|((with_reducible first|apply oP|apply oQ);exact rfl)|(first|(refine bf hX hC hP hR (hf _) rfl rfl rfl ?_ ?_ rfl rfl ?_;(focus (simp only [go_sem,simprocAttr];done));(focus (first|(intro p hp;exact aM (bD.nd hR) hp)|(simp [go_sem,simprocAttr];done))))|(refine bf hX hC hP hR (hf _) rfl rfl rfl ?_ ?_ ?_ rfl ?_;(focus (simp only [go_sem,simprocAttr];done));(focus (first|(intro p hp;exact aM (bD.nd hR) hp)|(simp [go_sem,simprocAttr];done)));(focus (simp [go_sem,simprocAttr];done)))));try simp only [go_sem,simprocAttr])|((with_reducible refine oD ?_ ?_);kernel_rfl)|((with_reducible intro h);try simp only [go_sem,simprocAttr] at h)|omega|intro h)
 ·exact (fA (by omega) hg h).symm
 ·exact fB hR
 ·refine ⟨k+1,⟨by omega,fun j hj=> ?_⟩, ?_,by omega⟩
  ·by_cases hjk:j=k
   ·subst hjk;exact h
   ·exact hg j (by omega)
  ·(refine ⟨dr ?_,fun _ _ h=>h⟩;simp [go_sem,simprocAttr])
 ·exact (eC (0,0) fun j hj=>hg j (by omega)).symm
 ·exact fB hR
theorem cG {m:List (Nat × AObj)} (hR:bD m) (f:Nat) (caps:List AV) (g:Int→Bool) (hf:∀p,Spec Tryz.prog f (Args (eN p::caps)) m (eB (g p)) m) (ps:List Int) (hl:ps.length≤9223372036854775807):
 Spec Tryz.prog 162 (Args [.d (sI ps), .fn f [] caps]) m (eN (bP g ps)) m:=by
 (refine Spec.hd (C:=T.cfg [] []) (rs:= [.t 4]) (T.ai _ _) Tryz.func162 rfl rfl Tryz.ntmps162 Tryz.results162 (fun p hp=>⟨(bD.low hR p hp).1,bD.nest hR p hp⟩) (fun p hp=>⟨(bD.low hR p hp).2,bD.nest hR p hp⟩) (by kernel_rfl) T.mixed fun X hX hP hC aQ cy=> ?_)
 repeat' (first|refine Rn.p ?_|(with_reducible apply And.intro)|((first|(refine hK _ ?_;clear hK K)|with_reducible intro K hK|refine Rs.p ?_|((with_reducible first|apply oP|apply oQ);exact rfl)|(first|(refine bf hX hC hP hR (hf _) rfl rfl rfl ?_ ?_ rfl rfl ?_;(focus (simp only [go_sem,simprocAttr];done));(focus (first|(intro p hp;exact aM (bD.nd hR) hp)|(simp [go_sem,simprocAttr];done))))|(refine bf hX hC hP hR (hf _) rfl rfl rfl ?_ ?_ ?_ rfl ?_;(focus (simp only [go_sem,simprocAttr];done));(focus (first|(intro p hp;exact aM (bD.nd hR) hp)|(simp [go_sem,simprocAttr];done)));(focus (simp [go_sem,simprocAttr];done)))));try simp only [go_sem,simprocAttr])|((with_reducible refine oD ?_ ?_);kernel_rfl)|((with_reducible intro h);try simp only [go_sem,simprocAttr] at h)|omega|intro h)
 refine ak (fun k:Nat=>k≤ps.length∧∀j,j<k→g (ps.getD j 0)=false) (fun k=>⟨[(0, .d (sI ps)),(1, .fn f [] caps),(7,eN ps.length),(8,eN k)],m⟩) (fun k=>ps.length - k) 0 (by simp) ?_ ?_
 ·(refine ⟨dr ?_,fun _ _ h=>h⟩;simp [go_sem,simprocAttr])
 rintro k ⟨hk,hg⟩
 repeat' (first|refine Rn.p ?_|(with_reducible apply And.intro)|((first|(refine hK _ ?_;clear hK K)|with_reducible intro K hK|refine Rs.p ?_|((with_reducible first|apply oP|apply oQ);exact rfl)|(first|(refine bf hX hC hP hR (hf _) rfl rfl rfl ?_ ?_ rfl rfl ?_;(focus (simp only [go_sem,simprocAttr];done));(focus (first|(intro p hp;exact aM (bD.nd hR) hp)|(simp [go_sem,simprocAttr];done))))|(refine bf hX hC hP hR (hf _) rfl rfl rfl ?_ ?_ ?_ rfl ?_;(focus (simp only [go_sem,simprocAttr];done));(focus (first|(intro p hp;exact aM (bD.nd hR) hp)|(simp [go_sem,simprocAttr];done)));(focus (simp [go_sem,simprocAttr];done)))));try simp only [go_sem,simprocAttr])|((with_reducible refine oD ?_ ?_);kernel_rfl)|((with_reducible intro h);try simp only [go_sem,simprocAttr] at h)|omega|intro h)
 ·exact (fA (by omega) hg h).symm
 ·exact fB hR
 ·refine ⟨k+1,⟨by omega,fun j hj=> ?_⟩, ?_,by omega⟩
  ·by_cases hjk:j=k
   ·subst hjk;exact h
   ·exact hg j (by omega)
  ·(refine ⟨dr ?_,fun _ _ h=>h⟩;simp [go_sem,simprocAttr])
 ·exact (eC 0 fun j hj=>hg j (by omega)).symm
 ·exact fB hR
theorem mW {m:List (Nat × AObj)} (hR:bD m) (f:Nat) (caps:List AV) (g:Edge→Bool) (hf:∀p,Spec Tryz.prog f (Args (eE p::caps)) m (eB (g p)) m) (ps:List Edge) (hl:ps.length≤9223372036854775807):
 Spec Tryz.prog 144 (Args [.d (sE ps), .fn f [] caps]) m (eB (ps.any g)) m:=by
 (refine Spec.hd (C:=T.cfg [] []) (rs:= [.t 4]) (T.ai _ _) Tryz.func144 rfl rfl Tryz.ntmps144 Tryz.results144 (fun p hp=>⟨(bD.low hR p hp).1,bD.nest hR p hp⟩) (fun p hp=>⟨(bD.low hR p hp).2,bD.nest hR p hp⟩) (by kernel_rfl) T.mixed fun X hX hP hC aQ cy=> ?_)
 repeat' (first|refine Rn.p ?_|(with_reducible apply And.intro)|((first|(refine hK _ ?_;clear hK K)|with_reducible intro K hK|refine Rs.p ?_|((with_reducible first|apply oP|apply oQ);exact rfl)|(first|(refine bf hX hC hP hR (bJ hR _ _ g hf ps hl) rfl rfl rfl ?_ ?_ rfl rfl ?_;(focus (simp only [go_sem,simprocAttr];done));(focus (first|(intro p hp;exact aM (bD.nd hR) hp)|(simp [go_sem,simprocAttr];done))))|(refine bf hX hC hP hR (bJ hR _ _ g hf ps hl) rfl rfl rfl ?_ ?_ ?_ rfl ?_;(focus (simp only [go_sem,simprocAttr];done));(focus (first|(intro p hp;exact aM (bD.nd hR) hp)|(simp [go_sem,simprocAttr];done)));(focus (simp [go_sem,simprocAttr];done)))));try simp only [go_sem,simprocAttr])|((with_reducible refine oD ?_ ?_);kernel_rfl)|((with_reducible intro h);try simp only [go_sem,simprocAttr] at h)|omega|intro h)
 ·exact eW g ps
 ·exact fB hR
def wR (g:Gr) (x:Int):Bool:=decide (x<0)||decide (g.n≤x)
def qF (g:Gr) (e:Edge):Bool:=wR g e.1||wR g e.2
def aL (g:Gr):Bool:=decide (0<g.n)&&decide (g.n≤64)&&decide ((g.es.length:Int)≤128)&& !g.es.any (qF g)
def rG (g:Gr):AObj:= .rob [eN g.n, .d (sE g.es)]
theorem uY (g:Gr) (x:Int):Spec Tryz.prog 143 (Args [eN x, .ptr 10000 0]) [(10000,rG g)] (eB (wR g x)) [(10000,rG g)]:=by
 unfold rG
 (refine Spec.hd (C:=T.cfg [] []) (rs:= [.t 3]) (T.ai _ _) Tryz.func143 rfl rfl Tryz.ntmps143 Tryz.results143 (by simp [AObj.isNest]) (by simp [AObj.isNest]) (by kernel_rfl) T.mixed fun X hX hP hC aQ cy=> ?_)
 repeat' (first|refine Rn.p ?_|(with_reducible apply And.intro)|((first|(refine hK _ ?_;clear hK K)|with_reducible intro K hK|refine Rs.p ?_|((with_reducible first|apply oP|apply oQ);exact rfl)|(first|(refine bf hX hC hP hR (bJ hR _ _ g hf ps hl) rfl rfl rfl ?_ ?_ rfl rfl ?_;(focus (simp only [go_sem,simprocAttr];done));(focus (first|(intro p hp;exact aM (bD.nd hR) hp)|(simp [go_sem,simprocAttr];done))))|(refine bf hX hC hP hR (bJ hR _ _ g hf ps hl) rfl rfl rfl ?_ ?_ ?_ rfl ?_;(focus (simp only [go_sem,simprocAttr];done));(focus (first|(intro p hp;exact aM (bD.nd hR) hp)|(simp [go_sem,simprocAttr];done)));(focus (simp [go_sem,simprocAttr];done)))));try simp only [go_sem,simprocAttr])|((with_reducible refine oD ?_ ?_);kernel_rfl)|((with_reducible intro h);try simp only [go_sem,simprocAttr] at h)|omega|intro h)
 ·simp [wR, *]
 ·simp [wR, *]
theorem Hp (g:Gr):bD [(10000,rG g)]:=⟨by simp [rG,AObj.ro],by simp [nodupM,look],by simp,by simp [rG,AObj.ids,AV.ids,AV.idss,eN]⟩
def rF:AObj:= .rob [.fn 143 [] [.ptr 10000 0]]
attribute [go_sem] rG rF
theorem CK (g:Gr) (e:Edge):Spec Tryz.prog 145 (Args [eE e, .ptr 10001 0]) [(10001,rF),(10000,rG g)] (eB (qF g e)) [(10001,rF),(10000,rG g)]:=by
 unfold rF rG
 (refine Spec.hd (C:=T.cfg [] []) (rs:= [.t 3]) (T.ai _ _) Tryz.func145 rfl rfl Tryz.ntmps145 Tryz.results145 (by simp [AObj.isNest]) (by simp [AObj.isNest]) (by kernel_rfl) T.mixed fun X hX hP hC aQ cy=> ?_)
 repeat' (first|refine Rn.p ?_|(with_reducible apply And.intro)|((first|(refine hK _ ?_;clear hK K)|with_reducible intro K hK|refine Rs.p ?_|((with_reducible first|apply oP|apply oQ);exact rfl)|(first|(refine bf hX hC hP (Hp g) (uY g _) rfl rfl rfl ?_ ?_ rfl rfl ?_;(focus (simp only [go_sem,simprocAttr];done));(focus (first|(intro p hp;exact aM (bD.nd (Hp g)) hp)|(simp [go_sem,simprocAttr];done))))|(refine bf hX hC hP (Hp g) (uY g _) rfl rfl rfl ?_ ?_ ?_ rfl ?_;(focus (simp only [go_sem,simprocAttr];done));(focus (first|(intro p hp;exact aM (bD.nd (Hp g)) hp)|(simp [go_sem,simprocAttr];done)));(focus (simp [go_sem,simprocAttr];done)))));try simp only [go_sem,simprocAttr])|((with_reducible refine oD ?_ ?_);kernel_rfl)|((with_reducible intro h);try simp only [go_sem,simprocAttr] at h)|omega|intro h)
 ·simp [qF, *]
 ·simp [qF, *]
theorem Pj (g:Gr):bD [(10001,rF),(10000,rG g)]:=⟨by simp [rG,rF,AObj.ro],by simp [nodupM,look],by simp,by simp [rG,rF,AObj.ids,AV.ids,AV.idss,eN,look]⟩
theorem fC (g:Gr) (hl:g.es.length≤9223372036854775807):Spec Tryz.prog 91 (Args [eG g]) [] (eB (aL g)) []:=by
 (refine Spec.hd (C:=T.cfg [] []) (rs:= [.t 2]) (T.ai _ _) Tryz.func91 rfl rfl Tryz.ntmps91 Tryz.results91 (by simp [AObj.isNest]) (by simp [AObj.isNest]) (by kernel_rfl) T.mixed fun X hX hP hC aQ cy=> ?_)
 repeat' (first|refine Rn.p ?_|(with_reducible apply And.intro)|((first|(refine hK _ ?_;clear hK K)|with_reducible intro K hK|refine Rs.p ?_|((with_reducible first|apply oP|apply oQ);exact rfl)|(refine bu hX hC hP [(10000,1),(10001,3)] (mW (Pj g) _ _ (qF g) (CK g) g.es hl) rfl rfl rfl ?_ ?_ ?_ ?_ ?_ ?_ rfl rfl ?_ ?_;(focus (simp only [go_sem,simprocAttr];done));(iterate 6 (focus (simp [go_sem,simprocAttr];done)));try simp only [List.map_cons,List.map_nil]));try simp only [go_sem,simprocAttr])|((with_reducible refine oD ?_ ?_);kernel_rfl)|((with_reducible intro h);try simp only [go_sem,simprocAttr] at h)|omega|intro h)
 all_goals simp [aL, *]
end Go.Ab
end
section
namespace Go.Ab
open Go.Proofs
attribute [local congr] ACall.congr gd.congr Nx.congr
set_option maxRecDepth 10000
def fU (l:List Int) (x:Int):Int:=bP (fun y=>decide (x=y)) l
def Jt (l:List Edge) (x:Edge):Int:=bP (fun y=>decide (x=y)) l
theorem E4 (l:List Int) (x:Int):decide (0≤fU l x)=decide (x∈l):=by
 unfold fU;rw [eW,Bool.eq_iff_iff];simp
theorem E6 (l:List Edge) (x:Edge):decide (0≤Jt l x)=decide (x∈l):=by
 unfold Jt;rw [eW,Bool.eq_iff_iff];simp [-Prod.exists, -Prod.forall]
theorem CL (x y:Edge):(decide (x.1=y.1)&&decide (x.2=y.2))=decide (x=y):=by
 obtain ⟨a,b⟩:=x;obtain ⟨c,d⟩:=y
 rw [Bool.eq_iff_iff];simp
theorem aS (ps:List Int) (x:Int) (hl:ps.length≤9223372036854775807):
 Spec Tryz.prog 46 (Args [.d (sI ps),eN x]) [] (eN (fU ps x)) []:=by
 (refine Spec.hd (C:=T.cfg [] []) (rs:= [.t 4]) (T.ai _ _) Tryz.func46 rfl rfl Tryz.ntmps46 Tryz.results46 (by simp [AObj.isNest]) (by simp [AObj.isNest]) (by kernel_rfl) T.mixed fun X hX hP hC aQ cy=> ?_)
 repeat' (first|refine Rn.p ?_|(with_reducible apply And.intro)|((first|(refine hK _ ?_;clear hK K)|with_reducible intro K hK|refine Rs.p ?_|((with_reducible first|apply oP|apply oQ);exact rfl));try simp only [go_sem,simprocAttr])|((with_reducible refine oD ?_ ?_);kernel_rfl)|((with_reducible intro h);try simp only [go_sem,simprocAttr] at h)|omega|intro h)
 refine ak (fun k:Nat=>k≤ps.length∧∀j,j<k→decide (x=ps.getD j 0)=false) (fun k=>⟨[(0, .d (sI ps)),(1,eN x),(7,eN ps.length),(8,eN k)], []⟩) (fun k=>ps.length - k) 0 (by simp) ?_ ?_
 ·(refine ⟨dr ?_,fun _ _ h=>h⟩;simp [go_sem,simprocAttr])
 rintro k ⟨hk,hg⟩
 repeat' (first|refine Rn.p ?_|(with_reducible apply And.intro)|((first|(refine hK _ ?_;clear hK K)|with_reducible intro K hK|refine Rs.p ?_|((with_reducible first|apply oP|apply oQ);exact rfl));try simp only [go_sem,simprocAttr])|((with_reducible refine oD ?_ ?_);kernel_rfl)|((with_reducible intro h);try simp only [go_sem,simprocAttr] at h)|omega|intro h)
 ·exact (fA (by omega) hg (by simpa using h)).symm
 ·refine ⟨k+1,⟨by omega,fun j hj=> ?_⟩, ?_,by omega⟩
  ·by_cases hjk:j=k
   ·subst hjk;simpa using h
   ·simpa using hg j (by omega)
  ·(refine ⟨dr ?_,fun _ _ h=>h⟩;simp [go_sem,simprocAttr])
 ·exact (eC 0 fun j hj=>hg j (by omega)).symm
theorem aW (ps:List Int) (x:Int) (hl:ps.length≤9223372036854775807):
 Spec Tryz.prog 164 (Args [.d (sI ps),eN x]) [] (eB (decide (x∈ps))) []:=by
 rw [← E4]
 (refine Spec.hd (C:=T.cfg [] []) (rs:= [.t 4]) (T.ai _ _) Tryz.func164 rfl rfl Tryz.ntmps164 Tryz.results164 (by simp [AObj.isNest]) (by simp [AObj.isNest]) (by kernel_rfl) T.mixed fun X hX hP hC aQ cy=> ?_)
 repeat' (first|refine Rn.p ?_|(with_reducible apply And.intro)|((first|(refine hK _ ?_;clear hK K)|with_reducible intro K hK|refine Rs.p ?_|((with_reducible first|apply oP|apply oQ);exact rfl)|refine aa hX hC hP (aS ps x hl) rfl rfl rfl (by simp only [go_sem,simprocAttr]) rfl ?_);try simp only [go_sem,simprocAttr])|((with_reducible refine oD ?_ ?_);kernel_rfl)|((with_reducible intro h);try simp only [go_sem,simprocAttr] at h)|omega|intro h)
theorem yq (ps:List Edge) (x:Edge) (hl:ps.length≤9223372036854775807):
 Spec Tryz.prog 160 (Args [.d (sE ps),eE x]) [] (eN (Jt ps x)) []:=by
 (refine Spec.hd (C:=T.cfg [] []) (rs:= [.t 4]) (T.ai _ _) Tryz.func160 rfl rfl Tryz.ntmps160 Tryz.results160 (by simp [AObj.isNest]) (by simp [AObj.isNest]) (by kernel_rfl) T.mixed fun X hX hP hC aQ cy=> ?_)
 repeat' (first|refine Rn.p ?_|(with_reducible apply And.intro)|((first|(refine hK _ ?_;clear hK K)|with_reducible intro K hK|refine Rs.p ?_|((with_reducible first|apply oP|apply oQ);exact rfl));try simp only [go_sem,simprocAttr])|((with_reducible refine oD ?_ ?_);kernel_rfl)|((with_reducible intro h);try simp only [go_sem,simprocAttr] at h)|omega|intro h)
 refine ak (fun k:Nat=>k≤ps.length∧∀j,j<k→decide (x=ps.getD j (0,0))=false) (fun k=>⟨[(0, .d (sE ps)),(3, .ptr 3 0),(7,eN ps.length),(8,eN k)], [(3, .box [eN x.1,eN x.2])]⟩) (fun k=>ps.length - k) 0 (by simp) ?_ ?_
 ·(refine Le.of ?_ ?_<;>simp [go_sem,simprocAttr])
 rintro k ⟨hk,hg⟩
 repeat' (first|refine Rn.p ?_|(with_reducible apply And.intro)|((first|(refine hK _ ?_;clear hK K)|with_reducible intro K hK|refine Rs.p ?_|((with_reducible first|apply oP|apply oQ);exact rfl));try simp only [go_sem,simprocAttr,CL])|((with_reducible refine oD ?_ ?_);kernel_rfl)|((with_reducible intro h);try simp only [go_sem,simprocAttr,CL] at h)|omega|intro h)
 ·exact (fA (d:=(0,0)) (by omega) hg (by simpa using h)).symm
 ·refine ⟨k+1,⟨by omega,fun j hj=> ?_⟩, ?_,by omega⟩
  ·by_cases hjk:j=k
   ·subst hjk;exact h
   ·simpa using hg j (by omega)
  ·(refine Le.of ?_ ?_<;>simp [go_sem,simprocAttr,CL])
 ·exact (eC (0,0) fun j hj=>hg j (by omega)).symm
theorem dD (ps:List Edge) (x:Edge) (hl:ps.length≤9223372036854775807):
 Spec Tryz.prog 113 (Args [.d (sE ps),eE x]) [] (eB (decide (x∈ps))) []:=by
 rw [← E6]
 (refine Spec.hd (C:=T.cfg [] []) (rs:= [.t 4]) (T.ai _ _) Tryz.func113 rfl rfl Tryz.ntmps113 Tryz.results113 (by simp [AObj.isNest]) (by simp [AObj.isNest]) (by kernel_rfl) T.mixed fun X hX hP hC aQ cy=> ?_)
 repeat' (first|refine Rn.p ?_|(with_reducible apply And.intro)|((first|(refine hK _ ?_;clear hK K)|with_reducible intro K hK|refine Rs.p ?_|((with_reducible first|apply oP|apply oQ);exact rfl)|refine aa hX hC hP (yq ps x hl) rfl rfl rfl (by simp only [go_sem,simprocAttr,CL]) rfl ?_);try simp only [go_sem,simprocAttr,CL])|((with_reducible refine oD ?_ ?_);kernel_rfl)|((with_reducible intro h);try simp only [go_sem,simprocAttr,CL] at h)|omega|intro h)
theorem lB (ps:List Edge) (hl:ps.length≤1000000):
 Spec Tryz.prog 92 (Args [.d (sE ps)]) [] (.d (sE ps)) []:=by
 (refine Spec.hd (C:=T.cfg [] []) (rs:= [.t 2]) (T.ai _ _) Tryz.func92 rfl rfl Tryz.ntmps92 Tryz.results92 (by simp [AObj.isNest]) (by simp [AObj.isNest]) (by kernel_rfl) T.mixed fun X hX hP hC aQ cy=> ?_)
 repeat' (first|refine Rn.p ?_|(with_reducible apply And.intro)|((first|(refine hK _ ?_;clear hK K)|with_reducible intro K hK|refine Rs.p ?_|((with_reducible first|apply oP|apply oQ);exact rfl));try simp only [go_sem,simprocAttr])|((with_reducible refine oD ?_ ?_);kernel_rfl)|((with_reducible intro h);try simp only [go_sem,simprocAttr] at h)|omega|intro h)
 exact h.symm
theorem jd (ps:List Int) (hl:ps.length≤1000000):
 Spec Tryz.prog 44 (Args [.d (sI ps)]) [] (.d (sI ps)) []:=by
 (refine Spec.hd (C:=T.cfg [] []) (rs:= [.t 2]) (T.ai _ _) Tryz.func44 rfl rfl Tryz.ntmps44 Tryz.results44 (by simp [AObj.isNest]) (by simp [AObj.isNest]) (by kernel_rfl) T.mixed fun X hX hP hC aQ cy=> ?_)
 repeat' (first|refine Rn.p ?_|(with_reducible apply And.intro)|((first|(refine hK _ ?_;clear hK K)|with_reducible intro K hK|refine Rs.p ?_|((with_reducible first|apply oP|apply oQ);exact rfl));try simp only [go_sem,simprocAttr])|((with_reducible refine oD ?_ ?_);kernel_rfl)|((with_reducible intro h);try simp only [go_sem,simprocAttr] at h)|omega|intro h)
 exact h.symm
theorem CM {α:Type} {xs ys:List α} (d:α) {k:Nat} (h1:k<xs.length) (h2:k<ys.length) (h:xs.take k=ys.take k) (he:xs.getD k d=ys.getD k d):xs.take (k+1)=ys.take (k+1):=by
 rw [List.take_add_one,List.take_add_one,h,List.getElem?_eq_getElem h1,List.getElem?_eq_getElem h2]
 simp only [List.getD_eq_getElem?_getD,List.getElem?_eq_getElem h1,List.getElem?_eq_getElem h2,Option.getD_some] at he
 rw [he]
theorem Ju {α:Type} {f:α→Bool} {xs:List α} {d:α} {k:Nat} (h1:k<xs.length) (he:f (xs.getD k d)=true):xs.any f=true:=by
 rw [List.any_eq_true]
 refine ⟨_,List.getElem_mem h1, ?_⟩
 simpa only [List.getD_eq_getElem?_getD,List.getElem?_eq_getElem h1,Option.getD_some] using he
theorem E7 {g:Gr} {k:Nat} (h1:k<g.es.length) (he:qF g (g.es.getD k (0,0))=true):false=aL g:=by
 simp [aL,Ju h1 he]
end Go.Ab
end
