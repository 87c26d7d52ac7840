/- A part of the proof. -/
import Derived.Test.YtchjjbfhlchpfaaGreatProg
import Derived.Test.YtchjjbfhlchpfaaGreatL8P9
set_option linter.unusedSimpArgs false
set_option linter.unusedVariables false
section
set_option maxHeartbeats 8000000
namespace Go.Ab.T
open Go.Proofs
def T:Nat→Option TI
 |2=>some ⟨(.int .i64),1,8, [(.d (.sc (.int .i64 0)))]⟩
 |3=>some ⟨(.int .i64),1,8, [(.d (.sc (.int .i64 0)))]⟩
 |4=>some ⟨.bool,1,1, [(.d (.sc (.bool false)))]⟩
 |5=>some ⟨(.int .u8),1,1, [(.d (.sc (.int .u8 0)))]⟩
 |9=>some ⟨.sc,1,16, [(.d (.sc (.string ⟨#[]⟩)))]⟩
 |12=>some ⟨(.int .u64),1,8, [(.d (.sc (.int .u64 0)))]⟩
 |21=>some ⟨(.int .i32),1,4, [(.d (.sc (.int .i32 0)))]⟩
 |22=>some ⟨(.sl 73),1,24, [(.nil 73)]⟩
 |24=>some ⟨(.st [(0,3),(1,22)]),2,32, [(.d (.sc (.int .i64 0))),(.nil 73)]⟩
 |25=>some ⟨(.sl 71),1,24, [(.nil 71)]⟩
 |26=>some ⟨(.sl 25),1,24, [(.nil 25)]⟩
 |28=>some ⟨(.st [(0,25),(1,26)]),2,48, [(.nil 71),(.nil 25)]⟩
 |31=>some ⟨(.sl 3),1,24, [(.nil 3)]⟩
 |32=>some ⟨(.sl 31),1,24, [(.nil 31)]⟩
 |34=>some ⟨(.st [(0,31),(1,32)]),2,48, [(.nil 3),(.nil 31)]⟩
 |35=>some ⟨(.int .i64),1,8, [(.d (.sc (.int .i64 0)))]⟩
 |46=>some ⟨(.sl 49),1,24, [(.nil 49)]⟩
 |48=>some ⟨(.int .u64),1,8, [(.d (.sc (.int .u64 0)))]⟩
 |49=>some ⟨(.int .u64),1,8, [(.d (.sc (.int .u64 0)))]⟩
 |50=>some ⟨.sc,1,8, [(.d (.sc .nilFunc))]⟩
 |53=>some ⟨(.st [(0,31),(1,31),(2,31),(3,31)]),4,96, [(.nil 3),(.nil 3),(.nil 3),(.nil 3)]⟩
 |63=>some ⟨(.sl 64),1,24, [(.nil 64)]⟩
 |64=>some ⟨(.sl 100),1,24, [(.nil 100)]⟩
 |66=>some ⟨(.st [(0,35),(1,3),(2,31)]),3,40, [(.d (.sc (.int .i64 0))),(.d (.sc (.int .i64 0))),(.nil 3)]⟩
 |69=>some ⟨(.mp 3 3),1,8, [(.d (.sc (.map none)))]⟩
 |71=>some ⟨(.st [(0,3),(1,3)]),2,16, [(.d (.sc (.int .i64 0))),(.d (.sc (.int .i64 0)))]⟩
 |73=>some ⟨(.st [(0,3),(1,3)]),2,16, [(.d (.sc (.int .i64 0))),(.d (.sc (.int .i64 0)))]⟩
 |82=>some ⟨(.pt 137),1,8, [(.d (.sc (.pointer none)))]⟩
 |92=>some ⟨(.sl 4),1,24, [(.nil 4)]⟩
 |100=>some ⟨(.st [(0,3),(1,3),(2,3)]),3,24, [(.d (.sc (.int .i64 0))),(.d (.sc (.int .i64 0))),(.d (.sc (.int .i64 0)))]⟩
 |103=>some ⟨(.pt 105),1,8, [(.d (.sc (.pointer none)))]⟩
 |105=>some ⟨(.st [(0,31),(1,31),(2,53)]),6,144, [(.nil 3),(.nil 3),(.nil 3),(.nil 3),(.nil 3),(.nil 3)]⟩
 |111=>some ⟨(.pt 115),1,8, [(.d (.sc (.pointer none)))]⟩
 |115=>some ⟨(.st [(0,24),(2,34),(4,69)]),5,88, [(.d (.sc (.int .i64 0))),(.nil 73),(.nil 3),(.nil 31),(.d (.sc (.map none)))]⟩
 |119=>some ⟨(.pt 129),1,8, [(.d (.sc (.pointer none)))]⟩
 |127=>some ⟨(.st [(0,64)]),1,24, [(.nil 100)]⟩
 |129=>some ⟨(.st [(0,127),(1,82),(2,31)]),3,56, [(.nil 100),(.d (.sc (.pointer none))),(.nil 3)]⟩
 |131=>some ⟨(.pt 133),1,8, [(.d (.sc (.pointer none)))]⟩
 |133=>some ⟨(.st [(0,24),(2,28)]),4,80, [(.d (.sc (.int .i64 0))),(.nil 73),(.nil 71),(.nil 25)]⟩
 |137=>some ⟨(.st [(0,24),(2,32),(3,32)]),4,80, [(.d (.sc (.int .i64 0))),(.nil 73),(.nil 31),(.nil 31)]⟩
 |142=>some ⟨(.int .u64),1,8, [(.d (.sc (.int .u64 0)))]⟩
 |150=>some ⟨(.pt 152),1,8, [(.d (.sc (.pointer none)))]⟩
 |152=>some ⟨(.st [(0,24),(2,64),(3,31)]),4,80, [(.d (.sc (.int .i64 0))),(.nil 73),(.nil 100),(.nil 3)]⟩
 |159=>some ⟨(.pt 161),1,8, [(.d (.sc (.pointer none)))]⟩
 |161=>some ⟨(.st [(0,24),(2,34)]),4,80, [(.d (.sc (.int .i64 0))),(.nil 73),(.nil 3),(.nil 31)]⟩
 |173=>some ⟨(.pt 127),1,8, [(.d (.sc (.pointer none)))]⟩
 |183=>some ⟨(.sl 185),1,24, [(.nil 185)]⟩
 |185=>some ⟨(.st [(0,71),(2,71)]),4,32, [(.d (.sc (.int .i64 0))),(.d (.sc (.int .i64 0))),(.d (.sc (.int .i64 0))),(.d (.sc (.int .i64 0)))]⟩
 |192=>some ⟨(.int .i64),1,8, [(.d (.sc (.int .i64 0)))]⟩
 |199=>some ⟨(.int .u32),1,4, [(.d (.sc (.int .u32 0)))]⟩
 |214=>some ⟨(.ar 2 3),2,16, [(.d (.sc (.int .i64 0))),(.d (.sc (.int .i64 0)))]⟩
 |215=>some ⟨(.mp 71 3),1,8, [(.d (.sc (.map none)))]⟩
 |216=>some ⟨(.ar 2 71),4,32, [(.d (.sc (.int .i64 0))),(.d (.sc (.int .i64 0))),(.d (.sc (.int .i64 0))),(.d (.sc (.int .i64 0)))]⟩
 |218=>some ⟨(.int .u64),1,8, [(.d (.sc (.int .u64 0)))]⟩
 |222=>some ⟨(.pt 3),1,8, [(.d (.sc (.pointer none)))]⟩
 |230=>some ⟨(.pt 218),1,8, [(.d (.sc (.pointer none)))]⟩
 |251=>some ⟨(.pt 5),1,8, [(.d (.sc (.pointer none)))]⟩
 |_=>none
theorem T2:T 2=some ⟨(.int .i64),1,8, [(.d (.sc (.int .i64 0)))]⟩:=rfl
theorem T3:T 3=some ⟨(.int .i64),1,8, [(.d (.sc (.int .i64 0)))]⟩:=rfl
theorem T4:T 4=some ⟨.bool,1,1, [(.d (.sc (.bool false)))]⟩:=rfl
theorem T5:T 5=some ⟨(.int .u8),1,1, [(.d (.sc (.int .u8 0)))]⟩:=rfl
theorem T9:T 9=some ⟨.sc,1,16, [(.d (.sc (.string ⟨#[]⟩)))]⟩:=rfl
theorem T12:T 12=some ⟨(.int .u64),1,8, [(.d (.sc (.int .u64 0)))]⟩:=rfl
theorem T21:T 21=some ⟨(.int .i32),1,4, [(.d (.sc (.int .i32 0)))]⟩:=rfl
theorem T22:T 22=some ⟨(.sl 73),1,24, [(.nil 73)]⟩:=rfl
theorem T24:T 24=some ⟨(.st [(0,3),(1,22)]),2,32, [(.d (.sc (.int .i64 0))),(.nil 73)]⟩:=rfl
theorem T25:T 25=some ⟨(.sl 71),1,24, [(.nil 71)]⟩:=rfl
theorem T26:T 26=some ⟨(.sl 25),1,24, [(.nil 25)]⟩:=rfl
theorem T28:T 28=some ⟨(.st [(0,25),(1,26)]),2,48, [(.nil 71),(.nil 25)]⟩:=rfl
theorem T31:T 31=some ⟨(.sl 3),1,24, [(.nil 3)]⟩:=rfl
theorem T32:T 32=some ⟨(.sl 31),1,24, [(.nil 31)]⟩:=rfl
theorem T34:T 34=some ⟨(.st [(0,31),(1,32)]),2,48, [(.nil 3),(.nil 31)]⟩:=rfl
theorem T35:T 35=some ⟨(.int .i64),1,8, [(.d (.sc (.int .i64 0)))]⟩:=rfl
theorem T46:T 46=some ⟨(.sl 49),1,24, [(.nil 49)]⟩:=rfl
theorem T48:T 48=some ⟨(.int .u64),1,8, [(.d (.sc (.int .u64 0)))]⟩:=rfl
theorem T49:T 49=some ⟨(.int .u64),1,8, [(.d (.sc (.int .u64 0)))]⟩:=rfl
theorem T50:T 50=some ⟨.sc,1,8, [(.d (.sc .nilFunc))]⟩:=rfl
theorem T53:T 53=some ⟨(.st [(0,31),(1,31),(2,31),(3,31)]),4,96, [(.nil 3),(.nil 3),(.nil 3),(.nil 3)]⟩:=rfl
theorem T63:T 63=some ⟨(.sl 64),1,24, [(.nil 64)]⟩:=rfl
theorem T64:T 64=some ⟨(.sl 100),1,24, [(.nil 100)]⟩:=rfl
theorem T66:T 66=some ⟨(.st [(0,35),(1,3),(2,31)]),3,40, [(.d (.sc (.int .i64 0))),(.d (.sc (.int .i64 0))),(.nil 3)]⟩:=rfl
theorem T69:T 69=some ⟨(.mp 3 3),1,8, [(.d (.sc (.map none)))]⟩:=rfl
theorem T71:T 71=some ⟨(.st [(0,3),(1,3)]),2,16, [(.d (.sc (.int .i64 0))),(.d (.sc (.int .i64 0)))]⟩:=rfl
theorem T73:T 73=some ⟨(.st [(0,3),(1,3)]),2,16, [(.d (.sc (.int .i64 0))),(.d (.sc (.int .i64 0)))]⟩:=rfl
theorem T82:T 82=some ⟨(.pt 137),1,8, [(.d (.sc (.pointer none)))]⟩:=rfl
theorem T92:T 92=some ⟨(.sl 4),1,24, [(.nil 4)]⟩:=rfl
theorem T100:T 100=some ⟨(.st [(0,3),(1,3),(2,3)]),3,24, [(.d (.sc (.int .i64 0))),(.d (.sc (.int .i64 0))),(.d (.sc (.int .i64 0)))]⟩:=rfl
theorem T103:T 103=some ⟨(.pt 105),1,8, [(.d (.sc (.pointer none)))]⟩:=rfl
theorem T105:T 105=some ⟨(.st [(0,31),(1,31),(2,53)]),6,144, [(.nil 3),(.nil 3),(.nil 3),(.nil 3),(.nil 3),(.nil 3)]⟩:=rfl
theorem T111:T 111=some ⟨(.pt 115),1,8, [(.d (.sc (.pointer none)))]⟩:=rfl
theorem T115:T 115=some ⟨(.st [(0,24),(2,34),(4,69)]),5,88, [(.d (.sc (.int .i64 0))),(.nil 73),(.nil 3),(.nil 31),(.d (.sc (.map none)))]⟩:=rfl
theorem T119:T 119=some ⟨(.pt 129),1,8, [(.d (.sc (.pointer none)))]⟩:=rfl
theorem T127:T 127=some ⟨(.st [(0,64)]),1,24, [(.nil 100)]⟩:=rfl
theorem T129:T 129=some ⟨(.st [(0,127),(1,82),(2,31)]),3,56, [(.nil 100),(.d (.sc (.pointer none))),(.nil 3)]⟩:=rfl
theorem T131:T 131=some ⟨(.pt 133),1,8, [(.d (.sc (.pointer none)))]⟩:=rfl
theorem T133:T 133=some ⟨(.st [(0,24),(2,28)]),4,80, [(.d (.sc (.int .i64 0))),(.nil 73),(.nil 71),(.nil 25)]⟩:=rfl
theorem T137:T 137=some ⟨(.st [(0,24),(2,32),(3,32)]),4,80, [(.d (.sc (.int .i64 0))),(.nil 73),(.nil 31),(.nil 31)]⟩:=rfl
theorem T142:T 142=some ⟨(.int .u64),1,8, [(.d (.sc (.int .u64 0)))]⟩:=rfl
theorem T150:T 150=some ⟨(.pt 152),1,8, [(.d (.sc (.pointer none)))]⟩:=rfl
theorem T152:T 152=some ⟨(.st [(0,24),(2,64),(3,31)]),4,80, [(.d (.sc (.int .i64 0))),(.nil 73),(.nil 100),(.nil 3)]⟩:=rfl
theorem T159:T 159=some ⟨(.pt 161),1,8, [(.d (.sc (.pointer none)))]⟩:=rfl
theorem T161:T 161=some ⟨(.st [(0,24),(2,34)]),4,80, [(.d (.sc (.int .i64 0))),(.nil 73),(.nil 3),(.nil 31)]⟩:=rfl
theorem T173:T 173=some ⟨(.pt 127),1,8, [(.d (.sc (.pointer none)))]⟩:=rfl
theorem T183:T 183=some ⟨(.sl 185),1,24, [(.nil 185)]⟩:=rfl
theorem T185:T 185=some ⟨(.st [(0,71),(2,71)]),4,32, [(.d (.sc (.int .i64 0))),(.d (.sc (.int .i64 0))),(.d (.sc (.int .i64 0))),(.d (.sc (.int .i64 0)))]⟩:=rfl
theorem T192:T 192=some ⟨(.int .i64),1,8, [(.d (.sc (.int .i64 0)))]⟩:=rfl
theorem T199:T 199=some ⟨(.int .u32),1,4, [(.d (.sc (.int .u32 0)))]⟩:=rfl
theorem T214:T 214=some ⟨(.ar 2 3),2,16, [(.d (.sc (.int .i64 0))),(.d (.sc (.int .i64 0)))]⟩:=rfl
theorem T215:T 215=some ⟨(.mp 71 3),1,8, [(.d (.sc (.map none)))]⟩:=rfl
theorem T216:T 216=some ⟨(.ar 2 71),4,32, [(.d (.sc (.int .i64 0))),(.d (.sc (.int .i64 0))),(.d (.sc (.int .i64 0))),(.d (.sc (.int .i64 0)))]⟩:=rfl
theorem T218:T 218=some ⟨(.int .u64),1,8, [(.d (.sc (.int .u64 0)))]⟩:=rfl
theorem T222:T 222=some ⟨(.pt 3),1,8, [(.d (.sc (.pointer none)))]⟩:=rfl
theorem T230:T 230=some ⟨(.pt 218),1,8, [(.d (.sc (.pointer none)))]⟩:=rfl
theorem T251:T 251=some ⟨(.pt 5),1,8, [(.d (.sc (.pointer none)))]⟩:=rfl
def Cf:Nat→Option Nat
 |71=>some 2
 |73=>some 2
 |100=>some 3
 |_=>none
theorem eqn71:Cf 71=some 2:=rfl
theorem eqn73:Cf 73=some 2:=rfl
theorem eqn100:Cf 100=some 3:=rfl
theorem TO:aF Tryz.prog 2 ⟨(.int .i64),1,8, [(.d (.sc (.int .i64 0)))]⟩:=aF.mk' (by kernel_rfl) (by kernel_rfl) rfl Tryz.underlying2
theorem TP:aF Tryz.prog 3 ⟨(.int .i64),1,8, [(.d (.sc (.int .i64 0)))]⟩:=aF.mk' (by kernel_rfl) (by kernel_rfl) rfl Tryz.underlying3
theorem TQ:aF Tryz.prog 4 ⟨.bool,1,1, [(.d (.sc (.bool false)))]⟩:=aF.mk' (by kernel_rfl) (by kernel_rfl) rfl Tryz.underlying4
theorem TR:aF Tryz.prog 5 ⟨(.int .u8),1,1, [(.d (.sc (.int .u8 0)))]⟩:=aF.mk' (by kernel_rfl) (by kernel_rfl) rfl Tryz.underlying5
theorem TS:aF Tryz.prog 9 ⟨.sc,1,16, [(.d (.sc (.string ⟨#[]⟩)))]⟩:=aF.mk' (by kernel_rfl) (by kernel_rfl) rfl ⟨_,Tryz.underlying9,trivial⟩
theorem QT:aF Tryz.prog 12 ⟨(.int .u64),1,8, [(.d (.sc (.int .u64 0)))]⟩:=aF.mk' (by kernel_rfl) (by kernel_rfl) rfl Tryz.underlying12
theorem LP:aF Tryz.prog 21 ⟨(.int .i32),1,4, [(.d (.sc (.int .i32 0)))]⟩:=aF.mk' (by kernel_rfl) (by kernel_rfl) rfl Tryz.underlying21
theorem QU:aF Tryz.prog 22 ⟨(.sl 73),1,24, [(.nil 73)]⟩:=aF.mk' (by kernel_rfl) (by kernel_rfl) rfl Tryz.underlying22
theorem QV:aF Tryz.prog 24 ⟨(.st [(0,3),(1,22)]),2,32, [(.d (.sc (.int .i64 0))),(.nil 73)]⟩:=aF.mk' (by kernel_rfl) (by kernel_rfl) rfl ⟨_,Tryz.underlying24,rfl⟩
theorem QW:aF Tryz.prog 25 ⟨(.sl 71),1,24, [(.nil 71)]⟩:=aF.mk' (by kernel_rfl) (by kernel_rfl) rfl Tryz.underlying25
theorem QX:aF Tryz.prog 26 ⟨(.sl 25),1,24, [(.nil 25)]⟩:=aF.mk' (by kernel_rfl) (by kernel_rfl) rfl Tryz.underlying26
theorem QY:aF Tryz.prog 28 ⟨(.st [(0,25),(1,26)]),2,48, [(.nil 71),(.nil 25)]⟩:=aF.mk' (by kernel_rfl) (by kernel_rfl) rfl ⟨_,Tryz.underlying28,rfl⟩
theorem QZ:aF Tryz.prog 31 ⟨(.sl 3),1,24, [(.nil 3)]⟩:=aF.mk' (by kernel_rfl) (by kernel_rfl) rfl Tryz.underlying31
theorem Q0:aF Tryz.prog 32 ⟨(.sl 31),1,24, [(.nil 31)]⟩:=aF.mk' (by kernel_rfl) (by kernel_rfl) rfl Tryz.underlying32
theorem Q1:aF Tryz.prog 34 ⟨(.st [(0,31),(1,32)]),2,48, [(.nil 3),(.nil 31)]⟩:=aF.mk' (by kernel_rfl) (by kernel_rfl) rfl ⟨_,Tryz.underlying34,rfl⟩
theorem Q2:aF Tryz.prog 35 ⟨(.int .i64),1,8, [(.d (.sc (.int .i64 0)))]⟩:=aF.mk' (by kernel_rfl) (by kernel_rfl) rfl Tryz.underlying35
theorem Q3:aF Tryz.prog 46 ⟨(.sl 49),1,24, [(.nil 49)]⟩:=aF.mk' (by kernel_rfl) (by kernel_rfl) rfl Tryz.underlying46
theorem Q4:aF Tryz.prog 48 ⟨(.int .u64),1,8, [(.d (.sc (.int .u64 0)))]⟩:=aF.mk' (by kernel_rfl) (by kernel_rfl) rfl Tryz.underlying48
theorem Q5:aF Tryz.prog 49 ⟨(.int .u64),1,8, [(.d (.sc (.int .u64 0)))]⟩:=aF.mk' (by kernel_rfl) (by kernel_rfl) rfl Tryz.underlying49
theorem Q6:aF Tryz.prog 50 ⟨.sc,1,8, [(.d (.sc .nilFunc))]⟩:=aF.mk' (by kernel_rfl) (by kernel_rfl) rfl ⟨_,Tryz.underlying50,trivial⟩
theorem Q7:aF Tryz.prog 53 ⟨(.st [(0,31),(1,31),(2,31),(3,31)]),4,96, [(.nil 3),(.nil 3),(.nil 3),(.nil 3)]⟩:=aF.mk' (by kernel_rfl) (by kernel_rfl) rfl ⟨_,Tryz.underlying53,rfl⟩
theorem Q8:aF Tryz.prog 63 ⟨(.sl 64),1,24, [(.nil 64)]⟩:=aF.mk' (by kernel_rfl) (by kernel_rfl) rfl Tryz.underlying63
theorem Q9:aF Tryz.prog 64 ⟨(.sl 100),1,24, [(.nil 100)]⟩:=aF.mk' (by kernel_rfl) (by kernel_rfl) rfl Tryz.underlying64
theorem Ra:aF Tryz.prog 66 ⟨(.st [(0,35),(1,3),(2,31)]),3,40, [(.d (.sc (.int .i64 0))),(.d (.sc (.int .i64 0))),(.nil 3)]⟩:=aF.mk' (by kernel_rfl) (by kernel_rfl) rfl ⟨_,Tryz.underlying66,rfl⟩
theorem Rb:aF Tryz.prog 69 ⟨(.mp 3 3),1,8, [(.d (.sc (.map none)))]⟩:=aF.mk' (by kernel_rfl) (by kernel_rfl) rfl ⟨Tryz.underlying69,fun w=>by kernel_rfl⟩
theorem Rc:aF Tryz.prog 71 ⟨(.st [(0,3),(1,3)]),2,16, [(.d (.sc (.int .i64 0))),(.d (.sc (.int .i64 0)))]⟩:=aF.mk' (by kernel_rfl) (by kernel_rfl) rfl ⟨_,Tryz.underlying71,rfl⟩
theorem Re:aF Tryz.prog 73 ⟨(.st [(0,3),(1,3)]),2,16, [(.d (.sc (.int .i64 0))),(.d (.sc (.int .i64 0)))]⟩:=aF.mk' (by kernel_rfl) (by kernel_rfl) rfl ⟨_,Tryz.underlying73,rfl⟩
theorem Rg:aF Tryz.prog 82 ⟨(.pt 137),1,8, [(.d (.sc (.pointer none)))]⟩:=aF.mk' (by kernel_rfl) (by kernel_rfl) rfl Tryz.underlying82
theorem Rh:aF Tryz.prog 92 ⟨(.sl 4),1,24, [(.nil 4)]⟩:=aF.mk' (by kernel_rfl) (by kernel_rfl) rfl Tryz.underlying92
theorem NU:aF Tryz.prog 100 ⟨(.st [(0,3),(1,3),(2,3)]),3,24, [(.d (.sc (.int .i64 0))),(.d (.sc (.int .i64 0))),(.d (.sc (.int .i64 0)))]⟩:=aF.mk' (by kernel_rfl) (by kernel_rfl) rfl ⟨_,Tryz.underlying100,rfl⟩
theorem NV:aF Tryz.prog 103 ⟨(.pt 105),1,8, [(.d (.sc (.pointer none)))]⟩:=aF.mk' (by kernel_rfl) (by kernel_rfl) rfl Tryz.underlying103
theorem NW:aF Tryz.prog 105 ⟨(.st [(0,31),(1,31),(2,53)]),6,144, [(.nil 3),(.nil 3),(.nil 3),(.nil 3),(.nil 3),(.nil 3)]⟩:=aF.mk' (by kernel_rfl) (by kernel_rfl) rfl ⟨_,Tryz.underlying105,rfl⟩
theorem NX:aF Tryz.prog 111 ⟨(.pt 115),1,8, [(.d (.sc (.pointer none)))]⟩:=aF.mk' (by kernel_rfl) (by kernel_rfl) rfl Tryz.underlying111
theorem NY:aF Tryz.prog 115 ⟨(.st [(0,24),(2,34),(4,69)]),5,88, [(.d (.sc (.int .i64 0))),(.nil 73),(.nil 3),(.nil 31),(.d (.sc (.map none)))]⟩:=aF.mk' (by kernel_rfl) (by kernel_rfl) rfl ⟨_,Tryz.underlying115,rfl⟩
theorem NZ:aF Tryz.prog 119 ⟨(.pt 129),1,8, [(.d (.sc (.pointer none)))]⟩:=aF.mk' (by kernel_rfl) (by kernel_rfl) rfl Tryz.underlying119
theorem N0:aF Tryz.prog 127 ⟨(.st [(0,64)]),1,24, [(.nil 100)]⟩:=aF.mk' (by kernel_rfl) (by kernel_rfl) rfl ⟨_,Tryz.underlying127,rfl⟩
theorem N1:aF Tryz.prog 129 ⟨(.st [(0,127),(1,82),(2,31)]),3,56, [(.nil 100),(.d (.sc (.pointer none))),(.nil 3)]⟩:=aF.mk' (by kernel_rfl) (by kernel_rfl) rfl ⟨_,Tryz.underlying129,rfl⟩
theorem N2:aF Tryz.prog 131 ⟨(.pt 133),1,8, [(.d (.sc (.pointer none)))]⟩:=aF.mk' (by kernel_rfl) (by kernel_rfl) rfl Tryz.underlying131
theorem N3:aF Tryz.prog 133 ⟨(.st [(0,24),(2,28)]),4,80, [(.d (.sc (.int .i64 0))),(.nil 73),(.nil 71),(.nil 25)]⟩:=aF.mk' (by kernel_rfl) (by kernel_rfl) rfl ⟨_,Tryz.underlying133,rfl⟩
theorem N4:aF Tryz.prog 137 ⟨(.st [(0,24),(2,32),(3,32)]),4,80, [(.d (.sc (.int .i64 0))),(.nil 73),(.nil 31),(.nil 31)]⟩:=aF.mk' (by kernel_rfl) (by kernel_rfl) rfl ⟨_,Tryz.underlying137,rfl⟩
theorem N5:aF Tryz.prog 142 ⟨(.int .u64),1,8, [(.d (.sc (.int .u64 0)))]⟩:=aF.mk' (by kernel_rfl) (by kernel_rfl) rfl Tryz.underlying142
theorem N6:aF Tryz.prog 150 ⟨(.pt 152),1,8, [(.d (.sc (.pointer none)))]⟩:=aF.mk' (by kernel_rfl) (by kernel_rfl) rfl Tryz.underlying150
theorem N7:aF Tryz.prog 152 ⟨(.st [(0,24),(2,64),(3,31)]),4,80, [(.d (.sc (.int .i64 0))),(.nil 73),(.nil 100),(.nil 3)]⟩:=aF.mk' (by kernel_rfl) (by kernel_rfl) rfl ⟨_,Tryz.underlying152,rfl⟩
theorem N8:aF Tryz.prog 159 ⟨(.pt 161),1,8, [(.d (.sc (.pointer none)))]⟩:=aF.mk' (by kernel_rfl) (by kernel_rfl) rfl Tryz.underlying159
theorem N9:aF Tryz.prog 161 ⟨(.st [(0,24),(2,34)]),4,80, [(.d (.sc (.int .i64 0))),(.nil 73),(.nil 3),(.nil 31)]⟩:=aF.mk' (by kernel_rfl) (by kernel_rfl) rfl ⟨_,Tryz.underlying161,rfl⟩
theorem Oa:aF Tryz.prog 173 ⟨(.pt 127),1,8, [(.d (.sc (.pointer none)))]⟩:=aF.mk' (by kernel_rfl) (by kernel_rfl) rfl Tryz.underlying173
theorem Ob:aF Tryz.prog 183 ⟨(.sl 185),1,24, [(.nil 185)]⟩:=aF.mk' (by kernel_rfl) (by kernel_rfl) rfl Tryz.underlying183
theorem Oc:aF Tryz.prog 185 ⟨(.st [(0,71),(2,71)]),4,32, [(.d (.sc (.int .i64 0))),(.d (.sc (.int .i64 0))),(.d (.sc (.int .i64 0))),(.d (.sc (.int .i64 0)))]⟩:=aF.mk' (by kernel_rfl) (by kernel_rfl) rfl ⟨_,Tryz.underlying185,rfl⟩
theorem Od:aF Tryz.prog 192 ⟨(.int .i64),1,8, [(.d (.sc (.int .i64 0)))]⟩:=aF.mk' (by kernel_rfl) (by kernel_rfl) rfl Tryz.underlying192
theorem Oe:aF Tryz.prog 199 ⟨(.int .u32),1,4, [(.d (.sc (.int .u32 0)))]⟩:=aF.mk' (by kernel_rfl) (by kernel_rfl) rfl Tryz.underlying199
theorem Of:aF Tryz.prog 214 ⟨(.ar 2 3),2,16, [(.d (.sc (.int .i64 0))),(.d (.sc (.int .i64 0)))]⟩:=aF.mk' (by kernel_rfl) (by kernel_rfl) rfl Tryz.underlying214
theorem Og:aF Tryz.prog 215 ⟨(.mp 71 3),1,8, [(.d (.sc (.map none)))]⟩:=aF.mk' (by kernel_rfl) (by kernel_rfl) rfl ⟨Tryz.underlying215,fun w=>by kernel_rfl⟩
theorem Oh:aF Tryz.prog 216 ⟨(.ar 2 71),4,32, [(.d (.sc (.int .i64 0))),(.d (.sc (.int .i64 0))),(.d (.sc (.int .i64 0))),(.d (.sc (.int .i64 0)))]⟩:=aF.mk' (by kernel_rfl) (by kernel_rfl) rfl Tryz.underlying216
theorem Oi:aF Tryz.prog 218 ⟨(.int .u64),1,8, [(.d (.sc (.int .u64 0)))]⟩:=aF.mk' (by kernel_rfl) (by kernel_rfl) rfl Tryz.underlying218
theorem Oj:aF Tryz.prog 222 ⟨(.pt 3),1,8, [(.d (.sc (.pointer none)))]⟩:=aF.mk' (by kernel_rfl) (by kernel_rfl) rfl Tryz.underlying222
theorem Ol:aF Tryz.prog 230 ⟨(.pt 218),1,8, [(.d (.sc (.pointer none)))]⟩:=aF.mk' (by kernel_rfl) (by kernel_rfl) rfl Tryz.underlying230
theorem Om:aF Tryz.prog 251 ⟨(.pt 5),1,8, [(.d (.sc (.pointer none)))]⟩:=aF.mk' (by kernel_rfl) (by kernel_rfl) rfl Tryz.underlying251
theorem Ri:pS Tryz.prog 71 2:=pS.two (by kernel_rfl) (by kernel_rfl) Tryz.underlying71 (by decide) rfl Tryz.underlying3 (by decide) rfl Tryz.underlying3
theorem Rj:pS Tryz.prog 73 2:=pS.two (by kernel_rfl) (by kernel_rfl) Tryz.underlying73 (by decide) rfl Tryz.underlying3 (by decide) rfl Tryz.underlying3
theorem On:pS Tryz.prog 100 3:=pS.three (by kernel_rfl) (by kernel_rfl) Tryz.underlying100 (by decide) rfl Tryz.underlying3 (by decide) rfl Tryz.underlying3 (by decide) rfl Tryz.underlying3
set_option maxHeartbeats 4000000 in
theorem TT:∀t ti,T t=some ti→aF Tryz.prog t ti:=by
 intro t ti h
 unfold T at h
 split at h
 ·cases h;exact TO
 ·cases h;exact TP
 ·cases h;exact TQ
 ·cases h;exact TR
 ·cases h;exact TS
 ·cases h;exact QT
 ·cases h;exact LP
 ·cases h;exact QU
 ·cases h;exact QV
 ·cases h;exact QW
 ·cases h;exact QX
 ·cases h;exact QY
 ·cases h;exact QZ
 ·cases h;exact Q0
 ·cases h;exact Q1
 ·cases h;exact Q2
 ·cases h;exact Q3
 ·cases h;exact Q4
 ·cases h;exact Q5
 ·cases h;exact Q6
 ·cases h;exact Q7
 ·cases h;exact Q8
 ·cases h;exact Q9
 ·cases h;exact Ra
 ·cases h;exact Rb
 ·cases h;exact Rc
 ·cases h;exact Re
 ·cases h;exact Rg
 ·cases h;exact Rh
 ·cases h;exact NU
 ·cases h;exact NV
 ·cases h;exact NW
 ·cases h;exact NX
 ·cases h;exact NY
 ·cases h;exact NZ
 ·cases h;exact N0
 ·cases h;exact N1
 ·cases h;exact N2
 ·cases h;exact N3
 ·cases h;exact N4
 ·cases h;exact N5
 ·cases h;exact N6
 ·cases h;exact N7
 ·cases h;exact N8
 ·cases h;exact N9
 ·cases h;exact Oa
 ·cases h;exact Ob
 ·cases h;exact Oc
 ·cases h;exact Od
 ·cases h;exact Oe
 ·cases h;exact Of
 ·cases h;exact Og
 ·cases h;exact Oh
 ·cases h;exact Oi
 ·cases h;exact Oj
 ·cases h;exact Ol
 ·cases h;exact Om
 ·cases h
theorem TU:∀t n,Cf t=some n→pS Tryz.prog t n:=by
 intro t n h
 unfold Cf at h
 split at h
 ·cases h;exact Ri
 ·cases h;exact Rj
 ·cases h;exact On
 ·cases h
def cfg (own B6:List Nat):Cfg:=⟨T,own,Cf,B6⟩
theorem cfg_T (own B6:List Nat):(cfg own B6).T=T:=rfl
theorem cfg_own (own B6:List Nat):(cfg own B6).own=own:=rfl
theorem cfg_nst (own B6:List Nat):(cfg own B6).B6=B6:=rfl
theorem cfg_eqn (own B6:List Nat):(cfg own B6).Cf=Cf:=rfl
theorem aj (own B6:List Nat):(cfg own B6).Ok Tryz.prog:=⟨TT,TU⟩
theorem mixed:Tryz.prog.follows .mixedOrders=true:=by kernel_rfl
attribute [go_sem] T2 T3 T4 T5 T9 T12 T21 T22 T24 T25 T26 T28 T31 T32 T34 T35 T46 T48 T49 T50 T53 T63 T64 T66 T69 T71 T73 T82 T92 T100 T103 T105 T111 T115 T119 T127 T129 T131 T133 T137 T142 T150 T152 T159 T161 T173 T183 T185 T192 T199 T214 T215 T216 T218 T222 T230 T251 eqn71 eqn73 eqn100 cfg_T cfg_own cfg_nst cfg_eqn
end Go.Ab.T
end
section
namespace Go.Ab
open Go.Proofs
attribute [local congr] ACall.congr gd.congr Nx.congr
set_option maxRecDepth 10000
def eN (n:Int):AV:= .d (.sc (.int .i64 n))
def eB (b:Bool):AV:= .d (.sc (.bool b))
abbrev Edge:=Int × Int
structure Gr where
 n:Int
 es:List Edge
def rE (e:Edge):List D:= [.sc (.int .i64 e.1), .sc (.int .i64 e.2)]
def rI (n:Int):List D:= [.sc (.int .i64 n)]
def eE (e:Edge):AV:= .agg [.d (.sc (.int .i64 e.1)), .d (.sc (.int .i64 e.2))]
def sE (es:List Edge):D:= .sl 2 (es.map rE)
def sI (l:List Int):D:= .sl 1 (l.map rI)
def eG (g:Gr):AV:= .agg [eN g.n, .d (sE g.es)]
attribute [go_sem] eN eB eE sE sI eG Args AVrs
theorem getD_rE (ps:List Edge) (i:Nat):(ps.map rE).getD i [.sc (.int .i64 0), .sc (.int .i64 0)]= [.sc (.int .i64 (ps.getD i (0,0)).1), .sc (.int .i64 (ps.getD i (0,0)).2)]:=by
 simp only [List.getD_eq_getElem?_getD,List.getElem?_map]
 cases ps[i]? <;>rfl
theorem getD_rI (ps:List Int) (i:Nat):(ps.map rI).getD i [.sc (.int .i64 0)]= [.sc (.int .i64 (ps.getD i 0))]:=by
 simp only [List.getD_eq_getElem?_getD,List.getElem?_map]
 cases ps[i]? <;>rfl
theorem G7 (l:List Int) (k:Nat) (v:Int):(l.map rI).set k [.sc (.int .i64 v)]=(l.set k v).map rI:=by
 rw [List.map_set];rfl
attribute [go_sem] getD_rE getD_rI Int.toNat_natCast List.length_set
def VJ (n:Int):Prop:= -9223372036854775808≤n∧n≤9223372036854775807
def Len (n:Nat):Prop:=n≤9223372036854775807
end Go.Ab
end
section
namespace Go.Ab
open Go.Proofs
attribute [local congr] ACall.congr gd.congr Nx.congr
set_option maxRecDepth 10000
def bQ {α:Type} (g:α→Bool) (ps:List α):Int:=match ps.findIdx? g with|some i=>i|none=> -1
theorem cL {α:Type} {g:α→Bool} {ps:List α} (d:α) (h:∀j,j<ps.length→g (ps.getD j d)=false):bQ g ps= -1:=by
 have:ps.findIdx? g=none:=by
  rw [List.findIdx?_eq_none_iff]
  intro x hx
  obtain ⟨j,hj,rfl⟩:=List.getElem_of_mem hx
  simpa [List.getD_eq_getElem?_getD,List.getElem?_eq_getElem hj] using h j hj
 simp [bQ,this]
theorem c8 {α:Type} {g:α→Bool} {ps:List α} {d:α} {k:Nat} (hk:k<ps.length) (h:∀j,j<k→g (ps.getD j d)=false) (hg:g (ps.getD k d)=true):bQ g ps=k:=by
 have:ps.findIdx? g=some k:=by
  rw [List.findIdx?_eq_some_iff_getElem]
  refine ⟨hk,by simpa [List.getD_eq_getElem?_getD,List.getElem?_eq_getElem hk] using hg,fun j hj=> ?_⟩
  have:=h j hj
  simpa [List.getD_eq_getElem?_getD,List.getElem?_eq_getElem (Nat.lt_trans hj hk)] using this
 simp [bQ,this]
theorem fL {α:Type} (g:α→Bool) (ps:List α):decide (0≤bQ g ps)=ps.any g:=by
 cases h:ps.findIdx? g with
 |none=>
  have:bQ g ps= -1:=by simp [bQ,h]
  rw [this]
  rw [List.findIdx?_eq_none_iff] at h
  symm
  simpa using h
 |some i=>
  have:bQ g ps=i:=by simp [bQ,h]
  rw [this]
  obtain ⟨hi,hg,_⟩:=List.findIdx?_eq_some_iff_getElem.1 h
  have:ps.any g=true:=List.any_eq_true.2 ⟨_,List.getElem_mem hi,hg⟩
  rw [this];simp
theorem AY {α:Type} (g:α→Bool) (ps:List α):bQ g ps= -1∨(0≤bQ g ps∧bQ g ps<ps.length):=by
 cases h:ps.findIdx? g with
 |none=>exact .inl (by simp [bQ,h])
 |some i=>
  obtain ⟨hi,hg,_⟩:=List.findIdx?_eq_some_iff_getElem.1 h
  exact .inr (by simp [bQ,h];omega)
theorem AZ (rn:List (Nat × Nat)) (h0:rn= []) {m:List (Nat × AObj)} :∀ {r:List (Nat × AObj)},(∀p∈r,look m p.1=some p.2)→leR m rn r
 | [],_=>trivial
 |p::r,h=>by
  subst h0
  have h1:=h p List.mem_cons_self
  refine ⟨?_,AZ [] rfl fun q hq=>h q (List.mem_cons_of_mem _ hq)⟩
  have e:renO [] p.2=p.2:=rfl
  show look m p.1=some (renO [] p.2)
  rw [e];exact h1
theorem gl {m:List (Nat × AObj)} (h:bH m):leR m [] m:=AZ [] rfl fun _ hp=>aT h.nd hp
theorem bP {m:List (Nat × AObj)} (hR:bH m) (f:Nat) (caps:List AV) (g:Edge→Bool) (hf:∀p,Spec Tryz.prog f (Args (eE p::caps)) m (eB (g p)) m) (ps:List Edge) (hl:ps.length≤9223372036854775807):
 Spec Tryz.prog 130 (Args [.d (sE ps), .fn f [] caps]) m (eN (bQ g ps)) m:=by
 (refine Spec.hd (C:=T.cfg [] []) (rs:= [.t 4]) (T.aj _ _) Tryz.func130 rfl rfl Tryz.ntmps130 Tryz.results130 (fun p hp=>⟨(bH.low hR p hp).1,bH.nest hR p hp⟩) (fun p hp=>⟨(bH.low hR p hp).2,bH.nest hR p hp⟩) (by kernel_rfl) T.mixed fun X hX hP hC aP bV=> ?_)
 repeat' (first|refine Rn.p ?_|(with_reducible apply And.intro)|((first|(refine hK _ ?_;clear hK K)|with_reducible intro K hK|refine Rs.p ?_|((with_reducible first|apply oP|apply oQ);exact rfl)|(first|(refine bt hX hC hP hR (hf _) rfl rfl rfl ?_ ?_ rfl rfl ?_;(focus (simp only [go_sem,simprocAttr];done));(focus (first|(intro p hp;exact aT (bH.nd hR) hp)|(simp [go_sem,simprocAttr];done))))|(refine bt hX hC hP hR (hf _) rfl rfl rfl ?_ ?_ ?_ rfl ?_;(focus (simp only [go_sem,simprocAttr];done));(focus (first|(intro p hp;exact aT (bH.nd hR) hp)|(simp [go_sem,simprocAttr];done)));(focus (simp [go_sem,simprocAttr];done)))));try simp only [go_sem,simprocAttr])|((with_reducible refine oD ?_ ?_);kernel_rfl)|((with_reducible intro h);try simp only [go_sem,simprocAttr] at h)|omega|intro h)
 refine ai (fun k:Nat=>k≤ps.length∧∀j,j<k→g (ps.getD j (0,0))=false) (fun k=>⟨[(0, .d (sE ps)),(1, .fn f [] caps),(7,eN ps.length),(8,eN k)],m⟩) (fun k=>ps.length - k) 0 (by simp) ?_ ?_
 ·(refine ⟨c7 ?_,fun _ _ h=>h⟩;simp [go_sem,simprocAttr])
 rintro k ⟨hk,hg⟩
 repeat' (first|refine Rn.p ?_|(with_reducible apply And.intro)|((first|(refine hK _ ?_;clear hK K)|with_reducible intro K hK|refine Rs.p ?_|((with_reducible first|apply oP|apply oQ);exact rfl)|(first|(refine bt hX hC hP hR (hf _) rfl rfl rfl ?_ ?_ rfl rfl ?_;(focus (simp only [go_sem,simprocAttr];done));(focus (first|(intro p hp;exact aT (bH.nd hR) hp)|(simp [go_sem,simprocAttr];done))))|(refine bt hX hC hP hR (hf _) rfl rfl rfl ?_ ?_ ?_ rfl ?_;(focus (simp only [go_sem,simprocAttr];done));(focus (first|(intro p hp;exact aT (bH.nd hR) hp)|(simp [go_sem,simprocAttr];done)));(focus (simp [go_sem,simprocAttr];done)))));try simp only [go_sem,simprocAttr])|((with_reducible refine oD ?_ ?_);kernel_rfl)|((with_reducible intro h);try simp only [go_sem,simprocAttr] at h)|omega|intro h)
 ·exact (c8 (by omega) hg h).symm
 ·exact gl hR
 ·refine ⟨k+1,⟨by omega,fun j hj=> ?_⟩, ?_,by omega⟩
  ·by_cases hjk:j=k
   ·subst hjk;exact h
   ·exact hg j (by omega)
  ·(refine ⟨c7 ?_,fun _ _ h=>h⟩;simp [go_sem,simprocAttr])
 ·exact (cL (0,0) fun j hj=>hg j (by omega)).symm
 ·exact gl hR
theorem cU {m:List (Nat × AObj)} (hR:bH m) (f:Nat) (caps:List AV) (g:Int→Bool) (hf:∀p,Spec Tryz.prog f (Args (eN p::caps)) m (eB (g p)) m) (ps:List Int) (hl:ps.length≤9223372036854775807):
 Spec Tryz.prog 177 (Args [.d (sI ps), .fn f [] caps]) m (eN (bQ g ps)) m:=by
 (refine Spec.hd (C:=T.cfg [] []) (rs:= [.t 4]) (T.aj _ _) Tryz.func177 rfl rfl Tryz.ntmps177 Tryz.results177 (fun p hp=>⟨(bH.low hR p hp).1,bH.nest hR p hp⟩) (fun p hp=>⟨(bH.low hR p hp).2,bH.nest hR p hp⟩) (by kernel_rfl) T.mixed fun X hX hP hC aP bV=> ?_)
 repeat' (first|refine Rn.p ?_|(with_reducible apply And.intro)|((first|(refine hK _ ?_;clear hK K)|with_reducible intro K hK|refine Rs.p ?_|((with_reducible first|apply oP|apply oQ);exact rfl)|(first|(refine bt hX hC hP hR (hf _) rfl rfl rfl ?_ ?_ rfl rfl ?_;(focus (simp only [go_sem,simprocAttr];done));(focus (first|(intro p hp;exact aT (bH.nd hR) hp)|(simp [go_sem,simprocAttr];done))))|(refine bt hX hC hP hR (hf _) rfl rfl rfl ?_ ?_ ?_ rfl ?_;(focus (simp only [go_sem,simprocAttr];done));(focus (first|(intro p hp;exact aT (bH.nd hR) hp)|(simp [go_sem,simprocAttr];done)));(focus (simp [go_sem,simprocAttr];done)))));try simp only [go_sem,simprocAttr])|((with_reducible refine oD ?_ ?_);kernel_rfl)|((with_reducible intro h);try simp only [go_sem,simprocAttr] at h)|omega|intro h)
 refine ai (fun k:Nat=>k≤ps.length∧∀j,j<k→g (ps.getD j 0)=false) (fun k=>⟨[(0, .d (sI ps)),(1, .fn f [] caps),(7,eN ps.length),(8,eN k)],m⟩) (fun k=>ps.length - k) 0 (by simp) ?_ ?_
 ·(refine ⟨c7 ?_,fun _ _ h=>h⟩;simp [go_sem,simprocAttr])
 rintro k ⟨hk,hg⟩
 repeat' (first|refine Rn.p ?_|(with_reducible apply And.intro)|((first|(refine hK _ ?_;clear hK K)|with_reducible intro K hK|refine Rs.p ?_|((with_reducible first|apply oP|apply oQ);exact rfl)|(first|(refine bt hX hC hP hR (hf _) rfl rfl rfl ?_ ?_ rfl rfl ?_;(focus (simp only [go_sem,simprocAttr];done));(focus (first|(intro p hp;exact aT (bH.nd hR) hp)|(simp [go_sem,simprocAttr];done))))|(refine bt hX hC hP hR (hf _) rfl rfl rfl ?_ ?_ ?_ rfl ?_;(focus (simp only [go_sem,simprocAttr];done));(focus (first|(intro p hp;exact aT (bH.nd hR) hp)|(simp [go_sem,simprocAttr];done)));(focus (simp [go_sem,simprocAttr];done)))));try simp only [go_sem,simprocAttr])|((with_reducible refine oD ?_ ?_);kernel_rfl)|((with_reducible intro h);try simp only [go_sem,simprocAttr] at h)|omega|intro h)
 ·exact (c8 (by omega) hg h).symm
 ·exact gl hR
 ·refine ⟨k+1,⟨by omega,fun j hj=> ?_⟩, ?_,by omega⟩
  ·by_cases hjk:j=k
   ·subst hjk;exact h
   ·exact hg j (by omega)
  ·(refine ⟨c7 ?_,fun _ _ h=>h⟩;simp [go_sem,simprocAttr])
 ·exact (cL 0 fun j hj=>hg j (by omega)).symm
 ·exact gl hR
theorem oY {m:List (Nat × AObj)} (hR:bH m) (f:Nat) (caps:List AV) (g:Edge→Bool) (hf:∀p,Spec Tryz.prog f (Args (eE p::caps)) m (eB (g p)) m) (ps:List Edge) (hl:ps.length≤9223372036854775807):
 Spec Tryz.prog 147 (Args [.d (sE ps), .fn f [] caps]) m (eB (ps.any g)) m:=by
 (refine Spec.hd (C:=T.cfg [] []) (rs:= [.t 4]) (T.aj _ _) Tryz.func147 rfl rfl Tryz.ntmps147 Tryz.results147 (fun p hp=>⟨(bH.low hR p hp).1,bH.nest hR p hp⟩) (fun p hp=>⟨(bH.low hR p hp).2,bH.nest hR p hp⟩) (by kernel_rfl) T.mixed fun X hX hP hC aP bV=> ?_)
 repeat' (first|refine Rn.p ?_|(with_reducible apply And.intro)|((first|(refine hK _ ?_;clear hK K)|with_reducible intro K hK|refine Rs.p ?_|((with_reducible first|apply oP|apply oQ);exact rfl)|(first|(refine bt hX hC hP hR (bP hR _ _ g hf ps hl) rfl rfl rfl ?_ ?_ rfl rfl ?_;(focus (simp only [go_sem,simprocAttr];done));(focus (first|(intro p hp;exact aT (bH.nd hR) hp)|(simp [go_sem,simprocAttr];done))))|(refine bt hX hC hP hR (bP hR _ _ g hf ps hl) rfl rfl rfl ?_ ?_ ?_ rfl ?_;(focus (simp only [go_sem,simprocAttr];done));(focus (first|(intro p hp;exact aT (bH.nd hR) hp)|(simp [go_sem,simprocAttr];done)));(focus (simp [go_sem,simprocAttr];done)))));try simp only [go_sem,simprocAttr])|((with_reducible refine oD ?_ ?_);kernel_rfl)|((with_reducible intro h);try simp only [go_sem,simprocAttr] at h)|omega|intro h)
 ·exact fL g ps
 ·exact gl hR
def vk (g:Gr) (x:Int):Bool:=decide (x<0)||decide (g.n≤x)
def oZ (g:Gr) (e:Edge):Bool:=vk g e.1||vk g e.2
def aG (g:Gr):Bool:=decide (0<g.n)&&decide (g.n≤64)&&decide ((g.es.length:Int)≤128)&& !g.es.any (oZ g)
def rG (g:Gr):AObj:= .rob [eN g.n, .d (sE g.es)]
theorem xN (g:Gr) (x:Int):Spec Tryz.prog 146 (Args [eN x, .ptr 10000 0]) [(10000,rG g)] (eB (vk g x)) [(10000,rG g)]:=by
 unfold rG
 (refine Spec.hd (C:=T.cfg [] []) (rs:= [.t 3]) (T.aj _ _) Tryz.func146 rfl rfl Tryz.ntmps146 Tryz.results146 (by simp [AObj.isNest]) (by simp [AObj.isNest]) (by kernel_rfl) T.mixed fun X hX hP hC aP bV=> ?_)
 repeat' (first|refine Rn.p ?_|(with_reducible apply And.intro)|((first|(refine hK _ ?_;clear hK K)|with_reducible intro K hK|refine Rs.p ?_|((with_reducible first|apply oP|apply oQ);exact rfl)|(first|(refine bt hX hC hP hR (bP hR _ _ g hf ps hl) rfl rfl rfl ?_ ?_ rfl rfl ?_;(focus (simp only [go_sem,simprocAttr];done));(focus (first|(intro p hp;exact aT (bH.nd hR) hp)|(simp [go_sem,simprocAttr];done))))|(refine bt hX hC hP hR (bP hR _ _ g hf ps hl) rfl rfl rfl ?_ ?_ ?_ rfl ?_;(focus (simp only [go_sem,simprocAttr];done));(focus (first|(intro p hp;exact aT (bH.nd hR) hp)|(simp [go_sem,simprocAttr];done)));(focus (simp [go_sem,simprocAttr];done)))));try simp only [go_sem,simprocAttr])|((with_reducible refine oD ?_ ?_);kernel_rfl)|((with_reducible intro h);try simp only [go_sem,simprocAttr] at h)|omega|intro h)
 ·simp [vk, *]
 ·simp [vk, *]
theorem JS (g:Gr):bH [(10000,rG g)]:=⟨by simp [rG,AObj.ro],by simp [nodupM,look],by simp,by simp [rG,AObj.ids,AV.ids,AV.idss,eN]⟩
def rF:AObj:= .rob [.fn 146 [] [.ptr 10000 0]]
attribute [go_sem] rG rF
theorem ER (g:Gr) (e:Edge):Spec Tryz.prog 148 (Args [eE e, .ptr 10001 0]) [(10001,rF),(10000,rG g)] (eB (oZ g e)) [(10001,rF),(10000,rG g)]:=by
 unfold rF rG
 (refine Spec.hd (C:=T.cfg [] []) (rs:= [.t 3]) (T.aj _ _) Tryz.func148 rfl rfl Tryz.ntmps148 Tryz.results148 (by simp [AObj.isNest]) (by simp [AObj.isNest]) (by kernel_rfl) T.mixed fun X hX hP hC aP bV=> ?_)
 repeat' (first|refine Rn.p ?_|(with_reducible apply And.intro)|((first|(refine hK _ ?_;clear hK K)|with_reducible intro K hK|refine Rs.p ?_|((with_reducible first|apply oP|apply oQ);exact rfl)|(first|(refine bt hX hC hP (JS g) (xN g _) rfl rfl rfl ?_ ?_ rfl rfl ?_;(focus (simp only [go_sem,simprocAttr];done));(focus (first|(intro p hp;exact aT (bH.nd (JS g)) hp)|(simp [go_sem,simprocAttr];done))))|(refine bt hX hC hP (JS g) (xN g _) rfl rfl rfl ?_ ?_ ?_ rfl ?_;(focus (simp only [go_sem,simprocAttr];done));(focus (first|(intro p hp;exact aT (bH.nd (JS g)) hp)|(simp [go_sem,simprocAttr];done)));(focus (simp [go_sem,simprocAttr];done)))));try simp only [go_sem,simprocAttr])|((with_reducible refine oD ?_ ?_);kernel_rfl)|((with_reducible intro h);try simp only [go_sem,simprocAttr] at h)|omega|intro h)
 ·simp [oZ, *]
 ·simp [oZ, *]
theorem Rk (g:Gr):bH [(10001,rF),(10000,rG g)]:=⟨by simp [rG,rF,AObj.ro],by simp [nodupM,look],by simp,by simp [rG,rF,AObj.ids,AV.ids,AV.idss,eN,look]⟩
theorem gm (g:Gr) (hl:g.es.length≤9223372036854775807):Spec Tryz.prog 96 (Args [eG g]) [] (eB (aG g)) []:=by
 (refine Spec.hd (C:=T.cfg [] []) (rs:= [.t 2]) (T.aj _ _) Tryz.func96 rfl rfl Tryz.ntmps96 Tryz.results96 (by simp [AObj.isNest]) (by simp [AObj.isNest]) (by kernel_rfl) T.mixed fun X hX hP hC aP bV=> ?_)
 repeat' (first|refine Rn.p ?_|(with_reducible apply And.intro)|((first|(refine hK _ ?_;clear hK K)|with_reducible intro K hK|refine Rs.p ?_|((with_reducible first|apply oP|apply oQ);exact rfl)|(refine bC hX hC hP [(10000,1),(10001,3)] (oY (Rk g) _ _ (oZ g) (ER g) g.es hl) rfl rfl rfl ?_ ?_ ?_ ?_ ?_ ?_ rfl rfl ?_ ?_;(focus (simp only [go_sem,simprocAttr];done));(iterate 6 (focus (simp [go_sem,simprocAttr];done)));try simp only [List.map_cons,List.map_nil]));try simp only [go_sem,simprocAttr])|((with_reducible refine oD ?_ ?_);kernel_rfl)|((with_reducible intro h);try simp only [go_sem,simprocAttr] at h)|omega|intro h)
 all_goals simp [aG, *]
end Go.Ab
end
section
namespace Go.Ab
open Go.Proofs
attribute [local congr] ACall.congr gd.congr Nx.congr
set_option maxRecDepth 10000
def fY (l:List Int) (x:Int):Int:=bQ (fun y=>decide (x=y)) l
def LQ (l:List Edge) (x:Edge):Int:=bQ (fun y=>decide (x=y)) l
theorem G8 (l:List Int) (x:Int):decide (0≤fY l x)=decide (x∈l):=by
 unfold fY;rw [fL,Bool.eq_iff_iff];simp
theorem G9 (l:List Edge) (x:Edge):decide (0≤LQ l x)=decide (x∈l):=by
 unfold LQ;rw [fL,Bool.eq_iff_iff];simp [-Prod.exists, -Prod.forall]
theorem vl (x y:Edge):(decide (x.1=y.1)&&decide (x.2=y.2))=decide (x=y):=by
 obtain ⟨a,b⟩:=x;obtain ⟨c,d⟩:=y
 rw [Bool.eq_iff_iff];simp
theorem aW (ps:List Int) (x:Int) (hl:ps.length≤9223372036854775807):
 Spec Tryz.prog 73 (Args [.d (sI ps),eN x]) [] (eN (fY ps x)) []:=by
 (refine Spec.hd (C:=T.cfg [] []) (rs:= [.t 4]) (T.aj _ _) Tryz.func73 rfl rfl Tryz.ntmps73 Tryz.results73 (by simp [AObj.isNest]) (by simp [AObj.isNest]) (by kernel_rfl) T.mixed fun X hX hP hC aP bV=> ?_)
 repeat' (first|refine Rn.p ?_|(with_reducible apply And.intro)|((first|(refine hK _ ?_;clear hK K)|with_reducible intro K hK|refine Rs.p ?_|((with_reducible first|apply oP|apply oQ);exact rfl));try simp only [go_sem,simprocAttr])|((with_reducible refine oD ?_ ?_);kernel_rfl)|((with_reducible intro h);try simp only [go_sem,simprocAttr] at h)|omega|intro h)
 refine ai (fun k:Nat=>k≤ps.length∧∀j,j<k→decide (x=ps.getD j 0)=false) (fun k=>⟨[(0, .d (sI ps)),(1,eN x),(7,eN ps.length),(8,eN k)], []⟩) (fun k=>ps.length - k) 0 (by simp) ?_ ?_
 ·(refine ⟨c7 ?_,fun _ _ h=>h⟩;simp [go_sem,simprocAttr])
 rintro k ⟨hk,hg⟩
 repeat' (first|refine Rn.p ?_|(with_reducible apply And.intro)|((first|(refine hK _ ?_;clear hK K)|with_reducible intro K hK|refine Rs.p ?_|((with_reducible first|apply oP|apply oQ);exact rfl));try simp only [go_sem,simprocAttr])|((with_reducible refine oD ?_ ?_);kernel_rfl)|((with_reducible intro h);try simp only [go_sem,simprocAttr] at h)|omega|intro h)
 ·exact (c8 (by omega) hg (by simpa using h)).symm
 ·refine ⟨k+1,⟨by omega,fun j hj=> ?_⟩, ?_,by omega⟩
  ·by_cases hjk:j=k
   ·subst hjk;simpa using h
   ·simpa using hg j (by omega)
  ·(refine ⟨c7 ?_,fun _ _ h=>h⟩;simp [go_sem,simprocAttr])
 ·exact (cL 0 fun j hj=>hg j (by omega)).symm
theorem bn (ps:List Int) (x:Int) (hl:ps.length≤9223372036854775807):
 Spec Tryz.prog 166 (Args [.d (sI ps),eN x]) [] (eB (decide (x∈ps))) []:=by
 rw [← G8]
 (refine Spec.hd (C:=T.cfg [] []) (rs:= [.t 4]) (T.aj _ _) Tryz.func166 rfl rfl Tryz.ntmps166 Tryz.results166 (by simp [AObj.isNest]) (by simp [AObj.isNest]) (by kernel_rfl) T.mixed fun X hX hP hC aP bV=> ?_)
 repeat' (first|refine Rn.p ?_|(with_reducible apply And.intro)|((first|(refine hK _ ?_;clear hK K)|with_reducible intro K hK|refine Rs.p ?_|((with_reducible first|apply oP|apply oQ);exact rfl)|refine aa hX hC hP (aW ps x hl) rfl rfl rfl (by simp only [go_sem,simprocAttr]) rfl ?_);try simp only [go_sem,simprocAttr])|((with_reducible refine oD ?_ ?_);kernel_rfl)|((with_reducible intro h);try simp only [go_sem,simprocAttr] at h)|omega|intro h)
theorem A0 (ps:List Edge) (x:Edge) (hl:ps.length≤9223372036854775807):
 Spec Tryz.prog 175 (Args [.d (sE ps),eE x]) [] (eN (LQ ps x)) []:=by
 (refine Spec.hd (C:=T.cfg [] []) (rs:= [.t 4]) (T.aj _ _) Tryz.func175 rfl rfl Tryz.ntmps175 Tryz.results175 (by simp [AObj.isNest]) (by simp [AObj.isNest]) (by kernel_rfl) T.mixed fun X hX hP hC aP bV=> ?_)
 repeat' (first|refine Rn.p ?_|(with_reducible apply And.intro)|((first|(refine hK _ ?_;clear hK K)|with_reducible intro K hK|refine Rs.p ?_|((with_reducible first|apply oP|apply oQ);exact rfl));try simp only [go_sem,simprocAttr])|((with_reducible refine oD ?_ ?_);kernel_rfl)|((with_reducible intro h);try simp only [go_sem,simprocAttr] at h)|omega|intro h)
 refine ai (fun k:Nat=>k≤ps.length∧∀j,j<k→decide (x=ps.getD j (0,0))=false) (fun k=>⟨[(0, .d (sE ps)),(3, .ptr 3 0),(7,eN ps.length),(8,eN k)], [(3, .box [eN x.1,eN x.2])]⟩) (fun k=>ps.length - k) 0 (by simp) ?_ ?_
 ·(refine Le.of ?_ ?_<;>simp [go_sem,simprocAttr])
 rintro k ⟨hk,hg⟩
 repeat' (first|refine Rn.p ?_|(with_reducible apply And.intro)|((first|(refine hK _ ?_;clear hK K)|with_reducible intro K hK|refine Rs.p ?_|((with_reducible first|apply oP|apply oQ);exact rfl));try simp only [go_sem,simprocAttr,vl])|((with_reducible refine oD ?_ ?_);kernel_rfl)|((with_reducible intro h);try simp only [go_sem,simprocAttr,vl] at h)|omega|intro h)
 ·exact (c8 (d:=(0,0)) (by omega) hg (by simpa using h)).symm
 ·refine ⟨k+1,⟨by omega,fun j hj=> ?_⟩, ?_,by omega⟩
  ·by_cases hjk:j=k
   ·subst hjk;exact h
   ·simpa using hg j (by omega)
  ·(refine Le.of ?_ ?_<;>simp [go_sem,simprocAttr,vl])
 ·exact (cL (0,0) fun j hj=>hg j (by omega)).symm
theorem ez (ps:List Edge) (x:Edge) (hl:ps.length≤9223372036854775807):
 Spec Tryz.prog 132 (Args [.d (sE ps),eE x]) [] (eB (decide (x∈ps))) []:=by
 rw [← G9]
 (refine Spec.hd (C:=T.cfg [] []) (rs:= [.t 4]) (T.aj _ _) Tryz.func132 rfl rfl Tryz.ntmps132 Tryz.results132 (by simp [AObj.isNest]) (by simp [AObj.isNest]) (by kernel_rfl) T.mixed fun X hX hP hC aP bV=> ?_)
 repeat' (first|refine Rn.p ?_|(with_reducible apply And.intro)|((first|(refine hK _ ?_;clear hK K)|with_reducible intro K hK|refine Rs.p ?_|((with_reducible first|apply oP|apply oQ);exact rfl)|refine aa hX hC hP (A0 ps x hl) rfl rfl rfl (by simp only [go_sem,simprocAttr,vl]) rfl ?_);try simp only [go_sem,simprocAttr,vl])|((with_reducible refine oD ?_ ?_);kernel_rfl)|((with_reducible intro h);try simp only [go_sem,simprocAttr,vl] at h)|omega|intro h)
theorem mX (ps:List Edge) (hl:ps.length≤1000000):
 Spec Tryz.prog 97 (Args [.d (sE ps)]) [] (.d (sE ps)) []:=by
 (refine Spec.hd (C:=T.cfg [] []) (rs:= [.t 2]) (T.aj _ _) Tryz.func97 rfl rfl Tryz.ntmps97 Tryz.results97 (by simp [AObj.isNest]) (by simp [AObj.isNest]) (by kernel_rfl) T.mixed fun X hX hP hC aP bV=> ?_)
 repeat' (first|refine Rn.p ?_|(with_reducible apply And.intro)|((first|(refine hK _ ?_;clear hK K)|with_reducible intro K hK|refine Rs.p ?_|((with_reducible first|apply oP|apply oQ);exact rfl));try simp only [go_sem,simprocAttr])|((with_reducible refine oD ?_ ?_);kernel_rfl)|((with_reducible intro h);try simp only [go_sem,simprocAttr] at h)|omega|intro h)
 exact h.symm
theorem jZ (ps:List Int) (hl:ps.length≤1000000):
 Spec Tryz.prog 71 (Args [.d (sI ps)]) [] (.d (sI ps)) []:=by
 (refine Spec.hd (C:=T.cfg [] []) (rs:= [.t 2]) (T.aj _ _) Tryz.func71 rfl rfl Tryz.ntmps71 Tryz.results71 (by simp [AObj.isNest]) (by simp [AObj.isNest]) (by kernel_rfl) T.mixed fun X hX hP hC aP bV=> ?_)
 repeat' (first|refine Rn.p ?_|(with_reducible apply And.intro)|((first|(refine hK _ ?_;clear hK K)|with_reducible intro K hK|refine Rs.p ?_|((with_reducible first|apply oP|apply oQ);exact rfl));try simp only [go_sem,simprocAttr])|((with_reducible refine oD ?_ ?_);kernel_rfl)|((with_reducible intro h);try simp only [go_sem,simprocAttr] at h)|omega|intro h)
 exact h.symm
theorem ES {α:Type} {xs ys:List α} (d:α) {k:Nat} (h1:k<xs.length) (h2:k<ys.length) (h:xs.take k=ys.take k) (he:xs.getD k d=ys.getD k d):xs.take (k+1)=ys.take (k+1):=by
 rw [List.take_add_one,List.take_add_one,h,List.getElem?_eq_getElem h1,List.getElem?_eq_getElem h2]
 simp only [List.getD_eq_getElem?_getD,List.getElem?_eq_getElem h1,List.getElem?_eq_getElem h2,Option.getD_some] at he
 rw [he]
theorem He {α:Type} {f:α→Bool} {xs:List α} (d:α) {k:Nat} (h1:k<xs.length) (h:(xs.take k).any f=false) (he:f (xs.getD k d)=false):(xs.take (k+1)).any f=false:=by
 rw [List.take_add_one,List.any_append,h,List.getElem?_eq_getElem h1]
 simp only [List.getD_eq_getElem?_getD,List.getElem?_eq_getElem h1,Option.getD_some] at he
 simp [he]
theorem LS {α:Type} {f:α→Bool} {xs:List α} {d:α} {k:Nat} (h1:k<xs.length) (he:f (xs.getD k d)=true):xs.any f=true:=by
 rw [List.any_eq_true]
 refine ⟨_,List.getElem_mem h1, ?_⟩
 simpa only [List.getD_eq_getElem?_getD,List.getElem?_eq_getElem h1,Option.getD_some] using he
theorem A1 {g:Gr} {k:Nat} (h1:k<g.es.length) (he:oZ g (g.es.getD k (0,0))=true):false=aG g:=by
 simp [aG,LS h1 he]
theorem c9 (g:Gr) (hl:g.es.length≤9223372036854775807):Spec Tryz.prog 80 (Args [eG g]) [] (eB (aG g)) []:=by
 (refine Spec.hd (C:=T.cfg [] []) (rs:= [.t 2]) (T.aj _ _) Tryz.func80 rfl rfl Tryz.ntmps80 Tryz.results80 (by simp [AObj.isNest]) (by simp [AObj.isNest]) (by kernel_rfl) T.mixed fun X hX hP hC aP bV=> ?_)
 repeat' (first|refine Rn.p ?_|(with_reducible apply And.intro)|((first|(refine hK _ ?_;clear hK K)|with_reducible intro K hK|refine Rs.p ?_|((with_reducible first|apply oP|apply oQ);exact rfl));try simp only [go_sem,simprocAttr])|((with_reducible refine oD ?_ ?_);kernel_rfl)|((with_reducible intro h);try simp only [go_sem,simprocAttr] at h)|omega|intro h)
 any_goals (simp [aG];omega)
 refine ai (fun k:Nat=>k≤g.es.length∧(g.es.take k).any (oZ g)=false) (fun k=>⟨[(1, .ptr 1 0),(3,eN k)], [(1, .box [eN g.n, .d (sE g.es)])]⟩) (fun k=>g.es.length - k) 0 (by simp) ?_ ?_
 ·(refine Le.of ?_ ?_<;>simp [go_sem,simprocAttr])
 rintro k ⟨hk,hp⟩
 repeat' (first|refine Rn.p ?_|(with_reducible apply And.intro)|((first|(refine hK _ ?_;clear hK K)|with_reducible intro K hK|refine Rs.p ?_|((with_reducible first|apply oP|apply oQ);exact rfl));try simp only [go_sem,simprocAttr])|((with_reducible refine oD ?_ ?_);kernel_rfl)|((with_reducible intro h);try simp only [go_sem,simprocAttr] at h)|omega|intro h)
 any_goals (refine A1 (k:=k) (by omega) ?_;simp only [oZ,vk,Bool.or_eq_true,decide_eq_true_eq];omega)
 ·refine ⟨k+1,⟨by omega,He (0,0) (by omega) hp ?_⟩, ?_,by omega⟩
  ·simp only [oZ,vk,Bool.or_eq_false_iff,decide_eq_false_iff_not];omega
  ·(refine Le.of ?_ ?_<;>simp [go_sem,simprocAttr])
 ·rw [List.take_of_length_le (by omega)] at hp
  simp [aG,hp];omega
end Go.Ab
end
