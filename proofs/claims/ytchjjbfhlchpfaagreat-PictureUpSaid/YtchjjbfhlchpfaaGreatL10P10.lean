/- A part of the proof. -/
import Derived.Test.YtchjjbfhlchpfaaGreatProg
import Derived.Test.YtchjjbfhlchpfaaGreatL10P9
set_option linter.unusedSimpArgs false
set_option linter.unusedVariables false
section
set_option maxHeartbeats 8000000
namespace Go.Ab.T
open Go.Proofs
def T:Nat→Option TI
 |2=>some ⟨(.int .i64),1,8, [(.d (.sc (.int .i64 0)))]⟩
 |3=>some ⟨(.int .i64),1,8, [(.d (.sc (.int .i64 0)))]⟩
 |4=>some ⟨.bool,1,1, [(.d (.sc (.bool false)))]⟩
 |5=>some ⟨(.int .u8),1,1, [(.d (.sc (.int .u8 0)))]⟩
 |9=>some ⟨.sc,1,16, [(.d (.sc (.string ⟨#[]⟩)))]⟩
 |12=>some ⟨(.int .u64),1,8, [(.d (.sc (.int .u64 0)))]⟩
 |21=>some ⟨(.int .i32),1,4, [(.d (.sc (.int .i32 0)))]⟩
 |22=>some ⟨(.sl 73),1,24, [(.nil 73)]⟩
 |24=>some ⟨(.st [(0,3),(1,22)]),2,32, [(.d (.sc (.int .i64 0))),(.nil 73)]⟩
 |25=>some ⟨(.sl 71),1,24, [(.nil 71)]⟩
 |26=>some ⟨(.sl 25),1,24, [(.nil 25)]⟩
 |28=>some ⟨(.st [(0,25),(1,26)]),2,48, [(.nil 71),(.nil 25)]⟩
 |31=>some ⟨(.sl 3),1,24, [(.nil 3)]⟩
 |32=>some ⟨(.sl 31),1,24, [(.nil 31)]⟩
 |34=>some ⟨(.st [(0,31),(1,32)]),2,48, [(.nil 3),(.nil 31)]⟩
 |35=>some ⟨(.int .i64),1,8, [(.d (.sc (.int .i64 0)))]⟩
 |46=>some ⟨(.sl 49),1,24, [(.nil 49)]⟩
 |48=>some ⟨(.int .u64),1,8, [(.d (.sc (.int .u64 0)))]⟩
 |49=>some ⟨(.int .u64),1,8, [(.d (.sc (.int .u64 0)))]⟩
 |50=>some ⟨.sc,1,8, [(.d (.sc .nilFunc))]⟩
 |53=>some ⟨(.st [(0,31),(1,31),(2,31),(3,31)]),4,96, [(.nil 3),(.nil 3),(.nil 3),(.nil 3)]⟩
 |63=>some ⟨(.sl 64),1,24, [(.nil 64)]⟩
 |64=>some ⟨(.sl 100),1,24, [(.nil 100)]⟩
 |66=>some ⟨(.st [(0,35),(1,3),(2,31)]),3,40, [(.d (.sc (.int .i64 0))),(.d (.sc (.int .i64 0))),(.nil 3)]⟩
 |69=>some ⟨(.mp 3 3),1,8, [(.d (.sc (.map none)))]⟩
 |71=>some ⟨(.st [(0,3),(1,3)]),2,16, [(.d (.sc (.int .i64 0))),(.d (.sc (.int .i64 0)))]⟩
 |73=>some ⟨(.st [(0,3),(1,3)]),2,16, [(.d (.sc (.int .i64 0))),(.d (.sc (.int .i64 0)))]⟩
 |82=>some ⟨(.pt 137),1,8, [(.d (.sc (.pointer none)))]⟩
 |92=>some ⟨(.sl 4),1,24, [(.nil 4)]⟩
 |100=>some ⟨(.st [(0,3),(1,3),(2,3)]),3,24, [(.d (.sc (.int .i64 0))),(.d (.sc (.int .i64 0))),(.d (.sc (.int .i64 0)))]⟩
 |103=>some ⟨(.pt 105),1,8, [(.d (.sc (.pointer none)))]⟩
 |105=>some ⟨(.st [(0,31),(1,31),(2,53)]),6,144, [(.nil 3),(.nil 3),(.nil 3),(.nil 3),(.nil 3),(.nil 3)]⟩
 |111=>some ⟨(.pt 115),1,8, [(.d (.sc (.pointer none)))]⟩
 |115=>some ⟨(.st [(0,24),(2,34),(4,69)]),5,88, [(.d (.sc (.int .i64 0))),(.nil 73),(.nil 3),(.nil 31),(.d (.sc (.map none)))]⟩
 |119=>some ⟨(.pt 129),1,8, [(.d (.sc (.pointer none)))]⟩
 |127=>some ⟨(.st [(0,64)]),1,24, [(.nil 100)]⟩
 |129=>some ⟨(.st [(0,127),(1,82),(2,31)]),3,56, [(.nil 100),(.d (.sc (.pointer none))),(.nil 3)]⟩
 |131=>some ⟨(.pt 133),1,8, [(.d (.sc (.pointer none)))]⟩
 |133=>some ⟨(.st [(0,24),(2,28)]),4,80, [(.d (.sc (.int .i64 0))),(.nil 73),(.nil 71),(.nil 25)]⟩
 |137=>some ⟨(.st [(0,24),(2,32),(3,32)]),4,80, [(.d (.sc (.int .i64 0))),(.nil 73),(.nil 31),(.nil 31)]⟩
 |142=>some ⟨(.int .u64),1,8, [(.d (.sc (.int .u64 0)))]⟩
 |150=>some ⟨(.pt 152),1,8, [(.d (.sc (.pointer none)))]⟩
 |152=>some ⟨(.st [(0,24),(2,64),(3,31)]),4,80, [(.d (.sc (.int .i64 0))),(.nil 73),(.nil 100),(.nil 3)]⟩
 |159=>some ⟨(.pt 161),1,8, [(.d (.sc (.pointer none)))]⟩
 |161=>some ⟨(.st [(0,24),(2,34)]),4,80, [(.d (.sc (.int .i64 0))),(.nil 73),(.nil 3),(.nil 31)]⟩
 |173=>some ⟨(.pt 127),1,8, [(.d (.sc (.pointer none)))]⟩
 |183=>some ⟨(.sl 185),1,24, [(.nil 185)]⟩
 |185=>some ⟨(.st [(0,71),(2,71)]),4,32, [(.d (.sc (.int .i64 0))),(.d (.sc (.int .i64 0))),(.d (.sc (.int .i64 0))),(.d (.sc (.int .i64 0)))]⟩
 |192=>some ⟨(.int .i64),1,8, [(.d (.sc (.int .i64 0)))]⟩
 |199=>some ⟨(.int .u32),1,4, [(.d (.sc (.int .u32 0)))]⟩
 |214=>some ⟨(.ar 2 3),2,16, [(.d (.sc (.int .i64 0))),(.d (.sc (.int .i64 0)))]⟩
 |215=>some ⟨(.mp 71 3),1,8, [(.d (.sc (.map none)))]⟩
 |216=>some ⟨(.ar 2 71),4,32, [(.d (.sc (.int .i64 0))),(.d (.sc (.int .i64 0))),(.d (.sc (.int .i64 0))),(.d (.sc (.int .i64 0)))]⟩
 |218=>some ⟨(.int .u64),1,8, [(.d (.sc (.int .u64 0)))]⟩
 |222=>some ⟨(.pt 3),1,8, [(.d (.sc (.pointer none)))]⟩
 |230=>some ⟨(.pt 218),1,8, [(.d (.sc (.pointer none)))]⟩
 |251=>some ⟨(.pt 5),1,8, [(.d (.sc (.pointer none)))]⟩
 |_=>none
theorem T2:T 2=some ⟨(.int .i64),1,8, [(.d (.sc (.int .i64 0)))]⟩:=rfl
theorem T3:T 3=some ⟨(.int .i64),1,8, [(.d (.sc (.int .i64 0)))]⟩:=rfl
theorem T4:T 4=some ⟨.bool,1,1, [(.d (.sc (.bool false)))]⟩:=rfl
theorem T5:T 5=some ⟨(.int .u8),1,1, [(.d (.sc (.int .u8 0)))]⟩:=rfl
theorem T9:T 9=some ⟨.sc,1,16, [(.d (.sc (.string ⟨#[]⟩)))]⟩:=rfl
theorem T12:T 12=some ⟨(.int .u64),1,8, [(.d (.sc (.int .u64 0)))]⟩:=rfl
theorem T21:T 21=some ⟨(.int .i32),1,4, [(.d (.sc (.int .i32 0)))]⟩:=rfl
theorem T22:T 22=some ⟨(.sl 73),1,24, [(.nil 73)]⟩:=rfl
theorem T24:T 24=some ⟨(.st [(0,3),(1,22)]),2,32, [(.d (.sc (.int .i64 0))),(.nil 73)]⟩:=rfl
theorem T25:T 25=some ⟨(.sl 71),1,24, [(.nil 71)]⟩:=rfl
theorem T26:T 26=some ⟨(.sl 25),1,24, [(.nil 25)]⟩:=rfl
theorem T28:T 28=some ⟨(.st [(0,25),(1,26)]),2,48, [(.nil 71),(.nil 25)]⟩:=rfl
theorem T31:T 31=some ⟨(.sl 3),1,24, [(.nil 3)]⟩:=rfl
theorem T32:T 32=some ⟨(.sl 31),1,24, [(.nil 31)]⟩:=rfl
theorem T34:T 34=some ⟨(.st [(0,31),(1,32)]),2,48, [(.nil 3),(.nil 31)]⟩:=rfl
theorem T35:T 35=some ⟨(.int .i64),1,8, [(.d (.sc (.int .i64 0)))]⟩:=rfl
theorem T46:T 46=some ⟨(.sl 49),1,24, [(.nil 49)]⟩:=rfl
theorem T48:T 48=some ⟨(.int .u64),1,8, [(.d (.sc (.int .u64 0)))]⟩:=rfl
theorem T49:T 49=some ⟨(.int .u64),1,8, [(.d (.sc (.int .u64 0)))]⟩:=rfl
theorem T50:T 50=some ⟨.sc,1,8, [(.d (.sc .nilFunc))]⟩:=rfl
theorem T53:T 53=some ⟨(.st [(0,31),(1,31),(2,31),(3,31)]),4,96, [(.nil 3),(.nil 3),(.nil 3),(.nil 3)]⟩:=rfl
theorem T63:T 63=some ⟨(.sl 64),1,24, [(.nil 64)]⟩:=rfl
theorem T64:T 64=some ⟨(.sl 100),1,24, [(.nil 100)]⟩:=rfl
theorem T66:T 66=some ⟨(.st [(0,35),(1,3),(2,31)]),3,40, [(.d (.sc (.int .i64 0))),(.d (.sc (.int .i64 0))),(.nil 3)]⟩:=rfl
theorem T69:T 69=some ⟨(.mp 3 3),1,8, [(.d (.sc (.map none)))]⟩:=rfl
theorem T71:T 71=some ⟨(.st [(0,3),(1,3)]),2,16, [(.d (.sc (.int .i64 0))),(.d (.sc (.int .i64 0)))]⟩:=rfl
theorem T73:T 73=some ⟨(.st [(0,3),(1,3)]),2,16, [(.d (.sc (.int .i64 0))),(.d (.sc (.int .i64 0)))]⟩:=rfl
theorem T82:T 82=some ⟨(.pt 137),1,8, [(.d (.sc (.pointer none)))]⟩:=rfl
theorem T92:T 92=some ⟨(.sl 4),1,24, [(.nil 4)]⟩:=rfl
theorem T100:T 100=some ⟨(.st [(0,3),(1,3),(2,3)]),3,24, [(.d (.sc (.int .i64 0))),(.d (.sc (.int .i64 0))),(.d (.sc (.int .i64 0)))]⟩:=rfl
theorem T103:T 103=some ⟨(.pt 105),1,8, [(.d (.sc (.pointer none)))]⟩:=rfl
theorem T105:T 105=some ⟨(.st [(0,31),(1,31),(2,53)]),6,144, [(.nil 3),(.nil 3),(.nil 3),(.nil 3),(.nil 3),(.nil 3)]⟩:=rfl
theorem T111:T 111=some ⟨(.pt 115),1,8, [(.d (.sc (.pointer none)))]⟩:=rfl
theorem T115:T 115=some ⟨(.st [(0,24),(2,34),(4,69)]),5,88, [(.d (.sc (.int .i64 0))),(.nil 73),(.nil 3),(.nil 31),(.d (.sc (.map none)))]⟩:=rfl
theorem T119:T 119=some ⟨(.pt 129),1,8, [(.d (.sc (.pointer none)))]⟩:=rfl
theorem T127:T 127=some ⟨(.st [(0,64)]),1,24, [(.nil 100)]⟩:=rfl
theorem T129:T 129=some ⟨(.st [(0,127),(1,82),(2,31)]),3,56, [(.nil 100),(.d (.sc (.pointer none))),(.nil 3)]⟩:=rfl
theorem T131:T 131=some ⟨(.pt 133),1,8, [(.d (.sc (.pointer none)))]⟩:=rfl
theorem T133:T 133=some ⟨(.st [(0,24),(2,28)]),4,80, [(.d (.sc (.int .i64 0))),(.nil 73),(.nil 71),(.nil 25)]⟩:=rfl
theorem T137:T 137=some ⟨(.st [(0,24),(2,32),(3,32)]),4,80, [(.d (.sc (.int .i64 0))),(.nil 73),(.nil 31),(.nil 31)]⟩:=rfl
theorem T142:T 142=some ⟨(.int .u64),1,8, [(.d (.sc (.int .u64 0)))]⟩:=rfl
theorem T150:T 150=some ⟨(.pt 152),1,8, [(.d (.sc (.pointer none)))]⟩:=rfl
theorem T152:T 152=some ⟨(.st [(0,24),(2,64),(3,31)]),4,80, [(.d (.sc (.int .i64 0))),(.nil 73),(.nil 100),(.nil 3)]⟩:=rfl
theorem T159:T 159=some ⟨(.pt 161),1,8, [(.d (.sc (.pointer none)))]⟩:=rfl
theorem T161:T 161=some ⟨(.st [(0,24),(2,34)]),4,80, [(.d (.sc (.int .i64 0))),(.nil 73),(.nil 3),(.nil 31)]⟩:=rfl
theorem T173:T 173=some ⟨(.pt 127),1,8, [(.d (.sc (.pointer none)))]⟩:=rfl
theorem T183:T 183=some ⟨(.sl 185),1,24, [(.nil 185)]⟩:=rfl
theorem T185:T 185=some ⟨(.st [(0,71),(2,71)]),4,32, [(.d (.sc (.int .i64 0))),(.d (.sc (.int .i64 0))),(.d (.sc (.int .i64 0))),(.d (.sc (.int .i64 0)))]⟩:=rfl
theorem T192:T 192=some ⟨(.int .i64),1,8, [(.d (.sc (.int .i64 0)))]⟩:=rfl
theorem T199:T 199=some ⟨(.int .u32),1,4, [(.d (.sc (.int .u32 0)))]⟩:=rfl
theorem T214:T 214=some ⟨(.ar 2 3),2,16, [(.d (.sc (.int .i64 0))),(.d (.sc (.int .i64 0)))]⟩:=rfl
theorem T215:T 215=some ⟨(.mp 71 3),1,8, [(.d (.sc (.map none)))]⟩:=rfl
theorem T216:T 216=some ⟨(.ar 2 71),4,32, [(.d (.sc (.int .i64 0))),(.d (.sc (.int .i64 0))),(.d (.sc (.int .i64 0))),(.d (.sc (.int .i64 0)))]⟩:=rfl
theorem T218:T 218=some ⟨(.int .u64),1,8, [(.d (.sc (.int .u64 0)))]⟩:=rfl
theorem T222:T 222=some ⟨(.pt 3),1,8, [(.d (.sc (.pointer none)))]⟩:=rfl
theorem T230:T 230=some ⟨(.pt 218),1,8, [(.d (.sc (.pointer none)))]⟩:=rfl
theorem T251:T 251=some ⟨(.pt 5),1,8, [(.d (.sc (.pointer none)))]⟩:=rfl
def yL:Nat→Option Nat
 |71=>some 2
 |73=>some 2
 |100=>some 3
 |_=>none
theorem eqn71:yL 71=some 2:=rfl
theorem eqn73:yL 73=some 2:=rfl
theorem eqn100:yL 100=some 3:=rfl
theorem OA:aB Tryz.prog 2 ⟨(.int .i64),1,8, [(.d (.sc (.int .i64 0)))]⟩:=aB.mk' (by kernel_rfl) (by kernel_rfl) rfl Tryz.underlying2
theorem OB:aB Tryz.prog 3 ⟨(.int .i64),1,8, [(.d (.sc (.int .i64 0)))]⟩:=aB.mk' (by kernel_rfl) (by kernel_rfl) rfl Tryz.underlying3
theorem OC:aB Tryz.prog 4 ⟨.bool,1,1, [(.d (.sc (.bool false)))]⟩:=aB.mk' (by kernel_rfl) (by kernel_rfl) rfl Tryz.underlying4
theorem OD:aB Tryz.prog 5 ⟨(.int .u8),1,1, [(.d (.sc (.int .u8 0)))]⟩:=aB.mk' (by kernel_rfl) (by kernel_rfl) rfl Tryz.underlying5
theorem OE:aB Tryz.prog 9 ⟨.sc,1,16, [(.d (.sc (.string ⟨#[]⟩)))]⟩:=aB.mk' (by kernel_rfl) (by kernel_rfl) rfl ⟨_,Tryz.underlying9,trivial⟩
theorem LW:aB Tryz.prog 12 ⟨(.int .u64),1,8, [(.d (.sc (.int .u64 0)))]⟩:=aB.mk' (by kernel_rfl) (by kernel_rfl) rfl Tryz.underlying12
theorem LX:aB Tryz.prog 21 ⟨(.int .i32),1,4, [(.d (.sc (.int .i32 0)))]⟩:=aB.mk' (by kernel_rfl) (by kernel_rfl) rfl Tryz.underlying21
theorem LY:aB Tryz.prog 22 ⟨(.sl 73),1,24, [(.nil 73)]⟩:=aB.mk' (by kernel_rfl) (by kernel_rfl) rfl Tryz.underlying22
theorem LZ:aB Tryz.prog 24 ⟨(.st [(0,3),(1,22)]),2,32, [(.d (.sc (.int .i64 0))),(.nil 73)]⟩:=aB.mk' (by kernel_rfl) (by kernel_rfl) rfl ⟨_,Tryz.underlying24,rfl⟩
theorem L0:aB Tryz.prog 25 ⟨(.sl 71),1,24, [(.nil 71)]⟩:=aB.mk' (by kernel_rfl) (by kernel_rfl) rfl Tryz.underlying25
theorem L1:aB Tryz.prog 26 ⟨(.sl 25),1,24, [(.nil 25)]⟩:=aB.mk' (by kernel_rfl) (by kernel_rfl) rfl Tryz.underlying26
theorem L2:aB Tryz.prog 28 ⟨(.st [(0,25),(1,26)]),2,48, [(.nil 71),(.nil 25)]⟩:=aB.mk' (by kernel_rfl) (by kernel_rfl) rfl ⟨_,Tryz.underlying28,rfl⟩
theorem L3:aB Tryz.prog 31 ⟨(.sl 3),1,24, [(.nil 3)]⟩:=aB.mk' (by kernel_rfl) (by kernel_rfl) rfl Tryz.underlying31
theorem L4:aB Tryz.prog 32 ⟨(.sl 31),1,24, [(.nil 31)]⟩:=aB.mk' (by kernel_rfl) (by kernel_rfl) rfl Tryz.underlying32
theorem L5:aB Tryz.prog 34 ⟨(.st [(0,31),(1,32)]),2,48, [(.nil 3),(.nil 31)]⟩:=aB.mk' (by kernel_rfl) (by kernel_rfl) rfl ⟨_,Tryz.underlying34,rfl⟩
theorem L6:aB Tryz.prog 35 ⟨(.int .i64),1,8, [(.d (.sc (.int .i64 0)))]⟩:=aB.mk' (by kernel_rfl) (by kernel_rfl) rfl Tryz.underlying35
theorem L7:aB Tryz.prog 46 ⟨(.sl 49),1,24, [(.nil 49)]⟩:=aB.mk' (by kernel_rfl) (by kernel_rfl) rfl Tryz.underlying46
theorem L8:aB Tryz.prog 48 ⟨(.int .u64),1,8, [(.d (.sc (.int .u64 0)))]⟩:=aB.mk' (by kernel_rfl) (by kernel_rfl) rfl Tryz.underlying48
theorem L9:aB Tryz.prog 49 ⟨(.int .u64),1,8, [(.d (.sc (.int .u64 0)))]⟩:=aB.mk' (by kernel_rfl) (by kernel_rfl) rfl Tryz.underlying49
theorem Ma:aB Tryz.prog 50 ⟨.sc,1,8, [(.d (.sc .nilFunc))]⟩:=aB.mk' (by kernel_rfl) (by kernel_rfl) rfl ⟨_,Tryz.underlying50,trivial⟩
theorem Mb:aB Tryz.prog 53 ⟨(.st [(0,31),(1,31),(2,31),(3,31)]),4,96, [(.nil 3),(.nil 3),(.nil 3),(.nil 3)]⟩:=aB.mk' (by kernel_rfl) (by kernel_rfl) rfl ⟨_,Tryz.underlying53,rfl⟩
theorem Mc:aB Tryz.prog 63 ⟨(.sl 64),1,24, [(.nil 64)]⟩:=aB.mk' (by kernel_rfl) (by kernel_rfl) rfl Tryz.underlying63
theorem Md:aB Tryz.prog 64 ⟨(.sl 100),1,24, [(.nil 100)]⟩:=aB.mk' (by kernel_rfl) (by kernel_rfl) rfl Tryz.underlying64
theorem Me:aB Tryz.prog 66 ⟨(.st [(0,35),(1,3),(2,31)]),3,40, [(.d (.sc (.int .i64 0))),(.d (.sc (.int .i64 0))),(.nil 3)]⟩:=aB.mk' (by kernel_rfl) (by kernel_rfl) rfl ⟨_,Tryz.underlying66,rfl⟩
theorem Mf:aB Tryz.prog 69 ⟨(.mp 3 3),1,8, [(.d (.sc (.map none)))]⟩:=aB.mk' (by kernel_rfl) (by kernel_rfl) rfl ⟨Tryz.underlying69,fun w=>by kernel_rfl⟩
theorem Mg:aB Tryz.prog 71 ⟨(.st [(0,3),(1,3)]),2,16, [(.d (.sc (.int .i64 0))),(.d (.sc (.int .i64 0)))]⟩:=aB.mk' (by kernel_rfl) (by kernel_rfl) rfl ⟨_,Tryz.underlying71,rfl⟩
theorem Mh:aB Tryz.prog 73 ⟨(.st [(0,3),(1,3)]),2,16, [(.d (.sc (.int .i64 0))),(.d (.sc (.int .i64 0)))]⟩:=aB.mk' (by kernel_rfl) (by kernel_rfl) rfl ⟨_,Tryz.underlying73,rfl⟩
theorem Mi:aB Tryz.prog 82 ⟨(.pt 137),1,8, [(.d (.sc (.pointer none)))]⟩:=aB.mk' (by kernel_rfl) (by kernel_rfl) rfl Tryz.underlying82
theorem Mj:aB Tryz.prog 92 ⟨(.sl 4),1,24, [(.nil 4)]⟩:=aB.mk' (by kernel_rfl) (by kernel_rfl) rfl Tryz.underlying92
theorem I8:aB Tryz.prog 100 ⟨(.st [(0,3),(1,3),(2,3)]),3,24, [(.d (.sc (.int .i64 0))),(.d (.sc (.int .i64 0))),(.d (.sc (.int .i64 0)))]⟩:=aB.mk' (by kernel_rfl) (by kernel_rfl) rfl ⟨_,Tryz.underlying100,rfl⟩
theorem I9:aB Tryz.prog 103 ⟨(.pt 105),1,8, [(.d (.sc (.pointer none)))]⟩:=aB.mk' (by kernel_rfl) (by kernel_rfl) rfl Tryz.underlying103
theorem Ja:aB Tryz.prog 105 ⟨(.st [(0,31),(1,31),(2,53)]),6,144, [(.nil 3),(.nil 3),(.nil 3),(.nil 3),(.nil 3),(.nil 3)]⟩:=aB.mk' (by kernel_rfl) (by kernel_rfl) rfl ⟨_,Tryz.underlying105,rfl⟩
theorem Jb:aB Tryz.prog 111 ⟨(.pt 115),1,8, [(.d (.sc (.pointer none)))]⟩:=aB.mk' (by kernel_rfl) (by kernel_rfl) rfl Tryz.underlying111
theorem Jc:aB Tryz.prog 115 ⟨(.st [(0,24),(2,34),(4,69)]),5,88, [(.d (.sc (.int .i64 0))),(.nil 73),(.nil 3),(.nil 31),(.d (.sc (.map none)))]⟩:=aB.mk' (by kernel_rfl) (by kernel_rfl) rfl ⟨_,Tryz.underlying115,rfl⟩
theorem Jd:aB Tryz.prog 119 ⟨(.pt 129),1,8, [(.d (.sc (.pointer none)))]⟩:=aB.mk' (by kernel_rfl) (by kernel_rfl) rfl Tryz.underlying119
theorem Je:aB Tryz.prog 127 ⟨(.st [(0,64)]),1,24, [(.nil 100)]⟩:=aB.mk' (by kernel_rfl) (by kernel_rfl) rfl ⟨_,Tryz.underlying127,rfl⟩
theorem Jf:aB Tryz.prog 129 ⟨(.st [(0,127),(1,82),(2,31)]),3,56, [(.nil 100),(.d (.sc (.pointer none))),(.nil 3)]⟩:=aB.mk' (by kernel_rfl) (by kernel_rfl) rfl ⟨_,Tryz.underlying129,rfl⟩
theorem Jg:aB Tryz.prog 131 ⟨(.pt 133),1,8, [(.d (.sc (.pointer none)))]⟩:=aB.mk' (by kernel_rfl) (by kernel_rfl) rfl Tryz.underlying131
theorem Jh:aB Tryz.prog 133 ⟨(.st [(0,24),(2,28)]),4,80, [(.d (.sc (.int .i64 0))),(.nil 73),(.nil 71),(.nil 25)]⟩:=aB.mk' (by kernel_rfl) (by kernel_rfl) rfl ⟨_,Tryz.underlying133,rfl⟩
theorem Ji:aB Tryz.prog 137 ⟨(.st [(0,24),(2,32),(3,32)]),4,80, [(.d (.sc (.int .i64 0))),(.nil 73),(.nil 31),(.nil 31)]⟩:=aB.mk' (by kernel_rfl) (by kernel_rfl) rfl ⟨_,Tryz.underlying137,rfl⟩
theorem Jj:aB Tryz.prog 142 ⟨(.int .u64),1,8, [(.d (.sc (.int .u64 0)))]⟩:=aB.mk' (by kernel_rfl) (by kernel_rfl) rfl Tryz.underlying142
theorem Jk:aB Tryz.prog 150 ⟨(.pt 152),1,8, [(.d (.sc (.pointer none)))]⟩:=aB.mk' (by kernel_rfl) (by kernel_rfl) rfl Tryz.underlying150
theorem Jl:aB Tryz.prog 152 ⟨(.st [(0,24),(2,64),(3,31)]),4,80, [(.d (.sc (.int .i64 0))),(.nil 73),(.nil 100),(.nil 3)]⟩:=aB.mk' (by kernel_rfl) (by kernel_rfl) rfl ⟨_,Tryz.underlying152,rfl⟩
theorem Jm:aB Tryz.prog 159 ⟨(.pt 161),1,8, [(.d (.sc (.pointer none)))]⟩:=aB.mk' (by kernel_rfl) (by kernel_rfl) rfl Tryz.underlying159
theorem Jn:aB Tryz.prog 161 ⟨(.st [(0,24),(2,34)]),4,80, [(.d (.sc (.int .i64 0))),(.nil 73),(.nil 3),(.nil 31)]⟩:=aB.mk' (by kernel_rfl) (by kernel_rfl) rfl ⟨_,Tryz.underlying161,rfl⟩
theorem Jo:aB Tryz.prog 173 ⟨(.pt 127),1,8, [(.d (.sc (.pointer none)))]⟩:=aB.mk' (by kernel_rfl) (by kernel_rfl) rfl Tryz.underlying173
theorem Jp:aB Tryz.prog 183 ⟨(.sl 185),1,24, [(.nil 185)]⟩:=aB.mk' (by kernel_rfl) (by kernel_rfl) rfl Tryz.underlying183
theorem Jq:aB Tryz.prog 185 ⟨(.st [(0,71),(2,71)]),4,32, [(.d (.sc (.int .i64 0))),(.d (.sc (.int .i64 0))),(.d (.sc (.int .i64 0))),(.d (.sc (.int .i64 0)))]⟩:=aB.mk' (by kernel_rfl) (by kernel_rfl) rfl ⟨_,Tryz.underlying185,rfl⟩
theorem Jr:aB Tryz.prog 192 ⟨(.int .i64),1,8, [(.d (.sc (.int .i64 0)))]⟩:=aB.mk' (by kernel_rfl) (by kernel_rfl) rfl Tryz.underlying192
theorem Js:aB Tryz.prog 199 ⟨(.int .u32),1,4, [(.d (.sc (.int .u32 0)))]⟩:=aB.mk' (by kernel_rfl) (by kernel_rfl) rfl Tryz.underlying199
theorem Jt:aB Tryz.prog 214 ⟨(.ar 2 3),2,16, [(.d (.sc (.int .i64 0))),(.d (.sc (.int .i64 0)))]⟩:=aB.mk' (by kernel_rfl) (by kernel_rfl) rfl Tryz.underlying214
theorem Ju:aB Tryz.prog 215 ⟨(.mp 71 3),1,8, [(.d (.sc (.map none)))]⟩:=aB.mk' (by kernel_rfl) (by kernel_rfl) rfl ⟨Tryz.underlying215,fun w=>by kernel_rfl⟩
theorem Jv:aB Tryz.prog 216 ⟨(.ar 2 71),4,32, [(.d (.sc (.int .i64 0))),(.d (.sc (.int .i64 0))),(.d (.sc (.int .i64 0))),(.d (.sc (.int .i64 0)))]⟩:=aB.mk' (by kernel_rfl) (by kernel_rfl) rfl Tryz.underlying216
theorem Jw:aB Tryz.prog 218 ⟨(.int .u64),1,8, [(.d (.sc (.int .u64 0)))]⟩:=aB.mk' (by kernel_rfl) (by kernel_rfl) rfl Tryz.underlying218
theorem Jx:aB Tryz.prog 222 ⟨(.pt 3),1,8, [(.d (.sc (.pointer none)))]⟩:=aB.mk' (by kernel_rfl) (by kernel_rfl) rfl Tryz.underlying222
theorem Jy:aB Tryz.prog 230 ⟨(.pt 218),1,8, [(.d (.sc (.pointer none)))]⟩:=aB.mk' (by kernel_rfl) (by kernel_rfl) rfl Tryz.underlying230
theorem Jz:aB Tryz.prog 251 ⟨(.pt 5),1,8, [(.d (.sc (.pointer none)))]⟩:=aB.mk' (by kernel_rfl) (by kernel_rfl) rfl Tryz.underlying251
theorem Mk:nK Tryz.prog 71 2:=nK.two (by kernel_rfl) (by kernel_rfl) Tryz.underlying71 (by decide) rfl Tryz.underlying3 (by decide) rfl Tryz.underlying3
theorem Ml:nK Tryz.prog 73 2:=nK.two (by kernel_rfl) (by kernel_rfl) Tryz.underlying73 (by decide) rfl Tryz.underlying3 (by decide) rfl Tryz.underlying3
theorem JA:nK Tryz.prog 100 3:=nK.three (by kernel_rfl) (by kernel_rfl) Tryz.underlying100 (by decide) rfl Tryz.underlying3 (by decide) rfl Tryz.underlying3 (by decide) rfl Tryz.underlying3
set_option maxHeartbeats 4000000 in
theorem OF:∀t ti,T t=some ti→aB Tryz.prog t ti:=by
 intro t ti h
 unfold T at h
 split at h
 ·cases h;exact OA
 ·cases h;exact OB
 ·cases h;exact OC
 ·cases h;exact OD
 ·cases h;exact OE
 ·cases h;exact LW
 ·cases h;exact LX
 ·cases h;exact LY
 ·cases h;exact LZ
 ·cases h;exact L0
 ·cases h;exact L1
 ·cases h;exact L2
 ·cases h;exact L3
 ·cases h;exact L4
 ·cases h;exact L5
 ·cases h;exact L6
 ·cases h;exact L7
 ·cases h;exact L8
 ·cases h;exact L9
 ·cases h;exact Ma
 ·cases h;exact Mb
 ·cases h;exact Mc
 ·cases h;exact Md
 ·cases h;exact Me
 ·cases h;exact Mf
 ·cases h;exact Mg
 ·cases h;exact Mh
 ·cases h;exact Mi
 ·cases h;exact Mj
 ·cases h;exact I8
 ·cases h;exact I9
 ·cases h;exact Ja
 ·cases h;exact Jb
 ·cases h;exact Jc
 ·cases h;exact Jd
 ·cases h;exact Je
 ·cases h;exact Jf
 ·cases h;exact Jg
 ·cases h;exact Jh
 ·cases h;exact Ji
 ·cases h;exact Jj
 ·cases h;exact Jk
 ·cases h;exact Jl
 ·cases h;exact Jm
 ·cases h;exact Jn
 ·cases h;exact Jo
 ·cases h;exact Jp
 ·cases h;exact Jq
 ·cases h;exact Jr
 ·cases h;exact Js
 ·cases h;exact Jt
 ·cases h;exact Ju
 ·cases h;exact Jv
 ·cases h;exact Jw
 ·cases h;exact Jx
 ·cases h;exact Jy
 ·cases h;exact Jz
 ·cases h
theorem OG:∀t n,yL t=some n→nK Tryz.prog t n:=by
 intro t n h
 unfold yL at h
 split at h
 ·cases h;exact Mk
 ·cases h;exact Ml
 ·cases h;exact JA
 ·cases h
def cfg (own yE:List Nat):Cfg:=⟨T,own,yL,yE⟩
theorem cfg_T (own yE:List Nat):(cfg own yE).T=T:=rfl
theorem cfg_own (own yE:List Nat):(cfg own yE).own=own:=rfl
theorem cfg_nst (own yE:List Nat):(cfg own yE).yE=yE:=rfl
theorem cfg_eqn (own yE:List Nat):(cfg own yE).yL=yL:=rfl
theorem ai (own yE:List Nat):(cfg own yE).Ok Tryz.prog:=⟨OF,OG⟩
theorem mixed:Tryz.prog.follows .mixedOrders=true:=by kernel_rfl
attribute [go_sem] T2 T3 T4 T5 T9 T12 T21 T22 T24 T25 T26 T28 T31 T32 T34 T35 T46 T48 T49 T50 T53 T63 T64 T66 T69 T71 T73 T82 T92 T100 T103 T105 T111 T115 T119 T127 T129 T131 T133 T137 T142 T150 T152 T159 T161 T173 T183 T185 T192 T199 T214 T215 T216 T218 T222 T230 T251 eqn71 eqn73 eqn100 cfg_T cfg_own cfg_nst cfg_eqn
end Go.Ab.T
end
section
namespace Go.Ab
open Go.Proofs
attribute [local congr] ACall.congr gd.congr Nx.congr
set_option maxRecDepth 10000
def eN (n:Int):AV:= .d (.sc (.int .i64 n))
def eB (b:Bool):AV:= .d (.sc (.bool b))
abbrev Edge:=Int × Int
structure Gr where
 n:Int
 es:List Edge
def rE (e:Edge):List D:= [.sc (.int .i64 e.1), .sc (.int .i64 e.2)]
def rI (n:Int):List D:= [.sc (.int .i64 n)]
def eE (e:Edge):AV:= .agg [.d (.sc (.int .i64 e.1)), .d (.sc (.int .i64 e.2))]
def sE (es:List Edge):D:= .sl 2 (es.map rE)
def sI (l:List Int):D:= .sl 1 (l.map rI)
def eG (g:Gr):AV:= .agg [eN g.n, .d (sE g.es)]
attribute [go_sem] eN eB eE sE sI eG Args AVrs
theorem getD_rE (ps:List Edge) (i:Nat):(ps.map rE).getD i [.sc (.int .i64 0), .sc (.int .i64 0)]= [.sc (.int .i64 (ps.getD i (0,0)).1), .sc (.int .i64 (ps.getD i (0,0)).2)]:=by
 simp only [List.getD_eq_getElem?_getD,List.getElem?_map]
 cases ps[i]? <;>rfl
theorem getD_rI (ps:List Int) (i:Nat):(ps.map rI).getD i [.sc (.int .i64 0)]= [.sc (.int .i64 (ps.getD i 0))]:=by
 simp only [List.getD_eq_getElem?_getD,List.getElem?_map]
 cases ps[i]? <;>rfl
theorem Dt (l:List Int) (k:Nat) (v:Int):(l.map rI).set k [.sc (.int .i64 v)]=(l.set k v).map rI:=by
 rw [List.map_set];rfl
attribute [go_sem] getD_rE getD_rI Int.toNat_natCast List.length_set
def Qp (n:Int):Prop:= -9223372036854775808≤n∧n≤9223372036854775807
def Len (n:Nat):Prop:=n≤9223372036854775807
end Go.Ab
end
section
namespace Go.Ab
open Go.Proofs
attribute [local congr] ACall.congr gd.congr Nx.congr
set_option maxRecDepth 10000
def bR {α:Type} (g:α→Bool) (ps:List α):Int:=match ps.findIdx? g with|some i=>i|none=> -1
theorem bD {α:Type} {g:α→Bool} {ps:List α} (d:α) (h:∀j,j<ps.length→g (ps.getD j d)=false):bR g ps= -1:=by
 have:ps.findIdx? g=none:=by
  rw [List.findIdx?_eq_none_iff]
  intro x hx
  obtain ⟨j,hj,rfl⟩:=List.getElem_of_mem hx
  simpa [List.getD_eq_getElem?_getD,List.getElem?_eq_getElem hj] using h j hj
 simp [bR,this]
theorem bW {α:Type} {g:α→Bool} {ps:List α} {d:α} {k:Nat} (hk:k<ps.length) (h:∀j,j<k→g (ps.getD j d)=false) (hg:g (ps.getD k d)=true):bR g ps=k:=by
 have:ps.findIdx? g=some k:=by
  rw [List.findIdx?_eq_some_iff_getElem]
  refine ⟨hk,by simpa [List.getD_eq_getElem?_getD,List.getElem?_eq_getElem hk] using hg,fun j hj=> ?_⟩
  have:=h j hj
  simpa [List.getD_eq_getElem?_getD,List.getElem?_eq_getElem (Nat.lt_trans hj hk)] using this
 simp [bR,this]
theorem dx {α:Type} (g:α→Bool) (ps:List α):decide (0≤bR g ps)=ps.any g:=by
 cases h:ps.findIdx? g with
 |none=>
  have:bR g ps= -1:=by simp [bR,h]
  rw [this]
  rw [List.findIdx?_eq_none_iff] at h
  symm
  simpa using h
 |some i=>
  have:bR g ps=i:=by simp [bR,h]
  rw [this]
  obtain ⟨hi,hg,_⟩:=List.findIdx?_eq_some_iff_getElem.1 h
  have:ps.any g=true:=List.any_eq_true.2 ⟨_,List.getElem_mem hi,hg⟩
  rw [this];simp
theorem xH {α:Type} (g:α→Bool) (ps:List α):bR g ps= -1∨(0≤bR g ps∧bR g ps<ps.length):=by
 cases h:ps.findIdx? g with
 |none=>exact .inl (by simp [bR,h])
 |some i=>
  obtain ⟨hi,hg,_⟩:=List.findIdx?_eq_some_iff_getElem.1 h
  exact .inr (by simp [bR,h];omega)
theorem xI (rn:List (Nat × Nat)) (h0:rn= []) {m:List (Nat × AObj)} :∀ {r:List (Nat × AObj)},(∀p∈r,look m p.1=some p.2)→leR m rn r
 | [],_=>trivial
 |p::r,h=>by
  subst h0
  have h1:=h p List.mem_cons_self
  refine ⟨?_,xI [] rfl fun q hq=>h q (List.mem_cons_of_mem _ hq)⟩
  have e:renO [] p.2=p.2:=rfl
  show look m p.1=some (renO [] p.2)
  rw [e];exact h1
theorem cC {m:List (Nat × AObj)} (h:aI m):leR m [] m:=xI [] rfl fun _ hp=>au h.nd hp
theorem bP {m:List (Nat × AObj)} (hR:aI m) (f:Nat) (caps:List AV) (g:Edge→Bool) (hf:∀p,Spec Tryz.prog f (Args (eE p::caps)) m (eB (g p)) m) (ps:List Edge) (hl:ps.length≤9223372036854775807):
 Spec Tryz.prog 130 (Args [.d (sE ps), .fn f [] caps]) m (eN (bR g ps)) m:=by
 (refine Spec.hd (C:=T.cfg [] []) (rs:= [.t 4]) (T.ai _ _) Tryz.func130 rfl rfl Tryz.ntmps130 Tryz.results130 (fun p hp=>⟨(aI.low hR p hp).1,aI.nest hR p hp⟩) (fun p hp=>⟨(aI.low hR p hp).2,aI.nest hR p hp⟩) (by kernel_rfl) T.mixed fun X hX hP hC aF bY=> ?_)
 repeat' (first|refine Rn.p ?_|(with_reducible apply And.intro)|((first|(refine hK _ ?_;clear hK K)|with_reducible intro K hK|refine Rs.p ?_|((with_reducible first|apply oP|apply oQ);exact rfl)|(first|(refine az hX hC hP hR (hf _) rfl rfl rfl ?_ ?_ rfl rfl ?_;(focus (simp only [go_sem,simprocAttr];done));(focus (first|(intro p hp;exact au (aI.nd hR) hp)|(simp [go_sem,simprocAttr];done))))|(refine az hX hC hP hR (hf _) rfl rfl rfl ?_ ?_ ?_ rfl ?_;(focus (simp only [go_sem,simprocAttr];done));(focus (first|(intro p hp;exact au (aI.nd hR) hp)|(simp [go_sem,simprocAttr];done)));(focus (simp [go_sem,simprocAttr];done)))));try simp only [go_sem,simprocAttr])|((with_reducible refine oD ?_ ?_);kernel_rfl)|((with_reducible intro h);try simp only [go_sem,simprocAttr] at h)|omega|intro h)
 refine ag (fun k:Nat=>k≤ps.length∧∀j,j<k→g (ps.getD j (0,0))=false) (fun k=>⟨[(0, .d (sE ps)),(1, .fn f [] caps),(7,eN ps.length),(8,eN k)],m⟩) (fun k=>ps.length - k) 0 (by simp) ?_ ?_
 ·(refine ⟨bz ?_,fun _ _ h=>h⟩;simp [go_sem,simprocAttr])
 rintro k ⟨hk,hg⟩
 repeat' (first|refine Rn.p ?_|(with_reducible apply And.intro)|((first|(refine hK _ ?_;clear hK K)|with_reducible intro K hK|refine Rs.p ?_|((with_reducible first|apply oP|apply oQ);exact rfl)|(first|(refine az hX hC hP hR (hf _) rfl rfl rfl ?_ ?_ rfl rfl ?_;(focus (simp only [go_sem,simprocAttr];done));(focus (first|(intro p hp;exact au (aI.nd hR) hp)|(simp [go_sem,simprocAttr];done))))|(refine az hX hC hP hR (hf _) rfl rfl rfl ?_ ?_ ?_ rfl ?_;(focus (simp only [go_sem,simprocAttr];done));(focus (first|(intro p hp;exact au (aI.nd hR) hp)|(simp [go_sem,simprocAttr];done)));(focus (simp [go_sem,simprocAttr];done)))));try simp only [go_sem,simprocAttr])|((with_reducible refine oD ?_ ?_);kernel_rfl)|((with_reducible intro h);try simp only [go_sem,simprocAttr] at h)|omega|intro h)
 ·exact (bW (by omega) hg h).symm
 ·exact cC hR
 ·refine ⟨k+1,⟨by omega,fun j hj=> ?_⟩, ?_,by omega⟩
  ·by_cases hjk:j=k
   ·subst hjk;exact h
   ·exact hg j (by omega)
  ·(refine ⟨bz ?_,fun _ _ h=>h⟩;simp [go_sem,simprocAttr])
 ·exact (bD (0,0) fun j hj=>hg j (by omega)).symm
 ·exact cC hR
theorem cT {m:List (Nat × AObj)} (hR:aI m) (f:Nat) (caps:List AV) (g:Int→Bool) (hf:∀p,Spec Tryz.prog f (Args (eN p::caps)) m (eB (g p)) m) (ps:List Int) (hl:ps.length≤9223372036854775807):
 Spec Tryz.prog 177 (Args [.d (sI ps), .fn f [] caps]) m (eN (bR g ps)) m:=by
 (refine Spec.hd (C:=T.cfg [] []) (rs:= [.t 4]) (T.ai _ _) Tryz.func177 rfl rfl Tryz.ntmps177 Tryz.results177 (fun p hp=>⟨(aI.low hR p hp).1,aI.nest hR p hp⟩) (fun p hp=>⟨(aI.low hR p hp).2,aI.nest hR p hp⟩) (by kernel_rfl) T.mixed fun X hX hP hC aF bY=> ?_)
 repeat' (first|refine Rn.p ?_|(with_reducible apply And.intro)|((first|(refine hK _ ?_;clear hK K)|with_reducible intro K hK|refine Rs.p ?_|((with_reducible first|apply oP|apply oQ);exact rfl)|(first|(refine az hX hC hP hR (hf _) rfl rfl rfl ?_ ?_ rfl rfl ?_;(focus (simp only [go_sem,simprocAttr];done));(focus (first|(intro p hp;exact au (aI.nd hR) hp)|(simp [go_sem,simprocAttr];done))))|(refine az hX hC hP hR (hf _) rfl rfl rfl ?_ ?_ ?_ rfl ?_;(focus (simp only [go_sem,simprocAttr];done));(focus (first|(intro p hp;exact au (aI.nd hR) hp)|(simp [go_sem,simprocAttr];done)));(focus (simp [go_sem,simprocAttr];done)))));try simp only [go_sem,simprocAttr])|((with_reducible refine oD ?_ ?_);kernel_rfl)|((with_reducible intro h);try simp only [go_sem,simprocAttr] at h)|omega|intro h)
 refine ag (fun k:Nat=>k≤ps.length∧∀j,j<k→g (ps.getD j 0)=false) (fun k=>⟨[(0, .d (sI ps)),(1, .fn f [] caps),(7,eN ps.length),(8,eN k)],m⟩) (fun k=>ps.length - k) 0 (by simp) ?_ ?_
 ·(refine ⟨bz ?_,fun _ _ h=>h⟩;simp [go_sem,simprocAttr])
 rintro k ⟨hk,hg⟩
 repeat' (first|refine Rn.p ?_|(with_reducible apply And.intro)|((first|(refine hK _ ?_;clear hK K)|with_reducible intro K hK|refine Rs.p ?_|((with_reducible first|apply oP|apply oQ);exact rfl)|(first|(refine az hX hC hP hR (hf _) rfl rfl rfl ?_ ?_ rfl rfl ?_;(focus (simp only [go_sem,simprocAttr];done));(focus (first|(intro p hp;exact au (aI.nd hR) hp)|(simp [go_sem,simprocAttr];done))))|(refine az hX hC hP hR (hf _) rfl rfl rfl ?_ ?_ ?_ rfl ?_;(focus (simp only [go_sem,simprocAttr];done));(focus (first|(intro p hp;exact au (aI.nd hR) hp)|(simp [go_sem,simprocAttr];done)));(focus (simp [go_sem,simprocAttr];done)))));try simp only [go_sem,simprocAttr])|((with_reducible refine oD ?_ ?_);kernel_rfl)|((with_reducible intro h);try simp only [go_sem,simprocAttr] at h)|omega|intro h)
 ·exact (bW (by omega) hg h).symm
 ·exact cC hR
 ·refine ⟨k+1,⟨by omega,fun j hj=> ?_⟩, ?_,by omega⟩
  ·by_cases hjk:j=k
   ·subst hjk;exact h
   ·exact hg j (by omega)
  ·(refine ⟨bz ?_,fun _ _ h=>h⟩;simp [go_sem,simprocAttr])
 ·exact (bD 0 fun j hj=>hg j (by omega)).symm
 ·exact cC hR
theorem nj {m:List (Nat × AObj)} (hR:aI m) (f:Nat) (caps:List AV) (g:Edge→Bool) (hf:∀p,Spec Tryz.prog f (Args (eE p::caps)) m (eB (g p)) m) (ps:List Edge) (hl:ps.length≤9223372036854775807):
 Spec Tryz.prog 147 (Args [.d (sE ps), .fn f [] caps]) m (eB (ps.any g)) m:=by
 (refine Spec.hd (C:=T.cfg [] []) (rs:= [.t 4]) (T.ai _ _) Tryz.func147 rfl rfl Tryz.ntmps147 Tryz.results147 (fun p hp=>⟨(aI.low hR p hp).1,aI.nest hR p hp⟩) (fun p hp=>⟨(aI.low hR p hp).2,aI.nest hR p hp⟩) (by kernel_rfl) T.mixed fun X hX hP hC aF bY=> ?_)
 repeat' (first|refine Rn.p ?_|(with_reducible apply And.intro)|((first|(refine hK _ ?_;clear hK K)|with_reducible intro K hK|refine Rs.p ?_|((with_reducible first|apply oP|apply oQ);exact rfl)|(first|(refine az hX hC hP hR (bP hR _ _ g hf ps hl) rfl rfl rfl ?_ ?_ rfl rfl ?_;(focus (simp only [go_sem,simprocAttr];done));(focus (first|(intro p hp;exact au (aI.nd hR) hp)|(simp [go_sem,simprocAttr];done))))|(refine az hX hC hP hR (bP hR _ _ g hf ps hl) rfl rfl rfl ?_ ?_ ?_ rfl ?_;(focus (simp only [go_sem,simprocAttr];done));(focus (first|(intro p hp;exact au (aI.nd hR) hp)|(simp [go_sem,simprocAttr];done)));(focus (simp [go_sem,simprocAttr];done)))));try simp only [go_sem,simprocAttr])|((with_reducible refine oD ?_ ?_);kernel_rfl)|((with_reducible intro h);try simp only [go_sem,simprocAttr] at h)|omega|intro h)
 ·exact dx g ps
 ·exact cC hR
def vB (g:Gr) (x:Int):Bool:=decide (x<0)||decide (g.n≤x)
def pL (g:Gr) (e:Edge):Bool:=vB g e.1||vB g e.2
def aY (g:Gr):Bool:=decide (0<g.n)&&decide (g.n≤64)&&decide ((g.es.length:Int)≤128)&& !g.es.any (pL g)
def rG (g:Gr):AObj:= .rob [eN g.n, .d (sE g.es)]
theorem uq (g:Gr) (x:Int):Spec Tryz.prog 146 (Args [eN x, .ptr 10000 0]) [(10000,rG g)] (eB (vB g x)) [(10000,rG g)]:=by
 unfold rG
 (refine Spec.hd (C:=T.cfg [] []) (rs:= [.t 3]) (T.ai _ _) Tryz.func146 rfl rfl Tryz.ntmps146 Tryz.results146 (by simp [AObj.isNest]) (by simp [AObj.isNest]) (by kernel_rfl) T.mixed fun X hX hP hC aF bY=> ?_)
 repeat' (first|refine Rn.p ?_|(with_reducible apply And.intro)|((first|(refine hK _ ?_;clear hK K)|with_reducible intro K hK|refine Rs.p ?_|((with_reducible first|apply oP|apply oQ);exact rfl)|(first|(refine az hX hC hP hR (bP hR _ _ g hf ps hl) rfl rfl rfl ?_ ?_ rfl rfl ?_;(focus (simp only [go_sem,simprocAttr];done));(focus (first|(intro p hp;exact au (aI.nd hR) hp)|(simp [go_sem,simprocAttr];done))))|(refine az hX hC hP hR (bP hR _ _ g hf ps hl) rfl rfl rfl ?_ ?_ ?_ rfl ?_;(focus (simp only [go_sem,simprocAttr];done));(focus (first|(intro p hp;exact au (aI.nd hR) hp)|(simp [go_sem,simprocAttr];done)));(focus (simp [go_sem,simprocAttr];done)))));try simp only [go_sem,simprocAttr])|((with_reducible refine oD ?_ ?_);kernel_rfl)|((with_reducible intro h);try simp only [go_sem,simprocAttr] at h)|omega|intro h)
 ·simp [vB, *]
 ·simp [vB, *]
theorem FA (g:Gr):aI [(10000,rG g)]:=⟨by simp [rG,AObj.ro],by simp [nodupM,look],by simp,by simp [rG,AObj.ids,AV.ids,AV.idss,eN]⟩
def rF:AObj:= .rob [.fn 146 [] [.ptr 10000 0]]
attribute [go_sem] rG rF
theorem Bu (g:Gr) (e:Edge):Spec Tryz.prog 148 (Args [eE e, .ptr 10001 0]) [(10001,rF),(10000,rG g)] (eB (pL g e)) [(10001,rF),(10000,rG g)]:=by
 unfold rF rG
 (refine Spec.hd (C:=T.cfg [] []) (rs:= [.t 3]) (T.ai _ _) Tryz.func148 rfl rfl Tryz.ntmps148 Tryz.results148 (by simp [AObj.isNest]) (by simp [AObj.isNest]) (by kernel_rfl) T.mixed fun X hX hP hC aF bY=> ?_)
 repeat' (first|refine Rn.p ?_|(with_reducible apply And.intro)|((first|(refine hK _ ?_;clear hK K)|with_reducible intro K hK|refine Rs.p ?_|((with_reducible first|apply oP|apply oQ);exact rfl)|(first|(refine az hX hC hP (FA g) (uq g _) rfl rfl rfl ?_ ?_ rfl rfl ?_;(focus (simp only [go_sem,simprocAttr];done));(focus (first|(intro p hp;exact au (aI.nd (FA g)) hp)|(simp [go_sem,simprocAttr];done))))|(refine az hX hC hP (FA g) (uq g _) rfl rfl rfl ?_ ?_ ?_ rfl ?_;(focus (simp only [go_sem,simprocAttr];done));(focus (first|(intro p hp;exact au (aI.nd (FA g)) hp)|(simp [go_sem,simprocAttr];done)));(focus (simp [go_sem,simprocAttr];done)))));try simp only [go_sem,simprocAttr])|((with_reducible refine oD ?_ ?_);kernel_rfl)|((with_reducible intro h);try simp only [go_sem,simprocAttr] at h)|omega|intro h)
 ·simp [pL, *]
 ·simp [pL, *]
theorem Mm (g:Gr):aI [(10001,rF),(10000,rG g)]:=⟨by simp [rG,rF,AObj.ro],by simp [nodupM,look],by simp,by simp [rG,rF,AObj.ids,AV.ids,AV.idss,eN,look]⟩
theorem gC (g:Gr) (hl:g.es.length≤9223372036854775807):Spec Tryz.prog 96 (Args [eG g]) [] (eB (aY g)) []:=by
 (refine Spec.hd (C:=T.cfg [] []) (rs:= [.t 2]) (T.ai _ _) Tryz.func96 rfl rfl Tryz.ntmps96 Tryz.results96 (by simp [AObj.isNest]) (by simp [AObj.isNest]) (by kernel_rfl) T.mixed fun X hX hP hC aF bY=> ?_)
 repeat' (first|refine Rn.p ?_|(with_reducible apply And.intro)|((first|(refine hK _ ?_;clear hK K)|with_reducible intro K hK|refine Rs.p ?_|((with_reducible first|apply oP|apply oQ);exact rfl)|(refine aS hX hC hP [(10000,1),(10001,3)] (nj (Mm g) _ _ (pL g) (Bu g) g.es hl) rfl rfl rfl ?_ ?_ ?_ ?_ ?_ ?_ rfl rfl ?_ ?_;(focus (simp only [go_sem,simprocAttr];done));(iterate 6 (focus (simp [go_sem,simprocAttr];done)));try simp only [List.map_cons,List.map_nil]));try simp only [go_sem,simprocAttr])|((with_reducible refine oD ?_ ?_);kernel_rfl)|((with_reducible intro h);try simp only [go_sem,simprocAttr] at h)|omega|intro h)
 all_goals simp [aY, *]
end Go.Ab
end
section
namespace Go.Ab
open Go.Proofs
attribute [local congr] ACall.congr gd.congr Nx.congr
set_option maxRecDepth 10000
def fc (l:List Int) (x:Int):Int:=bR (fun y=>decide (x=y)) l
def G9 (l:List Edge) (x:Edge):Int:=bR (fun y=>decide (x=y)) l
theorem Du (l:List Int) (x:Int):decide (0≤fc l x)=decide (x∈l):=by
 unfold fc;rw [dx,Bool.eq_iff_iff];simp
theorem Dv (l:List Edge) (x:Edge):decide (0≤G9 l x)=decide (x∈l):=by
 unfold G9;rw [dx,Bool.eq_iff_iff];simp [-Prod.exists, -Prod.forall]
theorem iU (x y:Edge):(decide (x.1=y.1)&&decide (x.2=y.2))=decide (x=y):=by
 obtain ⟨a,b⟩:=x;obtain ⟨c,d⟩:=y
 rw [Bool.eq_iff_iff];simp
theorem aP (ps:List Int) (x:Int) (hl:ps.length≤9223372036854775807):
 Spec Tryz.prog 73 (Args [.d (sI ps),eN x]) [] (eN (fc ps x)) []:=by
 (refine Spec.hd (C:=T.cfg [] []) (rs:= [.t 4]) (T.ai _ _) Tryz.func73 rfl rfl Tryz.ntmps73 Tryz.results73 (by simp [AObj.isNest]) (by simp [AObj.isNest]) (by kernel_rfl) T.mixed fun X hX hP hC aF bY=> ?_)
 repeat' (first|refine Rn.p ?_|(with_reducible apply And.intro)|((first|(refine hK _ ?_;clear hK K)|with_reducible intro K hK|refine Rs.p ?_|((with_reducible first|apply oP|apply oQ);exact rfl));try simp only [go_sem,simprocAttr])|((with_reducible refine oD ?_ ?_);kernel_rfl)|((with_reducible intro h);try simp only [go_sem,simprocAttr] at h)|omega|intro h)
 refine ag (fun k:Nat=>k≤ps.length∧∀j,j<k→decide (x=ps.getD j 0)=false) (fun k=>⟨[(0, .d (sI ps)),(1,eN x),(7,eN ps.length),(8,eN k)], []⟩) (fun k=>ps.length - k) 0 (by simp) ?_ ?_
 ·(refine ⟨bz ?_,fun _ _ h=>h⟩;simp [go_sem,simprocAttr])
 rintro k ⟨hk,hg⟩
 repeat' (first|refine Rn.p ?_|(with_reducible apply And.intro)|((first|(refine hK _ ?_;clear hK K)|with_reducible intro K hK|refine Rs.p ?_|((with_reducible first|apply oP|apply oQ);exact rfl));try simp only [go_sem,simprocAttr])|((with_reducible refine oD ?_ ?_);kernel_rfl)|((with_reducible intro h);try simp only [go_sem,simprocAttr] at h)|omega|intro h)
 ·exact (bW (by omega) hg (by simpa using h)).symm
 ·refine ⟨k+1,⟨by omega,fun j hj=> ?_⟩, ?_,by omega⟩
  ·by_cases hjk:j=k
   ·subst hjk;simpa using h
   ·simpa using hg j (by omega)
  ·(refine ⟨bz ?_,fun _ _ h=>h⟩;simp [go_sem,simprocAttr])
 ·exact (bD 0 fun j hj=>hg j (by omega)).symm
theorem dy (ps:List Int) (x:Int) (hl:ps.length≤9223372036854775807):
 Spec Tryz.prog 166 (Args [.d (sI ps),eN x]) [] (eB (decide (x∈ps))) []:=by
 rw [← Du]
 (refine Spec.hd (C:=T.cfg [] []) (rs:= [.t 4]) (T.ai _ _) Tryz.func166 rfl rfl Tryz.ntmps166 Tryz.results166 (by simp [AObj.isNest]) (by simp [AObj.isNest]) (by kernel_rfl) T.mixed fun X hX hP hC aF bY=> ?_)
 repeat' (first|refine Rn.p ?_|(with_reducible apply And.intro)|((first|(refine hK _ ?_;clear hK K)|with_reducible intro K hK|refine Rs.p ?_|((with_reducible first|apply oP|apply oQ);exact rfl)|refine aa hX hC hP (aP ps x hl) rfl rfl rfl (by simp only [go_sem,simprocAttr]) rfl ?_);try simp only [go_sem,simprocAttr])|((with_reducible refine oD ?_ ?_);kernel_rfl)|((with_reducible intro h);try simp only [go_sem,simprocAttr] at h)|omega|intro h)
theorem xJ (ps:List Edge) (x:Edge) (hl:ps.length≤9223372036854775807):
 Spec Tryz.prog 175 (Args [.d (sE ps),eE x]) [] (eN (G9 ps x)) []:=by
 (refine Spec.hd (C:=T.cfg [] []) (rs:= [.t 4]) (T.ai _ _) Tryz.func175 rfl rfl Tryz.ntmps175 Tryz.results175 (by simp [AObj.isNest]) (by simp [AObj.isNest]) (by kernel_rfl) T.mixed fun X hX hP hC aF bY=> ?_)
 repeat' (first|refine Rn.p ?_|(with_reducible apply And.intro)|((first|(refine hK _ ?_;clear hK K)|with_reducible intro K hK|refine Rs.p ?_|((with_reducible first|apply oP|apply oQ);exact rfl));try simp only [go_sem,simprocAttr])|((with_reducible refine oD ?_ ?_);kernel_rfl)|((with_reducible intro h);try simp only [go_sem,simprocAttr] at h)|omega|intro h)
 refine ag (fun k:Nat=>k≤ps.length∧∀j,j<k→decide (x=ps.getD j (0,0))=false) (fun k=>⟨[(0, .d (sE ps)),(3, .ptr 3 0),(7,eN ps.length),(8,eN k)], [(3, .box [eN x.1,eN x.2])]⟩) (fun k=>ps.length - k) 0 (by simp) ?_ ?_
 ·(refine Le.of ?_ ?_<;>simp [go_sem,simprocAttr])
 rintro k ⟨hk,hg⟩
 repeat' (first|refine Rn.p ?_|(with_reducible apply And.intro)|((first|(refine hK _ ?_;clear hK K)|with_reducible intro K hK|refine Rs.p ?_|((with_reducible first|apply oP|apply oQ);exact rfl));try simp only [go_sem,simprocAttr,iU])|((with_reducible refine oD ?_ ?_);kernel_rfl)|((with_reducible intro h);try simp only [go_sem,simprocAttr,iU] at h)|omega|intro h)
 ·exact (bW (d:=(0,0)) (by omega) hg (by simpa using h)).symm
 ·refine ⟨k+1,⟨by omega,fun j hj=> ?_⟩, ?_,by omega⟩
  ·by_cases hjk:j=k
   ·subst hjk;exact h
   ·simpa using hg j (by omega)
  ·(refine Le.of ?_ ?_<;>simp [go_sem,simprocAttr,iU])
 ·exact (bD (0,0) fun j hj=>hg j (by omega)).symm
theorem dX (ps:List Edge) (x:Edge) (hl:ps.length≤9223372036854775807):
 Spec Tryz.prog 132 (Args [.d (sE ps),eE x]) [] (eB (decide (x∈ps))) []:=by
 rw [← Dv]
 (refine Spec.hd (C:=T.cfg [] []) (rs:= [.t 4]) (T.ai _ _) Tryz.func132 rfl rfl Tryz.ntmps132 Tryz.results132 (by simp [AObj.isNest]) (by simp [AObj.isNest]) (by kernel_rfl) T.mixed fun X hX hP hC aF bY=> ?_)
 repeat' (first|refine Rn.p ?_|(with_reducible apply And.intro)|((first|(refine hK _ ?_;clear hK K)|with_reducible intro K hK|refine Rs.p ?_|((with_reducible first|apply oP|apply oQ);exact rfl)|refine aa hX hC hP (xJ ps x hl) rfl rfl rfl (by simp only [go_sem,simprocAttr,iU]) rfl ?_);try simp only [go_sem,simprocAttr,iU])|((with_reducible refine oD ?_ ?_);kernel_rfl)|((with_reducible intro h);try simp only [go_sem,simprocAttr,iU] at h)|omega|intro h)
theorem lz (ps:List Edge) (hl:ps.length≤1000000):
 Spec Tryz.prog 97 (Args [.d (sE ps)]) [] (.d (sE ps)) []:=by
 (refine Spec.hd (C:=T.cfg [] []) (rs:= [.t 2]) (T.ai _ _) Tryz.func97 rfl rfl Tryz.ntmps97 Tryz.results97 (by simp [AObj.isNest]) (by simp [AObj.isNest]) (by kernel_rfl) T.mixed fun X hX hP hC aF bY=> ?_)
 repeat' (first|refine Rn.p ?_|(with_reducible apply And.intro)|((first|(refine hK _ ?_;clear hK K)|with_reducible intro K hK|refine Rs.p ?_|((with_reducible first|apply oP|apply oQ);exact rfl));try simp only [go_sem,simprocAttr])|((with_reducible refine oD ?_ ?_);kernel_rfl)|((with_reducible intro h);try simp only [go_sem,simprocAttr] at h)|omega|intro h)
 exact h.symm
theorem iA {α:Type} {f:α→Bool} {xs:List α} (d:α) {k:Nat} (h1:k<xs.length) (h:(xs.take k).any f=false) (he:f (xs.getD k d)=false):(xs.take (k+1)).any f=false:=by
 rw [List.take_add_one,List.any_append,h,List.getElem?_eq_getElem h1]
 simp only [List.getD_eq_getElem?_getD,List.getElem?_eq_getElem h1,Option.getD_some] at he
 simp [he]
theorem lB {α:Type} {f:α→Bool} {xs:List α} {d:α} {k:Nat} (h1:k<xs.length) (he:f (xs.getD k d)=true):xs.any f=true:=by
 rw [List.any_eq_true]
 refine ⟨_,List.getElem_mem h1, ?_⟩
 simpa only [List.getD_eq_getElem?_getD,List.getElem?_eq_getElem h1,Option.getD_some] using he
theorem xK {g:Gr} {k:Nat} (h1:k<g.es.length) (he:pL g (g.es.getD k (0,0))=true):false=aY g:=by
 simp [aY,lB h1 he]
theorem cW (g:Gr) (hl:g.es.length≤9223372036854775807):Spec Tryz.prog 80 (Args [eG g]) [] (eB (aY g)) []:=by
 (refine Spec.hd (C:=T.cfg [] []) (rs:= [.t 2]) (T.ai _ _) Tryz.func80 rfl rfl Tryz.ntmps80 Tryz.results80 (by simp [AObj.isNest]) (by simp [AObj.isNest]) (by kernel_rfl) T.mixed fun X hX hP hC aF bY=> ?_)
 repeat' (first|refine Rn.p ?_|(with_reducible apply And.intro)|((first|(refine hK _ ?_;clear hK K)|with_reducible intro K hK|refine Rs.p ?_|((with_reducible first|apply oP|apply oQ);exact rfl));try simp only [go_sem,simprocAttr])|((with_reducible refine oD ?_ ?_);kernel_rfl)|((with_reducible intro h);try simp only [go_sem,simprocAttr] at h)|omega|intro h)
 any_goals (simp [aY];omega)
 refine ag (fun k:Nat=>k≤g.es.length∧(g.es.take k).any (pL g)=false) (fun k=>⟨[(1, .ptr 1 0),(3,eN k)], [(1, .box [eN g.n, .d (sE g.es)])]⟩) (fun k=>g.es.length - k) 0 (by simp) ?_ ?_
 ·(refine Le.of ?_ ?_<;>simp [go_sem,simprocAttr])
 rintro k ⟨hk,hp⟩
 repeat' (first|refine Rn.p ?_|(with_reducible apply And.intro)|((first|(refine hK _ ?_;clear hK K)|with_reducible intro K hK|refine Rs.p ?_|((with_reducible first|apply oP|apply oQ);exact rfl));try simp only [go_sem,simprocAttr])|((with_reducible refine oD ?_ ?_);kernel_rfl)|((with_reducible intro h);try simp only [go_sem,simprocAttr] at h)|omega|intro h)
 any_goals (refine xK (k:=k) (by omega) ?_;simp only [pL,vB,Bool.or_eq_true,decide_eq_true_eq];omega)
 ·refine ⟨k+1,⟨by omega,iA (0,0) (by omega) hp ?_⟩, ?_,by omega⟩
  ·simp only [pL,vB,Bool.or_eq_false_iff,decide_eq_false_iff_not];omega
  ·(refine Le.of ?_ ?_<;>simp [go_sem,simprocAttr])
 ·rw [List.take_of_length_le (by omega)] at hp
  simp [aY,hp];omega
end Go.Ab
end
section
namespace Go.Ab
open Go.Proofs
attribute [local congr] ACall.congr gd.congr Nx.congr
set_option maxRecDepth 10000
set_option maxHeartbeats 8000000
def fz (f:Edge→Int) (es:List Edge) (k:Nat) (x:Nat):List Int:=((List.range k).filter fun i=>decide (f (es.getD i (0,0))=(x:Int))).map Int.ofNat
def mO (f:Edge→Int) (es:List Edge) (n k:Nat):List (List (List D)):=(List.range n).map fun x=>(fz f es k x).map rI
def sL (ls:List (List Int)):D:= .sl 1 (ls.map fun l=> [sI l])
def dY (f:Edge→Int) (g:Gr):List (List Int):=(List.range g.n.toNat).map (fz f g.es g.es.length)
def vw (g:Gr):D:= .pt [.sc (.int .i64 g.n),sE g.es,sL (dY (·.1) g),sL (dY (·.2) g)]
theorem bM {g:Gr} (h:aY g=true):0<g.n∧g.n≤64∧g.es.length≤128:=by
 simp [aY] at h;omega
theorem dZ {g:Gr} (h:aY g=true) {k:Nat} (hk:k<g.es.length):(0≤(g.es.getD k (0,0)).1∧(g.es.getD k (0,0)).1<g.n)∧(0≤(g.es.getD k (0,0)).2∧(g.es.getD k (0,0)).2<g.n):=by
 have h2:=xK (g:=g) hk
 rw [h] at h2
 have h3:¬pL g (g.es.getD k (0,0))=true:=fun e=>by simpa using h2 e
 simp only [pL,vB,Bool.or_eq_true,decide_eq_true_eq] at h3
 omega
theorem b9 {f:Edge→Int} {es:List Edge} {n k:Nat} :(mO f es n k).length=n:=by simp [mO]
theorem jt {f:Edge→Int} {es:List Edge} {n k x:Nat} (hx:x<n):(mO f es n k)[x]? =some ((fz f es k x).map rI):=by
 simp [mO,List.getElem?_range hx]
theorem gZ {f:Edge→Int} {es:List Edge} {k x:Nat} :(fz f es k x).length≤k:=by
 simpa [fz] using List.length_filter_le (fun i=>decide (f (es.getD i (0,0))=(x:Int))) (List.range k)
theorem y4 {f:Edge→Int} {es:List Edge} {k x:Nat} :fz f es (k+1) x=fz f es k x++if f (es.getD k (0,0))=(x:Int) then [(k:Int)] else []:=by
 simp only [fz,List.range_succ,List.filter_append,List.map_append,List.filter_cons,List.filter_nil]
 split<;>simp_all
theorem sg {f:Edge→Int} {es:List Edge} {n k:Nat} (h0:0≤f (es.getD k (0,0))):
 (mO f es n k).set (f (es.getD k (0,0))).toNat ((fz f es k (f (es.getD k (0,0))).toNat).map rI++ [[.sc (.int .i64 k)]])=mO f es n (k+1):=by
 refine List.ext_getElem? fun i=> ?_
 rw [List.getElem?_set,b9]
 by_cases hi:i<n
 ·rw [jt hi,jt hi,y4]
  generalize f (es.getD k (0,0))=e at*
  by_cases hq:e=(i:Int)
  ·subst hq;simp [hi,rI]
  ·have:¬e.toNat=i:=by omega
   simp [hq,this]
 ·rw [List.getElem?_eq_none (by rw [b9];omega),List.getElem?_eq_none (by rw [b9];omega)]
  generalize f (es.getD k (0,0))=e at*
  split
  ·rename_i hq;rw [if_neg (by omega)]
  ·rfl
theorem sj {f:Edge→Int} {es:List Edge} {n:Nat} :List.replicate n []=mO f es n 0:=by
 refine List.ext_getElem? fun i=> ?_
 by_cases hi:i<n
 ·rw [jt hi];simp [hi,fz]
 ·rw [List.getElem?_eq_none (by simp;omega),List.getElem?_eq_none (by rw [b9];omega)]
theorem l9 (g:Gr) (hm:aY g=true):Spec Tryz.prog 44 (Args [eG g]) [] (.d (vw g)) []:=by
 have hn:=bM hm
 have hl:g.es.length≤9223372036854775807:=by omega
 have hl':g.es.length≤1000000:=by omega
 (refine Spec.hd (C:=T.cfg [] [13,16]) (rs:= [.t 2]) (T.ai _ _) Tryz.func44 rfl rfl Tryz.ntmps44 Tryz.results44 (by simp [AObj.isNest]) (by simp [AObj.isNest]) (by kernel_rfl) T.mixed fun X hX hP hC aF bY=> ?_)
 repeat' (first|refine Rn.p ?_|(with_reducible apply And.intro)|((first|(refine hK _ ?_;clear hK K)|with_reducible intro K hK|refine Rs.p ?_|((with_reducible first|apply oP|apply oQ);exact rfl)|refine aa hX hC hP (gC g hl) rfl rfl rfl (by simp only [go_sem,simprocAttr,hm]) rfl ?_|refine aa hX hC hP (lz g.es hl') rfl rfl rfl (by simp only [go_sem,simprocAttr,hm]) rfl ?_);try simp only [go_sem,simprocAttr,hm])|((with_reducible refine oD ?_ ?_);kernel_rfl)|((with_reducible intro h);try simp only [go_sem,simprocAttr,hm] at h)|omega|intro h)
 refine xD hX 13 (by simp [go_sem,simprocAttr,hm];exact ⟨rfl,rfl,rfl,rfl⟩) (by decide) (by simp [go_sem,simprocAttr,hm]) (by simp [go_sem,simprocAttr,hm]) ?_
 refine xD hX 16 (by simp [go_sem,simprocAttr,hm];exact ⟨rfl,rfl,rfl,rfl⟩) (by decide) (by simp [go_sem,simprocAttr,hm]) (by simp [go_sem,simprocAttr,hm]) ?_
 simp only [go_sem,simprocAttr,hm]
 refine ag (fun k:Nat=>k≤g.es.length) (fun k=>⟨[(29,eN k),(28,eN g.es.length),(27, .d (sE g.es)),(3, .ptr 18 0)], [(18, .box [eN g.n, .d (sE g.es), .ref 13, .ref 16]),(16, .nest 31 3 1 (mO (·.2) g.es g.n.toNat k) none),(13, .nest 31 3 1 (mO (·.1) g.es g.n.toNat k) none)]⟩) (fun k=>g.es.length - k) 0 (by simp) ?_ ?_
 ·refine Le.of ?_ ?_<;>simp [go_sem,simprocAttr,hm]
  exact ⟨sj,sj⟩
 rintro k hk
 rcases Nat.lt_or_ge k g.es.length with hlt|hge
 ·have hb:decide ((k:Int)<(g.es.length:Int))=true:=decide_eq_true (by omega)
  obtain ⟨pg,vm⟩:=dZ hm hlt
  have hg1:=jt (f:=(·.1)) (es:=g.es) (k:=k) (show (g.es.getD k (0,0)).1.toNat<g.n.toNat by omega)
  have hg2:=jt (f:=(·.2)) (es:=g.es) (k:=k) (show (g.es.getD k (0,0)).2.toNat<g.n.toNat by omega)
  have Mn:=gZ (f:=(·.1)) (es:=g.es) (k:=k) (x:=(g.es.getD k (0,0)).1.toNat)
  have OH:=gZ (f:=(·.2)) (es:=g.es) (k:=k) (x:=(g.es.getD k (0,0)).2.toNat)
  repeat' (first|refine Rn.p ?_|(with_reducible apply And.intro)|((first|(refine hK _ ?_;clear hK K)|with_reducible intro K hK|refine Rs.p ?_|((with_reducible first|apply oP|apply oQ);exact rfl)|refine aa hX hC hP (gC g hl) rfl rfl rfl (by simp only [go_sem,simprocAttr,hm,hb,hg1,hg2,b9]) rfl ?_|refine aa hX hC hP (lz g.es hl') rfl rfl rfl (by simp only [go_sem,simprocAttr,hm,hb,hg1,hg2,b9]) rfl ?_);try simp only [go_sem,simprocAttr,hm,hb,hg1,hg2,b9])|((with_reducible refine oD ?_ ?_);first|(focus (simp only [qx,l7,gP,meets,rO,nh,Bl,dG,oe,mN,Rec.rs,Rec.pn,Rec.Gf,fI,Rec.dr,Rec.names,KV.ids,Dl,Dm,Dn,Dp,Dq,Ds,List.zip_cons_cons,List.zip_nil_right,List.zipIdx_cons,List.zipIdx_nil,List.all_cons,List.all_nil,List.contains_cons,List.contains_nil,List.any_cons,List.any_nil,List.flatMap_nil,List.reverse_cons,List.reverse_nil,jf,Bj,Region.binds,go_sem,simprocAttr,hm,hb,hg1,hg2,b9];done))|kernel_rfl)|((with_reducible intro h);try simp only [go_sem,simprocAttr,hm,hb,hg1,hg2,b9] at h)|omega|intro h)
  refine ⟨k+1,by omega, ?_,by omega⟩
  refine Le.of ?_ ?_<;>simp [go_sem,simprocAttr,hm,hb,hg1,hg2,b9]
  exact ⟨sg (f:=(·.2)) vm.1,sg (f:=(·.1)) pg.1⟩
 ·repeat' (first|refine Rn.p ?_|(with_reducible apply And.intro)|((first|(refine hK _ ?_;clear hK K)|with_reducible intro K hK|refine Rs.p ?_|((with_reducible first|apply oP|apply oQ);exact rfl)|refine aa hX hC hP (gC g hl) rfl rfl rfl (by simp only [go_sem,simprocAttr]) rfl ?_|refine aa hX hC hP (lz g.es hl') rfl rfl rfl (by simp only [go_sem,simprocAttr]) rfl ?_);try simp only [go_sem,simprocAttr])|((with_reducible refine oD ?_ ?_);first|(focus (simp only [qx,l7,gP,meets,rO,nh,Bl,dG,oe,mN,Rec.rs,Rec.pn,Rec.Gf,fI,Rec.dr,Rec.names,KV.ids,Dl,Dm,Dn,Dp,Dq,Ds,List.zip_cons_cons,List.zip_nil_right,List.zipIdx_cons,List.zipIdx_nil,List.all_cons,List.all_nil,List.contains_cons,List.contains_nil,List.any_cons,List.any_nil,List.flatMap_nil,List.reverse_cons,List.reverse_nil,jf,Bj,Region.binds,go_sem,simprocAttr];done))|kernel_rfl)|((with_reducible intro h);try simp only [go_sem,simprocAttr] at h)|omega|intro h)
  have:k=g.es.length:=by omega
  subst this
  simp only [vw,sE,sL,dY,mO,List.map_map]
  rfl
end Go.Ab
end
section
namespace Go.Ab
open Go.Proofs
attribute [local congr] ACall.congr gd.congr Nx.congr
set_option maxRecDepth 10000
def tl (g:Gr) (i:Nat):Int:=(g.es.getD i (0,0)).1
def hd (g:Gr) (i:Nat):Int:=(g.es.getD i (0,0)).2
def wt (g:Gr) (out:List Int) (y:Nat):Int:=
 if (y:Int)∈out then -1 else (((List.range g.es.length).countP fun i=>decide (hd g i=(y:Int))&& !decide (tl g i∈out):Nat):Int)
def cH (g:Gr) (out:List Int):List Int:=(List.range g.n.toNat).map (wt g out)
def tT (g:Gr):Nat→List Int→List Int
 |0,out=>out
 |f+1,out=>if fc (cH g out) 0<0 then out else tT g f (out++ [fc (cH g out) 0])
def aL (g:Gr):List Int:=tT g g.n.toNat []
structure eO (g:Gr) (out:List Int):Prop where
 lo:∀x∈out,0≤x∧x<g.n
 back:∀i,i<g.es.length→hd g i∈out→tl g i∈out
 fuel:out.length+(List.range g.n.toNat).countP (fun y:Nat=> !decide ((y:Int)∈out))=g.n.toNat
theorem fe {α:Type} {f:α→Bool} {l:List α} (d:α):bR f l= -1∧(∀x∈l,f x=false)∨∃k:Nat,bR f l=k∧k<l.length∧f (l.getD k d)=true∧∀j,j<k→f (l.getD j d)=false:=by
 cases h:l.findIdx? f with
 |none=>
  rw [List.findIdx?_eq_none_iff] at h
  exact .inl ⟨by simp [bR,List.findIdx?_eq_none_iff.2 h],h⟩
 |some i=>
  obtain ⟨hi,hg,hb⟩:=List.findIdx?_eq_some_iff_getElem.1 h
  refine .inr ⟨i,by simp [bR,h],hi,by simpa [List.getD_eq_getElem?_getD,List.getElem?_eq_getElem hi] using hg,fun j hj=> ?_⟩
  have hjl:j<l.length:=by omega
  have:=hb j hj
  simpa [List.getD_eq_getElem?_getD,List.getElem?_eq_getElem hjl] using this
theorem wts_length {g:Gr} {out:List Int} :(cH g out).length=g.n.toNat:=by simp [cH]
theorem lC {g:Gr} {out:List Int} {y:Nat} (h:y<g.n.toNat) (d:Int):(cH g out).getD y d=wt g out y:=by
 simp [cH,List.getD_eq_getElem?_getD,List.getElem?_range h]
theorem lD {p:Nat→Bool} {x:Nat} (hx:p x=true):∀ {n:Nat},x<n→(List.range n).countP (fun y=>p y&& !decide (y=x))+1=(List.range n).countP p
 |0,h=>by omega
 |n+1,h=>by
  rw [List.range_succ,List.countP_append,List.countP_append]
  by_cases He:x=n
  ·subst He
   have:(List.range x).countP (fun y=>p y&& !decide (y=x))=(List.range x).countP p:=by
    refine List.countP_congr fun y hy=> ?_
    have:y≠x:=by have:=List.mem_range.1 hy;omega
    simp [this]
   rw [this]
   simp [List.countP_cons,hx]
  ·have:=lD hx (n:=n) (by omega)
   have hn:n≠x:=fun e=>He e.symm
   simp only [List.countP_cons,List.countP_nil,hn,decide_false,Bool.not_false,Bool.and_true]
   omega
theorem eO.nil (g:Gr):eO g []:=⟨by simp,by simp,by rw [List.countP_eq_length_filter,List.filter_eq_self.2 (by simp)];simp⟩
theorem eO.next {g:Gr} (hm:aY g=true) {out:List Int} (h:eO g out) {x:Nat} (hx:x<g.n.toNat) (hw:wt g out x=0):eO g (out++ [(x:Int)])∧(x:Int)∉out∧(∀i,i<g.es.length→hd g i=x→tl g i∈out):=by
 have qI:(x:Int)∉out:=fun hi=>by simp [wt,hi] at hw
 have hb:∀i,i<g.es.length→hd g i=x→tl g i∈out:=by
  intro i hi he
  simp only [wt,qI,if_false] at hw
  have:=List.countP_eq_zero.1 (Int.ofNat.inj hw) i (List.mem_range.2 hi)
  simpa [he] using this
 refine ⟨⟨?_, ?_, ?_⟩,qI,hb⟩
 ·intro y hy
  rcases List.mem_append.1 hy with hy|hy
  ·exact h.lo y hy
  ·simp at hy;omega
 ·intro i hi hh
  rcases List.mem_append.1 hh with hh|hh
  ·exact List.mem_append_left _ (h.back i hi hh)
  ·simp at hh
   exact List.mem_append_left _ (hb i hi hh)
 ·have h1:=h.fuel
  have h2:=lD (p:=fun y:Nat=> !decide ((y:Int)∈out)) (x:=x) (by simp [qI]) hx
  have h3:(List.range g.n.toNat).countP (fun y:Nat=> !decide ((y:Int)∈out++ [(x:Int)]))=(List.range g.n.toNat).countP (fun y:Nat=>(!decide ((y:Int)∈out))&& !decide (y=x)):=by
   refine List.countP_congr fun y _=> ?_
   simp;omega
  rw [h3,List.length_append,List.length_singleton]
  omega
def iV (g:Gr) (x:Nat):List Int:=fz (·.1) g.es g.es.length x
def kS (g:Gr) (x:Nat):List Int:=fz (·.2) g.es g.es.length x
theorem Dw {g:Gr} {x:Nat} {e:Int} (h:e∈iV g x):∃i:Nat,e=i∧i<g.es.length∧tl g i=x:=by
 simp only [iV,fz,List.mem_map,List.mem_filter,List.mem_range,decide_eq_true_eq] at h
 obtain ⟨i,⟨h1,h2⟩,rfl⟩:=h
 exact ⟨i,rfl,h1,h2⟩
def Ct (g:Gr) (out:List Int) (x j y:Nat):Int:=
 if (y:Int)∈out++ [(x:Int)] then -1 else (((List.range g.es.length).countP fun i=>decide (hd g i=(y:Int))&& !decide (tl g i∈out):Nat):Int) - (((iV g x).take j).countP fun e=>decide (hd g e.toNat=(y:Int)):Nat)
def tU (g:Gr) (out:List Int) (x j:Nat):List Int:=(List.range g.n.toNat).map (Ct g out x j)
theorem wtps_length {g:Gr} {out:List Int} {x j:Nat} :(tU g out x j).length=g.n.toNat:=by simp [tU]
theorem oo {g:Gr} {out:List Int} {x j y:Nat} (h:y<g.n.toNat):(tU g out x j)[y]? =some (Ct g out x j y):=by
 simp [tU,List.getElem?_range h]
theorem j7 {g:Gr} {out:List Int} {y:Nat} (h:y<g.n.toNat):(cH g out)[y]? =some (wt g out y):=by
 simp [cH,List.getElem?_range h]
theorem Bv {g:Gr} {out:List Int} {x:Nat} :(cH g out).set x (-1)=tU g out x 0:=by
 refine List.ext_getElem? fun i=> ?_
 rw [List.getElem?_set,wts_length]
 by_cases hi:i<g.n.toNat
 ·rw [j7 hi,oo hi]
  by_cases hx:x=i
  ·subst hx;simp [hi,Ct]
  ·have:¬i=x:=fun e=>hx e.symm
   simp only [hx,if_false,Ct,wt,List.mem_append,List.mem_singleton,List.take_zero,List.countP_nil]
   have h2:¬(i:Int)=(x:Int):=by omega
   simp [h2]
 ·rw [List.getElem?_eq_none (by rw [wts_length];omega),List.getElem?_eq_none (by rw [wtps_length];omega)]
  split
  ·rw [if_neg (by omega)]
  ·rfl
theorem j8 {α:Type} {p q r:α→Bool} :∀ {l:List α},(∀a∈l,p a=(q a||r a)∧(q a&&r a)=false)→l.countP p=l.countP q+l.countP r
 | [],_=>rfl
 |a::l,h=>by
  obtain ⟨h1,h2⟩:=h a List.mem_cons_self
  have:=j8 (l:=l) fun b hb=>h b (List.mem_cons_of_mem _ hb)
  simp only [List.countP_cons,this,h1]
  cases hq:q a<;>cases hr:r a<;>simp [hq,hr] at h2 ⊢ <;>omega
theorem Dx {g:Gr} {out:List Int} {x j:Nat} (hx:(x:Int)∉out) (hj:(iV g x).length≤j):tU g out x j=cH g (out++ [(x:Int)]):=by
 refine List.map_congr_left fun y _=> ?_
 simp only [Ct,wt]
 split
 ·rfl
 ·rw [List.take_of_length_le hj]
  have h1:(iV g x).countP (fun e=>decide (hd g e.toNat=(y:Int)))=(List.range g.es.length).countP (fun i=>decide (hd g i=(y:Int))&&decide (tl g i=(x:Int))):=by
   simp only [iV,fz,List.countP_map,List.countP_filter]
   exact List.countP_congr fun i _=>by simp [tl]
  have h2:=j8 (p:=fun i=>decide (hd g i=(y:Int))&& !decide (tl g i∈out)) (q:=fun i=>decide (hd g i=(y:Int))&& !decide (tl g i∈out++ [(x:Int)])) (r:=fun i=>decide (hd g i=(y:Int))&&decide (tl g i=(x:Int))) (l:=List.range g.es.length) (fun i _=>by
   by_cases h3:tl g i=x
   ·simp [h3,hx]
   ·simp [h3])
  rw [h1,h2];omega
theorem Hf {g:Gr} {out:List Int} {x:Nat} (hP:eO g out) (qI:(x:Int)∉out) (hb:∀i,i<g.es.length→hd g i=x→tl g i∈out) {i:Nat} (hi:i<g.es.length) (ht:tl g i=x):hd g i∉out++ [(x:Int)]:=by
 intro h
 rcases List.mem_append.1 h with h|h
 ·exact qI (ht ▸ hP.back i hi h)
 ·simp at h
  exact qI (ht ▸ hb i hi h)
theorem Bw {g:Gr} {out:List Int} {x j i:Nat} (hj:(iV g x)[j]? =some (i:Int)) (h0:0≤hd g i) (hn:hd g i∉out++ [(x:Int)]):
 (tU g out x j).set (hd g i).toNat (Ct g out x j (hd g i).toNat - 1)=tU g out x (j+1):=by
 refine List.ext_getElem? fun y=> ?_
 rw [List.getElem?_set,wtps_length]
 by_cases hy:y<g.n.toNat
 ·rw [oo hy,oo hy]
  have ht:((iV g x).take (j+1)).countP (fun e=>decide (hd g e.toNat=(y:Int)))=((iV g x).take j).countP (fun e=>decide (hd g e.toNat=(y:Int)))+if hd g i=(y:Int) then 1 else 0:=by
   rw [List.take_add_one,List.countP_append,hj]
   simp [List.countP_cons]
  by_cases hq:(hd g i).toNat=y
  ·subst hq
   have he:((hd g i).toNat:Int)=hd g i:=by omega
   rw [if_pos rfl,if_pos (by assumption)]
   rw [he,if_pos rfl] at ht
   simp only [Ct,he,hn,if_false,ht]
   congr 1;omega
  ·rw [if_neg hq]
   have kR:¬hd g i=(y:Int):=by omega
   simp only [Ct,ht,kR,if_false,Nat.add_zero]
 ·rw [List.getElem?_eq_none (by rw [wtps_length];omega),List.getElem?_eq_none (by rw [wtps_length];omega)]
  split
  ·rw [if_neg (by omega)]
  ·rfl
def FB (f:Edge→Int) (g:Gr):List (List D):=(dY f g).map fun l=> [sI l]
theorem oq {f:Edge→Int} {g:Gr} {x:Nat} (h:x<g.n.toNat) (d:List D):(FB f g).getD x d= [sI (fz f g.es g.es.length x)]:=by
 simp [FB,dY,List.getD_eq_getElem?_getD,List.getElem?_range h]
theorem vwl_length {f:Edge→Int} {g:Gr} :(FB f g).length=g.n.toNat:=by simp [FB,dY]
def Ih (g:Gr):D:= .pt [.sc (.int .i64 g.n),sE g.es, .sl 1 (FB (·.1) g), .sl 1 (FB (·.2) g)]
theorem fJ (g:Gr):vw g=Ih g:=rfl
attribute [go_sem] Ih wtps_length wts_length vwl_length
theorem Dy {g:Gr} {k:Nat} (h:k<g.n.toNat):(cH g []).take (k+1)=(cH g []).take k++ [((kS g k).length:Int)]:=by
 rw [List.take_add_one,j7 h]
 simp [wt,kS,fz,hd,List.countP_eq_length_filter]
theorem Bx {g:Gr} (hm:aY g=true) {out:List Int} {x j y:Nat} : -1000≤Ct g out x j y∧Ct g out x j y≤1000:=by
 have hn:=bM hm
 have h1:=List.countP_le_length (p:=fun i=>decide (hd g i=(y:Int))&& !decide (tl g i∈out)) (l:=List.range g.es.length)
 have h2:=List.countP_le_length (p:=fun e:Int=>decide (hd g e.toNat=(y:Int))) (l:=(iV g x).take j)
 have h3:((iV g x).take j).length≤g.es.length:=Nat.le_trans (List.length_take_le' _ _) gZ
 simp only [List.length_range] at h1
 unfold Ct
 split<;>omega
theorem xL {g:Gr} {out:List Int} (h:fc (cH g out) 0<0):∀f,tT g f out=out
 |0=>rfl
 |f+1=>by simp [tT,h]
def left (g:Gr) (out:List Int):Nat:=(List.range g.n.toNat).countP (fun y:Nat=> !decide ((y:Int)∈out))
theorem ur {g:Gr} {out:List Int} {x:Nat} (h:eO g out) (h':eO g (out++ [(x:Int)])):left g out=left g (out++ [(x:Int)])+1:=by
 have h1:=h.fuel
 have h2:=h'.fuel
 rw [List.length_append,List.length_singleton] at h2
 unfold left;omega
theorem JB {g:Gr} (out:List Int):fc (cH g out) 0= -1∨∃x:Nat,fc (cH g out) 0=x∧x<g.n.toNat∧wt g out x=0:=by
 rcases fe (f:=fun y:Int=>decide (0=y)) (l:=cH g out) 0 with ⟨h,_⟩|⟨k,h1,h2,h3,_⟩
 ·exact .inl h
 ·rw [wts_length] at h2
  rw [lC h2] at h3
  exact .inr ⟨k,h1,h2,by simpa using (of_decide_eq_true h3).symm⟩
theorem jv (g:Gr) (hm:aY g=true):Spec Tryz.prog 176 (Args [.d (vw g)]) [] (.tup [.d (sI (aL g)), .d (sI (cH g (aL g)))]) []:=by
 rw [fJ]
 have hn:=bM hm
 (refine Spec.hd (C:=T.cfg [22] []) (rs:= [.t 2, .t 3]) (T.ai _ _) Tryz.func176 rfl rfl Tryz.ntmps176 Tryz.results176 (by simp [AObj.isNest]) (by simp [AObj.isNest]) (by kernel_rfl) T.mixed fun X hX hP hC aF bY=> ?_)
 repeat' (first|refine Rn.p ?_|(with_reducible apply And.intro)|((first|(refine hK _ ?_;clear hK K)|with_reducible intro K hK|refine Rs.p ?_|((with_reducible first|apply oP|apply oQ);exact rfl)|(refine ah hX hC hP (aP (cH g out) 0 Ap) rfl rfl rfl ?_ ?_ ?_ ?_;iterate 3 (focus (simp only [go_sem,simprocAttr];done))));try simp only [go_sem,simprocAttr])|((with_reducible refine oD ?_ ?_);kernel_rfl)|((with_reducible intro h);try simp only [go_sem,simprocAttr] at h)|omega|intro h)
 (refine j5 hX 3 22 (.own 3 1 []) (by simp only [go_sem,simprocAttr]) (by simp only [go_sem,simprocAttr]) (by decide) ⟨3,1,by decide, .inl rfl⟩ ?_;simp only [go_sem,simprocAttr])
 refine ag (fun k:Nat=>k≤g.n.toNat) (fun k=>⟨[(14,eN k),(13,eN g.n.toNat),(12, .d (.sl 1 (FB (·.2) g))),(3, .ref 22),(2, .nil 3),(0, .d (Ih g))], [(22, .own 3 1 (((cH g []).take k).map rI))]⟩) (fun k=>g.n.toNat - k) 0 (by simp) ?_ ?_
 ·(refine Le.of ?_ ?_<;>simp [go_sem,simprocAttr])
 ·rintro k hk
  rcases Nat.lt_or_ge k g.n.toNat with hlt|hge
  ·have hb:decide ((k:Int)<(g.n.toNat:Int))=true:=decide_eq_true (by omega)
   have hv:=oq (f:=(·.2)) hlt
   have Mn:(kS g k).length≤g.es.length:=gZ
   have hlt':((cH g []).take k).length≤64:=by rw [List.length_take,wts_length];omega
   repeat' (first|refine Rn.p ?_|(with_reducible apply And.intro)|((first|(refine hK _ ?_;clear hK K)|with_reducible intro K hK|refine Rs.p ?_|((with_reducible first|apply oP|apply oQ);exact rfl)|(refine ah hX hC hP (aP (cH g out) 0 Ap) rfl rfl rfl ?_ ?_ ?_ ?_;iterate 3 (focus (simp only [go_sem,simprocAttr,hb,hv];done))));try simp only [go_sem,simprocAttr,hb,hv])|((with_reducible refine oD ?_ ?_);kernel_rfl)|((with_reducible intro h);try simp only [go_sem,simprocAttr,hb,hv] at h)|omega|intro h)
   refine ⟨k+1,by omega, ?_,by omega⟩
   refine Le.of ?_ ?_<;>simp [go_sem,simprocAttr,hb,hv,Dy hlt]
   rfl
  ·obtain rfl:k=g.n.toNat:=by omega
   have hb:decide ((g.n.toNat:Int)<(g.n.toNat:Int))=false:=decide_eq_false (by omega)
   have ht:(cH g []).take g.n.toNat=cH g []:=List.take_of_length_le (by rw [wts_length];omega)
   repeat' (first|refine Rn.p ?_|(with_reducible apply And.intro)|((first|(refine hK _ ?_;clear hK K)|with_reducible intro K hK|refine Rs.p ?_|((with_reducible first|apply oP|apply oQ);exact rfl)|(refine ah hX hC hP (aP (cH g out) 0 Ap) rfl rfl rfl ?_ ?_ ?_ ?_;iterate 3 (focus (simp only [go_sem,simprocAttr,hb,ht];done))));try simp only [go_sem,simprocAttr,hb,ht])|((with_reducible refine oD ?_ ?_);kernel_rfl)|((with_reducible intro h);try simp only [go_sem,simprocAttr,hb,ht] at h)|omega|intro h)
   (refine j5 hX 2 33 (.tip 3 1 []) (by simp only [go_sem,simprocAttr,hb,ht]) (by simp only [go_sem,simprocAttr,hb,ht]) (by decide) ⟨3,1,by decide, .inr rfl⟩ ?_;simp only [go_sem,simprocAttr,hb,ht])
   refine ag (fun out:List Int=>eO g out∧tT g (left g out) out=aL g) (fun out=>⟨[(3, .ref 22),(2, .ref 33),(0, .d (Ih g))], [(22, .own 3 1 ((cH g out).map rI)),(33, .tip 3 1 (out.map rI))]⟩) (left g) [] ⟨eO.nil g, ?_⟩ ?_ ?_
   ·have:=(eO.nil g).fuel
    simp only [List.length_nil,Nat.zero_add] at this
    unfold left aL
    rw [this]
   ·(refine Le.of ?_ ?_<;>simp [go_sem,simprocAttr,hb,ht])
   rintro out ⟨fH,hrun⟩
   have Ap:(cH g out).length≤9223372036854775807:=by rw [wts_length];omega
   have hout:out.length≤64:=by have:=fH.fuel;omega
   rcases JB (g:=g) out with hx|⟨x,hx,He,hw0⟩
   ·have hr:=xL (g:=g) (out:=out) (by omega) (left g out)
    rw [hrun] at hr
    repeat' (first|refine Rn.p ?_|(with_reducible apply And.intro)|((first|(refine hK _ ?_;clear hK K)|with_reducible intro K hK|refine Rs.p ?_|((with_reducible first|apply oP|apply oQ);exact rfl)|(refine ah hX hC hP (aP (cH g out) 0 Ap) rfl rfl rfl ?_ ?_ ?_ ?_;iterate 3 (focus (simp only [go_sem,simprocAttr,hx];done))));try simp only [go_sem,simprocAttr,hx])|((with_reducible refine oD ?_ ?_);kernel_rfl)|((with_reducible intro h);try simp only [go_sem,simprocAttr,hx] at h)|omega|intro h)
    ·rw [hr]
    ·rw [hr]
   ·obtain ⟨tR,qI,hbk⟩:=fH.next hm He hw0
    have aJ:decide ((x:Int)<0)=false:=decide_eq_false (by omega)
    have hv:=oq (f:=(·.1)) He
    have Mn:(iV g x).length≤g.es.length:=gZ
    repeat' (first|refine Rn.p ?_|(with_reducible apply And.intro)|((first|(refine hK _ ?_;clear hK K)|with_reducible intro K hK|refine Rs.p ?_|((with_reducible first|apply oP|apply oQ);exact rfl)|(refine ah hX hC hP (aP (cH g out) 0 Ap) rfl rfl rfl ?_ ?_ ?_ ?_;iterate 3 (focus (simp only [go_sem,simprocAttr,hx,aJ,hv];done))));try simp only [go_sem,simprocAttr,hx,aJ,hv])|((with_reducible refine oD ?_ ?_);kernel_rfl)|((with_reducible intro h);try simp only [go_sem,simprocAttr,hx,aJ,hv] at h)|omega|intro h)
    refine ag (fun j:Nat=>j≤(iV g x).length) (fun j=>⟨[(45,eN j),(44,eN (iV g x).length),(43, .d (sI (iV g x))),(3, .ref 22),(2, .ref 33),(0, .d (Ih g))], [(22, .own 3 1 ((tU g out x j).map rI)),(33, .tip 3 1 ((out++ [(x:Int)]).map rI))]⟩) (fun j=>(iV g x).length - j) 0 (by simp) ?_ ?_
    ·refine Le.of ?_ ?_<;>simp [go_sem,simprocAttr,hx,aJ,hv,iV,rI]
     rw [← Bv,List.map_set];rfl
    rintro j hj
    rcases Nat.lt_or_ge j (iV g x).length with hlt|hge
    ·have aK:decide ((j:Int)<((iV g x).length:Int))=true:=decide_eq_true (by omega)
     obtain ⟨i,hi,hil,hit⟩:=Dw (List.getElem_mem hlt)
     have hi1:(iV g x)[j]? =some (i:Int):=by rw [List.getElem?_eq_getElem hlt,hi]
     have hi2:(iV g x).getD j 0=(i:Int):=by rw [List.getD_eq_getElem?_getD,hi1];rfl
     have hnew:=Hf fH qI hbk hil hit
     obtain ⟨_,Dz,pg⟩:=dZ hm hil
     have hnext:=Bw hi1 Dz hnew
     have hw:(tU g out x j).getD (g.es.getD i (0,0)).2.toNat 0=Ct g out x j (hd g i).toNat:=by
      rw [List.getD_eq_getElem?_getD,oo (by omega)];rfl
     have hbd:=Bx hm (out:=out) (x:=x) (j:=j) (y:=(hd g i).toNat)
     repeat' (first|refine Rn.p ?_|(with_reducible apply And.intro)|((first|(refine hK _ ?_;clear hK K)|with_reducible intro K hK|refine Rs.p ?_|((with_reducible first|apply oP|apply oQ);exact rfl)|(refine ah hX hC hP (aP (cH g out) 0 Ap) rfl rfl rfl ?_ ?_ ?_ ?_;iterate 3 (focus (simp only [go_sem,simprocAttr,aK,hi2,hw];done))));try simp only [go_sem,simprocAttr,aK,hi2,hw])|((with_reducible refine oD ?_ ?_);kernel_rfl)|((with_reducible intro h);try simp only [go_sem,simprocAttr,aK,hi2,hw] at h)|omega|intro h)
     refine ⟨j+1,by omega, ?_,by omega⟩
     refine Le.of ?_ ?_<;>simp [go_sem,simprocAttr,aK,hi2,hw]
     rw [← hnext,List.map_set];rfl
    ·have aK:decide ((j:Int)<((iV g x).length:Int))=false:=decide_eq_false (by omega)
     repeat' (first|refine Rn.p ?_|(with_reducible apply And.intro)|((first|(refine hK _ ?_;clear hK K)|with_reducible intro K hK|refine Rs.p ?_|((with_reducible first|apply oP|apply oQ);exact rfl)|(refine ah hX hC hP (aP (cH g out) 0 Ap) rfl rfl rfl ?_ ?_ ?_ ?_;iterate 3 (focus (simp only [go_sem,simprocAttr,aK];done))));try simp only [go_sem,simprocAttr,aK])|((with_reducible refine oD ?_ ?_);kernel_rfl)|((with_reducible intro h);try simp only [go_sem,simprocAttr,aK] at h)|omega|intro h)
     have Mo:=ur fH tR
     refine ⟨out++ [(x:Int)],⟨tR, ?_⟩, ?_,by omega⟩
     ·rw [← hrun,Mo]
      simp only [tT,hx]
      rw [if_neg (by omega)]
     ·refine Le.of ?_ ?_<;>simp [go_sem,simprocAttr,aK,Dx qI hge]
end Go.Ab
end
section
namespace Go.Ab
open Go.Proofs
attribute [local congr] ACall.congr gd.congr Nx.congr
set_option maxRecDepth 10000
def kI (l:List Int) (k:Nat):List Int:=(List.range l.length).map fun p=>if p<k∨l.length - 1<p+k then l.getD (l.length - 1 - p) 0 else l.getD p 0
theorem cZ {l:List Int} {k:Nat} :(kI l k).length=l.length:=by simp [kI]
theorem jw {l:List Int} {k p:Nat} (h:p<l.length):(kI l k)[p]? =some (if p<k∨l.length - 1<p+k then l.getD (l.length - 1 - p) 0 else l.getD p 0):=by
 simp [kI,List.getElem?_range h]
theorem sn {l:List Int} {k p:Nat} (h:p<l.length) (d:Int):(kI l k).getD p d=if p<k∨l.length - 1<p+k then l.getD (l.length - 1 - p) 0 else l.getD p 0:=by
 rw [List.getD_eq_getElem?_getD,jw h];rfl
theorem y5 {l:List Int} :kI l 0=l:=by
 refine List.ext_getElem? fun i=> ?_
 by_cases hi:i<l.length
 ·rw [jw hi,if_neg (by omega),List.getD_eq_getElem?_getD,List.getElem?_eq_getElem hi];rfl
 ·rw [List.getElem?_eq_none (by rw [cZ];omega),List.getElem?_eq_none (by omega)]
theorem By {l:List Int} {k:Nat} (h:l.length≤2*k+1):kI l k=l.reverse:=by
 refine List.ext_getElem? fun i=> ?_
 by_cases hi:i<l.length
 ·rw [jw hi,List.getElem?_reverse hi]
  split
  ·rw [List.getD_eq_getElem?_getD,List.getElem?_eq_getElem (by omega)];rfl
  ·have:i=l.length - 1 - i:=by omega
   rw [← this,List.getD_eq_getElem?_getD,List.getElem?_eq_getElem hi];rfl
 ·rw [List.getElem?_eq_none (by rw [cZ];omega),List.getElem?_eq_none (by rw [List.length_reverse];omega)]
theorem y6 {l:List Int} {k:Nat} (h:k<l.length - 1 - k):((kI l k).set k ((kI l k).getD (l.length - 1 - k) 0)).set (l.length - 1 - k) ((kI l k).getD k 0)=kI l (k+1):=by
 refine List.ext_getElem? fun i=> ?_
 rw [List.getElem?_set,List.length_set,cZ,List.getElem?_set,cZ]
 by_cases hi:i<l.length
 ·rw [jw hi,jw hi,sn (by omega),sn (by omega)]
  by_cases h1:l.length - 1 - k=i
  ·rw [if_pos h1,if_pos (by omega),if_neg (by omega),if_pos (by omega)]
   congr 2;omega
  ·rw [if_neg h1]
   by_cases h2:k=i
   ·rw [if_pos h2,if_pos (by omega),if_neg (by omega),if_pos (by omega)]
    congr 2;omega
   ·rw [if_neg h2]
    congr 1
    by_cases h3:i<k∨l.length - 1<i+k
    ·rw [if_pos h3,if_pos (by omega)]
    ·rw [if_neg h3,if_neg (by omega)]
 ·rw [List.getElem?_eq_none (by rw [cZ];omega),List.getElem?_eq_none (by rw [cZ];omega),if_neg (by omega),if_neg (by omega)]
theorem ez (l:List Int) (hl:l.length≤1000000):Spec Tryz.prog 86 (Args [.ref 10000]) [(10000, .part 3 1 (l.map rI))] (.tup []) [(10000, .part 3 1 (l.reverse.map rI))]:=by
 (refine Spec.hd (C:=T.cfg [] []) (rs:= []) (T.ai _ _) Tryz.func86 rfl rfl Tryz.ntmps86 Tryz.results86 (by simp [AObj.isNest]) (by simp [AObj.isNest]) (by kernel_rfl) T.mixed fun X hX hP hC aF bY=> ?_)
 repeat' (first|refine Rn.p ?_|(with_reducible apply And.intro)|((first|(refine hK _ ?_;clear hK K)|with_reducible intro K hK|refine Rs.p ?_|((with_reducible first|apply oP|apply oQ);exact rfl));try simp only [go_sem,simprocAttr])|((with_reducible refine oD ?_ ?_);kernel_rfl)|((with_reducible intro h);try simp only [go_sem,simprocAttr] at h)|omega|intro h)
 refine ag (fun k:Nat=>2*k≤l.length+1) (fun k=>⟨[(0, .ref 10000),(2,eN k),(3,eN ((l.length:Int) - 1 - k))], [(10000, .part 3 1 ((kI l k).map rI))]⟩) (fun k=>l.length+1 - k) 0 (by omega) ?_ ?_
 ·refine Le.of ?_ ?_<;>simp [go_sem,simprocAttr,y5]
 rintro k hk
 rcases Nat.lt_or_ge (2*k+1) l.length with hlt|hge
 ·have hb:decide ((k:Int)<(l.length:Int) - 1 - (k:Int))=true:=decide_eq_true (by omega)
  have ht:((l.length:Int) - 1 - (k:Int)).toNat=l.length - 1 - k:=by omega
  repeat' (first|refine Rn.p ?_|(with_reducible apply And.intro)|((first|(refine hK _ ?_;clear hK K)|with_reducible intro K hK|refine Rs.p ?_|((with_reducible first|apply oP|apply oQ);exact rfl));try simp only [go_sem,simprocAttr,hb,ht,cZ,Dt])|((with_reducible refine oD ?_ ?_);kernel_rfl)|((with_reducible intro h);try simp only [go_sem,simprocAttr,hb,ht,cZ,Dt] at h)|omega|intro h)
  refine ⟨k+1,by omega, ?_,by omega⟩
  refine Le.of ?_ ?_<;>simp [go_sem,simprocAttr]
  ·omega
  ·rw [← y6 (by omega),List.map_set,List.map_set]
   simp only [List.getD_eq_getElem?_getD]
 ·have hb:decide ((k:Int)<(l.length:Int) - 1 - (k:Int))=false:=decide_eq_false (by omega)
  repeat' (first|refine Rn.p ?_|(with_reducible apply And.intro)|((first|(refine hK _ ?_;clear hK K)|with_reducible intro K hK|refine Rs.p ?_|((with_reducible first|apply oP|apply oQ);exact rfl));try simp only [go_sem,simprocAttr,hb])|((with_reducible refine oD ?_ ?_);kernel_rfl)|((with_reducible intro h);try simp only [go_sem,simprocAttr,hb] at h)|omega|intro h)
  simp only [go_sem,simprocAttr,hb,By hge]
def gU:List Int→Int
 | []=>0
 |a::r=>r.foldl min a
theorem Bz {l:List Int} {k:Nat} (h0:0<k) (h:k<l.length):gU (l.take (k+1))=min (gU (l.take k)) (l.getD k 0):=by
 cases l with
 |nil=>simp at h
 |cons a r=>
  obtain ⟨k,rfl⟩:∃j,k=j+1:=⟨k - 1,by omega⟩
  simp only [List.length_cons] at h
  simp only [List.take_succ_cons,gU,List.getD_cons_succ]
  rw [List.take_add_one,List.foldl_append,List.getElem?_eq_getElem (by omega),List.getD_eq_getElem?_getD,List.getElem?_eq_getElem (by omega)]
  rfl
theorem DA {l:List Int} (h:0<l.length):gU (l.take 1)=l.getD 0 0:=by
 cases l with
 |nil=>simp at h
 |cons a r=>simp [gU]
theorem jx (l:List Int) (h0:0<l.length) (hl:l.length≤1000000):Spec Tryz.prog 179 (Args [.d (sI l)]) [] (eN (gU l)) []:=by
 (refine Spec.hd (C:=T.cfg [] []) (rs:= [.t 2]) (T.ai _ _) Tryz.func179 rfl rfl Tryz.ntmps179 Tryz.results179 (by simp [AObj.isNest]) (by simp [AObj.isNest]) (by kernel_rfl) T.mixed fun X hX hP hC aF bY=> ?_)
 repeat' (first|refine Rn.p ?_|(with_reducible apply And.intro)|((first|(refine hK _ ?_;clear hK K)|with_reducible intro K hK|refine Rs.p ?_|((with_reducible first|apply oP|apply oQ);exact rfl));try simp only [go_sem,simprocAttr])|((with_reducible refine oD ?_ ?_);kernel_rfl)|((with_reducible intro h);try simp only [go_sem,simprocAttr] at h)|omega|intro h)
 refine ag (fun k:Nat=>0<k∧k≤l.length) (fun k=>⟨[(0, .d (sI l)),(3,eN (gU (l.take k))),(4,eN k)], []⟩) (fun k=>l.length - k) 1 (by omega) ?_ ?_
 ·refine Le.of ?_ ?_<;>simp [go_sem,simprocAttr,DA h0]
 rintro k ⟨EW,hk⟩
 repeat' (first|refine Rn.p ?_|(with_reducible apply And.intro)|((first|(refine hK _ ?_;clear hK K)|with_reducible intro K hK|refine Rs.p ?_|((with_reducible first|apply oP|apply oQ);exact rfl));try simp only [go_sem,simprocAttr])|((with_reducible refine oD ?_ ?_);kernel_rfl)|((with_reducible intro h);try simp only [go_sem,simprocAttr] at h)|omega|intro h)
 ·refine ⟨k+1,by omega, ?_,by omega⟩
  refine Le.of ?_ ?_<;>simp [go_sem,simprocAttr]
  rw [Bz EW (by omega),List.getD_eq_getElem?_getD]
 ·rw [List.take_of_length_le (by omega)]
theorem fA (n:Int) (h0:0<n) (hl:n≤1000000):Spec Tryz.prog 116 (Args [.nil 3,eN n]) [] (.ref 10000) [(10000, .own 3 1 [])]:=by
 (refine Spec.Ky (C:=T.cfg [] []) (rs:= [.t 4]) [(10000,25)] (T.ai _ _) Tryz.func116 rfl rfl Tryz.ntmps116 Tryz.results116 (by simp [AObj.isNest]) (by simp [AObj.isNest]) (by first|(simp [look];done)|(simp [asN];done)|(intro l hl;simp only [asN];repeat (rw [if_neg (fun e=>by subst e;simp [look] at hl)]))) (by first|(simp [look];done)|(simp [asN];done)|(intro l hl;simp only [asN];repeat (rw [if_neg (fun e=>by subst e;simp [look] at hl)]))) (by kernel_rfl) T.mixed fun X hX hP hC aF bY=> ?_)
 repeat' (first|refine Rn.p ?_|(with_reducible apply And.intro)|((first|(refine hK _ ?_;clear hK K)|with_reducible intro K hK|refine Rs.p ?_|((with_reducible first|apply oP|apply oQ);exact rfl));try simp only [go_sem,simprocAttr])|((with_reducible refine oD ?_ ?_);kernel_rfl)|((with_reducible intro h);try simp only [go_sem,simprocAttr] at h)|omega|intro h)
end Go.Ab
end
section
namespace Go.Ab
open Go.Proofs
attribute [local congr] ACall.congr gd.congr Nx.congr
set_option maxRecDepth 10000
def vL (ls:List (List Int)):List (List D):=ls.map fun l=> [sI l]
theorem vL_length {ls:List (List Int)} :(vL ls).length=ls.length:=by simp [vL]
theorem vC {ls:List (List Int)} {k:Nat} (h:k<ls.length) (d:List D):(vL ls).getD k d= [sI (ls.getD k [])]:=by
 simp [vL,List.getD_eq_getElem?_getD,List.getElem?_eq_getElem h]
attribute [go_sem] vL_length
theorem uu {ls:List (List Int)} {k:Nat} (h:k<ls.length):(ls.take (k+1)).flatten=(ls.take k).flatten++ls.getD k []:=by
 rw [List.take_add_one,List.flatten_append,List.getElem?_eq_getElem h,List.getD_eq_getElem?_getD,List.getElem?_eq_getElem h]
 simp
theorem qJ {ls:List (List Int)} {k:Nat} :(ls.take k).flatten.length≤ls.flatten.length:=by
 have:=congrArg (fun x=>x.flatten.length) (List.take_append_drop k ls)
 simp only [List.flatten_append,List.length_append] at this
 omega
theorem fC (ls:List (List Int)) (hn:ls.length≤1000) (h0:0<ls.flatten.length) (hl:ls.flatten.length≤1000000):Spec Tryz.prog 72 (Args [.d (.sl 1 (vL ls))]) [] (.d (sI ls.flatten)) []:=by
 (refine Spec.hd (C:=T.cfg [] []) (rs:= [.t 2]) (T.ai _ _) Tryz.func72 rfl rfl Tryz.ntmps72 Tryz.results72 (by simp [AObj.isNest]) (by simp [AObj.isNest]) (by kernel_rfl) T.mixed fun X hX hP hC aF bY=> ?_)
 repeat' (first|refine Rn.p ?_|(with_reducible apply And.intro)|((first|(refine hK _ ?_;clear hK K)|with_reducible intro K hK|refine Rs.p ?_|((with_reducible first|apply oP|apply oQ);exact rfl)|(refine bN hX hC hP [(10000,33)] (fA (ls.flatten.length:Int) (by omega) (by omega)) rfl rfl rfl ?_ ?_ ?_ ?_ ?_ ?_ ?_ ?_ ?_ ?_ ?_ ?_ ?_ ?_;(focus (simp only [go_sem,simprocAttr];done));(iterate 12 (focus (simp [go_sem,simprocAttr];done)));try simp only [List.map_cons,List.map_nil]));try simp only [go_sem,simprocAttr])|((with_reducible refine oD ?_ ?_);kernel_rfl)|((with_reducible intro h);try simp only [go_sem,simprocAttr] at h)|omega|intro h)
 refine ag (fun k:Nat=>k≤ls.length) (fun k=>⟨[(0, .d (.sl 1 (vL ls))),(9, .d (.sl 1 (vL ls))),(10,eN ls.length),(11,eN k),(3,eN ((ls.take k).flatten.length))], []⟩) (fun k=>ls.length - k) 0 (by omega) ?_ ?_
 ·(refine Le.of ?_ ?_<;>simp [go_sem,simprocAttr])
 ·rintro k hk
  rcases Nat.lt_or_ge k ls.length with hlt|hge
  ·have hb:decide ((k:Int)<(ls.length:Int))=true:=decide_eq_true (by omega)
   have hv:=vC hlt
   have hf:=uu hlt
   have OI:=qJ (ls:=ls) (k:=k)
   have Hg:=qJ (ls:=ls) (k:=k+1)
   rw [hf,List.length_append] at Hg
   have hneg:decide (((ls.take k).flatten.length:Int)+((ls.getD k []).length:Int)<0)=false:=decide_eq_false (by omega)
   repeat' (first|refine Rn.p ?_|(with_reducible apply And.intro)|((first|(refine hK _ ?_;clear hK K)|with_reducible intro K hK|refine Rs.p ?_|((with_reducible first|apply oP|apply oQ);exact rfl)|(refine bN hX hC hP [(10000,33)] (fA (ls.flatten.length:Int) (by omega) (by omega)) rfl rfl rfl ?_ ?_ ?_ ?_ ?_ ?_ ?_ ?_ ?_ ?_ ?_ ?_ ?_ ?_;(focus (simp only [go_sem,simprocAttr,hb,hv,hneg];done));(iterate 12 (focus (simp [go_sem,simprocAttr,hb,hv,hneg];done)));try simp only [List.map_cons,List.map_nil]));try simp only [go_sem,simprocAttr,hb,hv,hneg])|((with_reducible refine oD ?_ ?_);kernel_rfl)|((with_reducible intro h);try simp only [go_sem,simprocAttr,hb,hv,hneg] at h)|omega|intro h)
   refine ⟨k+1,by omega, ?_,by omega⟩
   simp only [hf]
   refine Le.of ?_ ?_<;>simp [go_sem,simprocAttr,hb,hv,hneg]
  ·have hb:decide ((k:Int)<(ls.length:Int))=false:=decide_eq_false (by omega)
   have ht:ls.take k=ls:=List.take_of_length_le (by omega)
   repeat' (first|refine Rn.p ?_|(with_reducible apply And.intro)|((first|(refine hK _ ?_;clear hK K)|with_reducible intro K hK|refine Rs.p ?_|((with_reducible first|apply oP|apply oQ);exact rfl)|(refine bN hX hC hP [(10000,33)] (fA (ls.flatten.length:Int) (by omega) (by omega)) rfl rfl rfl ?_ ?_ ?_ ?_ ?_ ?_ ?_ ?_ ?_ ?_ ?_ ?_ ?_ ?_;(focus (simp only [go_sem,simprocAttr,hb,ht];done));(iterate 12 (focus (simp [go_sem,simprocAttr,hb,ht];done)));try simp only [List.map_cons,List.map_nil]));try simp only [go_sem,simprocAttr,hb,ht])|((with_reducible refine oD ?_ ?_);kernel_rfl)|((with_reducible intro h);try simp only [go_sem,simprocAttr,hb,ht] at h)|omega|intro h)
   refine ag (fun k:Nat=>k≤ls.length) (fun k=>⟨[(25, .d (.sl 1 (vL ls))),(26,eN ls.length),(27,eN k),(6, .ref 33)], [(33, .own 3 1 ((ls.take k).flatten.map rI))]⟩) (fun k=>ls.length - k) 0 (by omega) ?_ ?_
   ·(refine Le.of ?_ ?_<;>simp [go_sem,simprocAttr,hb,ht])
   ·clear hb ht hk hge
    rintro k hk
    rcases Nat.lt_or_ge k ls.length with hlt|hge
    ·have hb:decide ((k:Int)<(ls.length:Int))=true:=decide_eq_true (by omega)
     have hv:=vC hlt
     have hf:=uu hlt
     have OI:=qJ (ls:=ls) (k:=k)
     have Hg:=qJ (ls:=ls) (k:=k+1)
     rw [hf,List.length_append] at Hg
     repeat' (first|refine Rn.p ?_|(with_reducible apply And.intro)|((first|(refine hK _ ?_;clear hK K)|with_reducible intro K hK|refine Rs.p ?_|((with_reducible first|apply oP|apply oQ);exact rfl)|(refine bN hX hC hP [(10000,33)] (fA (ls.flatten.length:Int) (by omega) (by omega)) rfl rfl rfl ?_ ?_ ?_ ?_ ?_ ?_ ?_ ?_ ?_ ?_ ?_ ?_ ?_ ?_;(focus (simp only [go_sem,simprocAttr,hb,hv];done));(iterate 12 (focus (simp [go_sem,simprocAttr,hb,hv];done)));try simp only [List.map_cons,List.map_nil]));try simp only [go_sem,simprocAttr,hb,hv])|((with_reducible refine oD ?_ ?_);kernel_rfl)|((with_reducible intro h);try simp only [go_sem,simprocAttr,hb,hv] at h)|omega|intro h)
     refine ⟨k+1,by omega, ?_,by omega⟩
     simp only [hf]
     refine Le.of ?_ ?_<;>simp [go_sem,simprocAttr,hb,hv]
    ·have hb:decide ((k:Int)<(ls.length:Int))=false:=decide_eq_false (by omega)
     have ht:ls.take k=ls:=List.take_of_length_le (by omega)
     repeat' (first|refine Rn.p ?_|(with_reducible apply And.intro)|((first|(refine hK _ ?_;clear hK K)|with_reducible intro K hK|refine Rs.p ?_|((with_reducible first|apply oP|apply oQ);exact rfl)|(refine bN hX hC hP [(10000,33)] (fA (ls.flatten.length:Int) (by omega) (by omega)) rfl rfl rfl ?_ ?_ ?_ ?_ ?_ ?_ ?_ ?_ ?_ ?_ ?_ ?_ ?_ ?_;(focus (simp only [go_sem,simprocAttr,hb,ht];done));(iterate 12 (focus (simp [go_sem,simprocAttr,hb,ht];done)));try simp only [List.map_cons,List.map_nil]));try simp only [go_sem,simprocAttr,hb,ht])|((with_reducible refine oD ?_ ?_);kernel_rfl)|((with_reducible intro h);try simp only [go_sem,simprocAttr,hb,ht] at h)|omega|intro h)
def iY (ls:List (List Int)) (k:Nat):List Int:=((List.range k).filter fun x=>decide ((ls.getD x []).length=0)).map Int.ofNat
theorem nk {ls:List (List Int)} {k:Nat} :iY ls (k+1)=iY ls k++if (ls.getD k []).length=0 then [(k:Int)] else []:=by
 simp only [iY,List.range_succ,List.filter_append,List.map_append,List.filter_cons,List.filter_nil]
 split<;>simp_all
theorem uv {ls:List (List Int)} {k:Nat} :(iY ls k).length≤k:=by
 simpa [iY] using List.length_filter_le (fun x=>decide ((ls.getD x []).length=0)) (List.range k)
theorem BA (ls:List (List Int)) (hn:ls.length≤1000):Spec Tryz.prog 115 (Args [.d (.sl 1 (vL ls))]) [] (.d (sI (iY ls ls.length))) []:=by
 (refine Spec.hd (C:=T.cfg [] []) (rs:= [.t 2]) (T.ai _ _) Tryz.func115 rfl rfl Tryz.ntmps115 Tryz.results115 (by simp [AObj.isNest]) (by simp [AObj.isNest]) (by kernel_rfl) T.mixed fun X hX hP hC aF bY=> ?_)
 repeat' (first|refine Rn.p ?_|(with_reducible apply And.intro)|((first|(refine hK _ ?_;clear hK K)|with_reducible intro K hK|refine Rs.p ?_|((with_reducible first|apply oP|apply oQ);exact rfl)|(refine bN hX hC hP [(10000,33)] (fA (ls.flatten.length:Int) (by omega) (by omega)) rfl rfl rfl ?_ ?_ ?_ ?_ ?_ ?_ ?_ ?_ ?_ ?_ ?_ ?_ ?_ ?_;(focus (simp only [go_sem,simprocAttr];done));(iterate 12 (focus (simp [go_sem,simprocAttr];done)));try simp only [List.map_cons,List.map_nil]));try simp only [go_sem,simprocAttr])|((with_reducible refine oD ?_ ?_);kernel_rfl)|((with_reducible intro h);try simp only [go_sem,simprocAttr] at h)|omega|intro h)
 (refine j5 hX 2 18 (.tip 3 1 []) (by simp only [go_sem,simprocAttr]) (by simp only [go_sem,simprocAttr]) (by decide) ⟨3,1,by decide, .inr rfl⟩ ?_;simp only [go_sem,simprocAttr])
 refine ag (fun k:Nat=>k≤ls.length) (fun k=>⟨[(5, .d (.sl 1 (vL ls))),(6,eN ls.length),(7,eN k),(2, .ref 18)], [(18, .tip 3 1 ((iY ls k).map rI))]⟩) (fun k=>ls.length - k) 0 (by omega) ?_ ?_
 ·refine Le.of ?_ ?_<;>simp [go_sem,simprocAttr,iY]
 ·rintro k hk
  rcases Nat.lt_or_ge k ls.length with hlt|hge
  ·have hb:decide ((k:Int)<(ls.length:Int))=true:=decide_eq_true (by omega)
   have hv:=vC hlt
   have hlen:=uv (ls:=ls) (k:=k)
   repeat' (first|refine Rn.p ?_|(with_reducible apply And.intro)|((first|(refine hK _ ?_;clear hK K)|with_reducible intro K hK|refine Rs.p ?_|((with_reducible first|apply oP|apply oQ);exact rfl)|(refine bN hX hC hP [(10000,33)] (fA (ls.flatten.length:Int) (by omega) (by omega)) rfl rfl rfl ?_ ?_ ?_ ?_ ?_ ?_ ?_ ?_ ?_ ?_ ?_ ?_ ?_ ?_;(focus (simp only [go_sem,simprocAttr,hb,hv];done));(iterate 12 (focus (simp [go_sem,simprocAttr,hb,hv];done)));try simp only [List.map_cons,List.map_nil]));try simp only [go_sem,simprocAttr,hb,hv])|((with_reducible refine oD ?_ ?_);kernel_rfl)|((with_reducible intro h);try simp only [go_sem,simprocAttr,hb,hv] at h)|omega|intro h)
   ·refine ⟨k+1,by omega, ?_,by omega⟩
    rw [nk,if_pos (by omega)]
    refine Le.of ?_ ?_<;>simp [go_sem,simprocAttr,hb,hv]
    rfl
   ·refine ⟨k+1,by omega, ?_,by omega⟩
    rw [nk,if_neg (by omega),List.append_nil]
    refine Le.of ?_ ?_<;>simp [go_sem,simprocAttr,hb,hv]
  ·have hb:decide ((k:Int)<(ls.length:Int))=false:=decide_eq_false (by omega)
   obtain rfl:k=ls.length:=by omega
   repeat' (first|refine Rn.p ?_|(with_reducible apply And.intro)|((first|(refine hK _ ?_;clear hK K)|with_reducible intro K hK|refine Rs.p ?_|((with_reducible first|apply oP|apply oQ);exact rfl)|(refine bN hX hC hP [(10000,33)] (fA (ls.flatten.length:Int) (by omega) (by omega)) rfl rfl rfl ?_ ?_ ?_ ?_ ?_ ?_ ?_ ?_ ?_ ?_ ?_ ?_ ?_ ?_;(focus (simp only [go_sem,simprocAttr,hb];done));(iterate 12 (focus (simp [go_sem,simprocAttr,hb];done)));try simp only [List.map_cons,List.map_nil]));try simp only [go_sem,simprocAttr,hb])|((with_reducible refine oD ?_ ?_);kernel_rfl)|((with_reducible intro h);try simp only [go_sem,simprocAttr,hb] at h)|omega|intro h)
theorem Hh {f:Edge→Int} {g:Gr} :FB f g=vL (dY f g):=rfl
theorem ot {f:Edge→Int} {g:Gr} :(dY f g).length=g.n.toNat:=by simp [dY]
def dz (f:Edge→Int) (g:Gr):List Int:=iY (dY f g) g.n.toNat
theorem fL (g:Gr) (hm:aY g=true):Spec Tryz.prog 68 (Args [.d (vw g)]) [] (.d (sI (dz (·.2) g))) []:=by
 rw [fJ]
 have hn:=bM hm
 have hle:(dY (·.2) g).length≤1000:=by rw [ot];omega
 (refine Spec.hd (C:=T.cfg [] []) (rs:= [.t 2]) (T.ai _ _) Tryz.func68 rfl rfl Tryz.ntmps68 Tryz.results68 (by simp [AObj.isNest]) (by simp [AObj.isNest]) (by kernel_rfl) T.mixed fun X hX hP hC aF bY=> ?_)
 repeat' (first|refine Rn.p ?_|(with_reducible apply And.intro)|((first|(refine hK _ ?_;clear hK K)|with_reducible intro K hK|refine Rs.p ?_|((with_reducible first|apply oP|apply oQ);exact rfl)|(rw [Hh];refine aa hX hC hP (BA (dY (·.2) g) hle) rfl rfl rfl (by simp only [go_sem,simprocAttr]) rfl ?_));try simp only [go_sem,simprocAttr])|((with_reducible refine oD ?_ ?_);kernel_rfl)|((with_reducible intro h);try simp only [go_sem,simprocAttr] at h)|omega|intro h)
 rw [ot];rfl
end Go.Ab
end
section
namespace Go.Ab
open Go.Proofs
attribute [local congr] ACall.congr gd.congr Nx.congr
set_option maxRecDepth 10000
def fD (g:Gr) (ws:List Int) (b:Int) (e:Int):Int:=if 0<ws.getD (tl g e.toNat).toNat 0∧(b<0∨tl g e.toNat<b) then tl g e.toNat else b
theorem DB (g:Gr) (ws:List Int) (b:Int) (i:Nat):fD g ws b (i:Int)=if 0<ws.getD (g.es.getD i (0,0)).1.toNat 0∧(b<0∨(g.es.getD i (0,0)).1<b) then (g.es.getD i (0,0)).1 else b:=rfl
def uw (g:Gr) (ws:List Int) (es:List Int):Int:=es.foldl (fD g ws) (-1)
def iZ (g:Gr) (ws:List Int) (at_:Int):Int:=uw g ws (kS g at_.toNat)
def j9 (g:Gr) (ws:List Int):Nat→List Int→Int→List Int × Int
 |0,way,at_=>(way,at_)
 |f+1,way,at_=>if at_<0∨at_∈way then (way,at_) else j9 g ws f (way++ [at_]) (iZ g ws at_)
def jy (g:Gr):List Int × Int:=j9 g (cH g (aL g)) g.n.toNat [] (bR (fun n=>decide (0<n)) (cH g (aL g)))
def kJ (l:List Int):List Int:=l.drop (fc l (gU l)).toNat++l.take (fc l (gU l)).toNat
def jA (g:Gr):List Int:=if (jy g).2<0 then [] else kJ ((jy g).1.drop (fc (jy g).1 (jy g).2).toNat).reverse
theorem hU (n:Int):Spec Tryz.prog 178 (Args [eN n]) [] (eB (decide (0<n))) []:=by
 (refine Spec.hd (C:=T.cfg [] []) (rs:= [.t 2]) (T.ai _ _) Tryz.func178 rfl rfl Tryz.ntmps178 Tryz.results178 (by simp [AObj.isNest]) (by simp [AObj.isNest]) (by kernel_rfl) T.mixed fun X hX hP hC aF bY=> ?_)
 repeat' (first|refine Rn.p ?_|(with_reducible apply And.intro)|((first|(refine hK _ ?_;clear hK K)|with_reducible intro K hK|refine Rs.p ?_|((with_reducible first|apply oP|apply oQ);exact rfl));try simp only [go_sem,simprocAttr])|((with_reducible refine oD ?_ ?_);kernel_rfl)|((with_reducible intro h);try simp only [go_sem,simprocAttr] at h)|omega|intro h)
structure Way (g:Gr) (way:List Int):Prop where
 lo:∀x∈way,0≤x∧x<g.n
 fuel:way.length+left g way=g.n.toNat
theorem ou {g:Gr} :left g []=g.n.toNat:=by
 have:=(eO.nil g).fuel
 rw [List.length_nil,Nat.zero_add] at this
 exact this
theorem iB {g:Gr} {way:List Int} {a:Nat} (ha:a<g.n.toNat) (hn:(a:Int)∉way):left g way=left g (way++ [(a:Int)])+1:=by
 unfold left
 rw [← lD (p:=fun y:Nat=> !decide ((y:Int)∈way)) (x:=a) (by simp [hn]) ha]
 congr 1
 refine List.countP_congr fun y _=> ?_
 simp;omega
theorem Way.nil (g:Gr):Way g []:=⟨by simp,by rw [ou];simp⟩
theorem Way.next {g:Gr} {way:List Int} {a:Nat} (h:Way g way) (ha:a<g.n.toNat) (hn:(a:Int)∉way):Way g (way++ [(a:Int)]):=by
 refine ⟨fun x hx=> ?_, ?_⟩
 ·rcases List.mem_append.1 hx with hx|hx
  ·exact h.lo x hx
  ·simp at hx;omega
 ·have h1:=h.fuel
  have h2:=iB ha hn
  rw [List.length_append,List.length_singleton];omega
theorem vD {g:Gr} {x:Nat} {e:Int} (h:e∈kS g x):∃i:Nat,e=i∧i<g.es.length∧hd g i=x:=by
 simp only [kS,fz,List.mem_map,List.mem_filter,List.mem_range,decide_eq_true_eq] at h
 obtain ⟨i,⟨h1,h2⟩,rfl⟩:=h
 exact ⟨i,rfl,h1,h2⟩
theorem BB {α β:Type} {f:β→α→β} {b:β} {l:List α} {j:Nat} {x:α} (h:l[j]? =some x):(l.take (j+1)).foldl f b=f ((l.take j).foldl f b) x:=by
 rw [List.take_add_one,List.foldl_append,h];rfl
theorem qi {g:Gr} (hm:aY g=true) (ws:List Int):∀(l:List Int) (b:Int),(b= -1∨(0≤b∧b<g.n))→(∀e∈l,∃i:Nat,e=i∧i<g.es.length)→l.foldl (fD g ws) b= -1∨(0≤l.foldl (fD g ws) b∧l.foldl (fD g ws) b<g.n)
 | [],b,hb,_=>hb
 |e::l,b,hb,h=>by
  refine qi hm ws l _ ?_ fun e he=>h e (List.mem_cons_of_mem _ he)
  obtain ⟨i,rfl,hi⟩:=h e List.mem_cons_self
  obtain ⟨⟨h1,h2⟩,_⟩:=dZ hm hi
  unfold fD
  split
  ·exact .inr ⟨h1,h2⟩
  ·exact hb
theorem DC {g:Gr} {x:Nat} :∀e∈kS g x,∃i:Nat,e=i∧i<g.es.length:=fun e he=>by
 obtain ⟨i,h1,h2,_⟩:=vD he;exact ⟨i,h1,h2⟩
theorem jB {g:Gr} {ws way:List Int} {a:Int} (h:a<0∨a∈way):∀f,j9 g ws f way a=(way,a)
 |0=>rfl
 |f+1=>by simp only [j9];rw [if_pos h]
theorem dN {l:List Int} {x:Int} (h:x∈l):∃k:Nat,fc l x=k∧k<l.length∧l.getD k 0=x:=by
 rcases fe (f:=fun y:Int=>decide (x=y)) (l:=l) 0 with ⟨h1,h2⟩|⟨k,h1,h2,h3,_⟩
 ·exact absurd (h2 x h) (by simp)
 ·exact ⟨k,h1,h2,(of_decide_eq_true h3).symm⟩
theorem iC:∀ {l:List Int},0<l.length→gU l∈l
 |a::r,_=>by
  have:∀(r:List Int) (a:Int),r.foldl min a=a∨r.foldl min a∈r:=by
   intro r
   induction r with
   |nil=>intro a;exact .inl rfl
   |cons b r ih=>
    intro a
    simp only [List.foldl_cons]
    rcases ih (min a b) with h|h
    ·by_cases hab:a≤b
     ·left;rw [h];omega
     ·right;rw [h];simp;omega
    ·right;simp [h]
  rcases this r a with h|h
  ·simp [gU,h]
  ·simp [gU,h]
theorem iD (g:Gr) (hm:aY g=true):Spec Tryz.prog 133 (Args [.d (vw g)]) [] (.d (sI (jA g))) []:=by
 have hn:=bM hm
 have Ap:(cH g (aL g)).length≤9223372036854775807:=by rw [wts_length];omega
 (refine Spec.hd (C:=T.cfg [30] []) (rs:= [.t 2]) (T.ai _ _) Tryz.func133 rfl rfl Tryz.ntmps133 Tryz.results133 (by simp [AObj.isNest]) (by simp [AObj.isNest]) (by kernel_rfl) T.mixed fun X hX hP hC aF bY=> ?_)
 repeat' (first|refine Rn.p ?_|(with_reducible apply And.intro)|((first|(refine hK _ ?_;clear hK K)|with_reducible intro K hK|refine Rs.p ?_|((with_reducible first|apply oP|apply oQ);exact rfl)|refine aa hX hC hP (jv g hm) rfl rfl rfl (by simp only [go_sem,simprocAttr]) rfl ?_|refine aa hX hC hP (cT aI.nil _ [] _ hU (cH g (aL g)) Ap) rfl rfl rfl (by simp only [go_sem,simprocAttr]) rfl ?_|(refine ah hX hC hP (dy way a bX) rfl rfl rfl ?_ ?_ ?_ ?_;iterate 3 (focus (simp only [go_sem,simprocAttr];done)))|(refine ah hX hC hP (aP way a bX) rfl rfl rfl ?_ ?_ ?_ ?_;iterate 3 (focus (simp only [go_sem,simprocAttr];done)))|(refine bN hX hC hP [(10000,75)] (ez (way.drop k) hlr) rfl rfl rfl ?_ ?_ ?_ ?_ ?_ ?_ ?_ ?_ ?_ ?_ ?_ ?_ ?_ ?_;(focus (simp only [go_sem,simprocAttr];done));(iterate 12 (focus (simp [go_sem,simprocAttr];done)));try simp only [List.map_cons,List.map_nil])|(refine ah hX hC hP (jx rev sq hrev) rfl rfl rfl ?_ ?_ ?_ ?_;iterate 3 (focus (simp only [go_sem,simprocAttr];done)))|(refine ah hX hC hP (aP rev (gU rev) uz) rfl rfl rfl ?_ ?_ ?_ ?_;iterate 3 (focus (simp only [go_sem,simprocAttr];done)))|(refine an hX hC hP (fC [rev.drop k2,rev.take k2] hc1 Ii Ij) rfl rfl rfl ?_ ?_ rfl ?_;iterate 2 (focus (simp only [go_sem,simprocAttr];done))));try simp only [go_sem,simprocAttr])|((with_reducible refine oD ?_ ?_);kernel_rfl)|((with_reducible intro h);try simp only [go_sem,simprocAttr] at h)|omega|intro h)
 (refine j5 hX 6 30 (.own 3 1 []) (by simp only [go_sem,simprocAttr]) (by simp only [go_sem,simprocAttr]) (by decide) ⟨3,1,by decide, .inl rfl⟩ ?_;simp only [go_sem,simprocAttr])
 refine ag (fun i:List Int × Int=>Way g i.1∧(i.2= -1∨(0≤i.2∧i.2<g.n))∧j9 g (cH g (aL g)) (left g i.1) i.1 i.2=jy g) (fun i=>⟨[(0, .d (vw g)),(4, .d (sI (cH g (aL g)))),(5,eN i.2),(6, .ref 30)], [(30, .own 3 1 (i.1.map rI))]⟩) (fun i=>left g i.1) ([],bR (fun n=>decide (0<n)) (cH g (aL g))) ⟨Way.nil g, ?_, ?_⟩ ?_ ?_
 ·rcases xH (fun n:Int=>decide (0<n)) (cH g (aL g)) with h|h
  ·exact .inl h
  ·rw [wts_length] at h;exact .inr (by simp only;omega)
 ·rw [ou];rfl
 ·(refine Le.of ?_ ?_<;>simp [go_sem,simprocAttr])
 rintro ⟨way,at_⟩ ⟨xM,Mp,hrun⟩
 simp only at xM Mp hrun ⊢
 have OJ:way.length≤64:=by have:=xM.fuel;omega
 have bX:way.length≤9223372036854775807:=by omega
 by_cases h0:at_<0
 ·have aJ:decide (0≤at_)=false:=decide_eq_false (by omega)
  have cQ:decide (at_<0)=true:=decide_eq_true h0
  have he:jA g= []:=by
   have:=jB (g:=g) (ws:=cH g (aL g)) (way:=way) (.inl h0) (left g way)
   rw [hrun] at this
   simp only [jA,this];rw [if_pos h0]
  repeat' (first|refine Rn.p ?_|(with_reducible apply And.intro)|((first|(refine hK _ ?_;clear hK K)|with_reducible intro K hK|refine Rs.p ?_|((with_reducible first|apply oP|apply oQ);exact rfl)|refine aa hX hC hP (jv g hm) rfl rfl rfl (by simp only [go_sem,simprocAttr,aJ,cQ]) rfl ?_|refine aa hX hC hP (cT aI.nil _ [] _ hU (cH g (aL g)) Ap) rfl rfl rfl (by simp only [go_sem,simprocAttr,aJ,cQ]) rfl ?_|(refine ah hX hC hP (dy way a bX) rfl rfl rfl ?_ ?_ ?_ ?_;iterate 3 (focus (simp only [go_sem,simprocAttr,aJ,cQ];done)))|(refine ah hX hC hP (aP way a bX) rfl rfl rfl ?_ ?_ ?_ ?_;iterate 3 (focus (simp only [go_sem,simprocAttr,aJ,cQ];done)))|(refine bN hX hC hP [(10000,75)] (ez (way.drop k) hlr) rfl rfl rfl ?_ ?_ ?_ ?_ ?_ ?_ ?_ ?_ ?_ ?_ ?_ ?_ ?_ ?_;(focus (simp only [go_sem,simprocAttr,aJ,cQ];done));(iterate 12 (focus (simp [go_sem,simprocAttr,aJ,cQ];done)));try simp only [List.map_cons,List.map_nil])|(refine ah hX hC hP (jx rev sq hrev) rfl rfl rfl ?_ ?_ ?_ ?_;iterate 3 (focus (simp only [go_sem,simprocAttr,aJ,cQ];done)))|(refine ah hX hC hP (aP rev (gU rev) uz) rfl rfl rfl ?_ ?_ ?_ ?_;iterate 3 (focus (simp only [go_sem,simprocAttr,aJ,cQ];done)))|(refine an hX hC hP (fC [rev.drop k2,rev.take k2] hc1 Ii Ij) rfl rfl rfl ?_ ?_ rfl ?_;iterate 2 (focus (simp only [go_sem,simprocAttr,aJ,cQ];done))));try simp only [go_sem,simprocAttr,aJ,cQ])|((with_reducible refine oD ?_ ?_);kernel_rfl)|((with_reducible intro h);try simp only [go_sem,simprocAttr,aJ,cQ] at h)|omega|intro h)
  rw [he];rfl
 obtain ⟨a,rfl⟩:∃a:Nat,at_=a:=⟨at_.toNat,by omega⟩
 have Gm:a<g.n.toNat:=by omega
 have aJ:decide (0≤(a:Int))=true:=decide_eq_true (by omega)
 by_cases hmem:(a:Int)∈way
 ·have aK:decide ((a:Int)∈way)=true:=decide_eq_true hmem
  have cQ:decide ((a:Int)<0)=false:=decide_eq_false h0
  have hend:=jB (g:=g) (ws:=cH g (aL g)) (.inr hmem) (left g way)
  rw [hrun] at hend
  obtain ⟨k,hk,cq,_⟩:=dN hmem
  obtain ⟨rev,ja⟩:∃rev,rev=(way.drop k).reverse:=⟨_,rfl⟩
  have hrl:rev.length=way.length - k:=by rw [ja];simp
  have sq:0<rev.length:=by omega
  have hrev:rev.length≤1000000:=by omega
  have uz:rev.length≤9223372036854775807:=by omega
  have hlr:(way.drop k).length≤1000000:=by simp;omega
  obtain ⟨k2,hk2,OK,_⟩:=dN (iC sq)
  have hc1: [rev.drop k2,rev.take k2].length≤1000:=by simp
  have Ii:0< [rev.drop k2,rev.take k2].flatten.length:=by simp;omega
  have Ij: [rev.drop k2,rev.take k2].flatten.length≤1000000:=by simp;omega
  have Hj:jA g= [rev.drop k2,rev.take k2].flatten:=by
   simp only [jA,hend]
   rw [if_neg h0,hk]
   simp only [Int.toNat_natCast, ← ja,kJ,hk2,List.flatten_cons,List.flatten_nil,List.append_nil]
  repeat' (first|(show cG _ (.seq (.region 20 _ _) _) _ _;(refine dg hX 75 rfl (.inr rfl) ?_;simp only [go_sem,simprocAttr,aJ,aK,cQ,hk,hk2, ← List.map_take, ← List.map_drop,List.take_length, ← ja,vL]))|refine Rn.p ?_|(with_reducible apply And.intro)|((first|(refine hK _ ?_;clear hK K)|with_reducible intro K hK|refine Rs.p ?_|((with_reducible first|apply oP|apply oQ);exact rfl)|refine aa hX hC hP (jv g hm) rfl rfl rfl (by simp only [go_sem,simprocAttr,aJ,aK,cQ,hk,hk2, ← List.map_take, ← List.map_drop,List.take_length, ← ja,vL]) rfl ?_|refine aa hX hC hP (cT aI.nil _ [] _ hU (cH g (aL g)) Ap) rfl rfl rfl (by simp only [go_sem,simprocAttr,aJ,aK,cQ,hk,hk2, ← List.map_take, ← List.map_drop,List.take_length, ← ja,vL]) rfl ?_|(refine ah hX hC hP (dy way a bX) rfl rfl rfl ?_ ?_ ?_ ?_;iterate 3 (focus (simp only [go_sem,simprocAttr,aJ,aK,cQ,hk,hk2, ← List.map_take, ← List.map_drop,List.take_length, ← ja,vL];done)))|(refine ah hX hC hP (aP way a bX) rfl rfl rfl ?_ ?_ ?_ ?_;iterate 3 (focus (simp only [go_sem,simprocAttr,aJ,aK,cQ,hk,hk2, ← List.map_take, ← List.map_drop,List.take_length, ← ja,vL];done)))|(refine bN hX hC hP [(10000,75)] (ez (way.drop k) hlr) rfl rfl rfl ?_ ?_ ?_ ?_ ?_ ?_ ?_ ?_ ?_ ?_ ?_ ?_ ?_ ?_;(focus (simp only [go_sem,simprocAttr,aJ,aK,cQ,hk,hk2, ← List.map_take, ← List.map_drop,List.take_length, ← ja,vL];done));(iterate 12 (focus (simp [go_sem,simprocAttr,aJ,aK,cQ,hk,hk2, ← List.map_take, ← List.map_drop,List.take_length, ← ja,vL];done)));try simp only [List.map_cons,List.map_nil])|(refine ah hX hC hP (jx rev sq hrev) rfl rfl rfl ?_ ?_ ?_ ?_;iterate 3 (focus (simp only [go_sem,simprocAttr,aJ,aK,cQ,hk,hk2, ← List.map_take, ← List.map_drop,List.take_length, ← ja,vL];done)))|(refine ah hX hC hP (aP rev (gU rev) uz) rfl rfl rfl ?_ ?_ ?_ ?_;iterate 3 (focus (simp only [go_sem,simprocAttr,aJ,aK,cQ,hk,hk2, ← List.map_take, ← List.map_drop,List.take_length, ← ja,vL];done)))|(refine an hX hC hP (fC [rev.drop k2,rev.take k2] hc1 Ii Ij) rfl rfl rfl ?_ ?_ rfl ?_;iterate 2 (focus (simp only [go_sem,simprocAttr,aJ,aK,cQ,hk,hk2, ← List.map_take, ← List.map_drop,List.take_length, ← ja,vL];done))));try simp only [go_sem,simprocAttr,aJ,aK,cQ,hk,hk2, ← List.map_take, ← List.map_drop,List.take_length, ← ja,vL])|((with_reducible refine oD ?_ ?_);kernel_rfl)|((with_reducible intro h);try simp only [go_sem,simprocAttr,aJ,aK,cQ,hk,hk2, ← List.map_take, ← List.map_drop,List.take_length, ← ja,vL] at h)|omega|intro h)
  rw [Hj]
 ·have aK:decide ((a:Int)∈way)=false:=decide_eq_false hmem
  have hv:=oq (f:=(·.2)) Gm
  have Mn:(kS g a).length≤g.es.length:=gZ
  repeat' (first|refine Rn.p ?_|(with_reducible apply And.intro)|((first|(refine hK _ ?_;clear hK K)|with_reducible intro K hK|refine Rs.p ?_|((with_reducible first|apply oP|apply oQ);exact rfl)|refine aa hX hC hP (jv g hm) rfl rfl rfl (by simp only [go_sem,simprocAttr,aJ,aK,hv,fJ]) rfl ?_|refine aa hX hC hP (cT aI.nil _ [] _ hU (cH g (aL g)) Ap) rfl rfl rfl (by simp only [go_sem,simprocAttr,aJ,aK,hv,fJ]) rfl ?_|(refine ah hX hC hP (dy way a bX) rfl rfl rfl ?_ ?_ ?_ ?_;iterate 3 (focus (simp only [go_sem,simprocAttr,aJ,aK,hv,fJ];done)))|(refine ah hX hC hP (aP way a bX) rfl rfl rfl ?_ ?_ ?_ ?_;iterate 3 (focus (simp only [go_sem,simprocAttr,aJ,aK,hv,fJ];done)))|(refine bN hX hC hP [(10000,75)] (ez (way.drop k) hlr) rfl rfl rfl ?_ ?_ ?_ ?_ ?_ ?_ ?_ ?_ ?_ ?_ ?_ ?_ ?_ ?_;(focus (simp only [go_sem,simprocAttr,aJ,aK,hv,fJ];done));(iterate 12 (focus (simp [go_sem,simprocAttr,aJ,aK,hv,fJ];done)));try simp only [List.map_cons,List.map_nil])|(refine ah hX hC hP (jx rev sq hrev) rfl rfl rfl ?_ ?_ ?_ ?_;iterate 3 (focus (simp only [go_sem,simprocAttr,aJ,aK,hv,fJ];done)))|(refine ah hX hC hP (aP rev (gU rev) uz) rfl rfl rfl ?_ ?_ ?_ ?_;iterate 3 (focus (simp only [go_sem,simprocAttr,aJ,aK,hv,fJ];done)))|(refine an hX hC hP (fC [rev.drop k2,rev.take k2] hc1 Ii Ij) rfl rfl rfl ?_ ?_ rfl ?_;iterate 2 (focus (simp only [go_sem,simprocAttr,aJ,aK,hv,fJ];done))));try simp only [go_sem,simprocAttr,aJ,aK,hv,fJ])|((with_reducible refine oD ?_ ?_);kernel_rfl)|((with_reducible intro h);try simp only [go_sem,simprocAttr,aJ,aK,hv,fJ] at h)|omega|intro h)
  refine ag (fun j:Nat=>j≤(kS g a).length) (fun j=>⟨[(39,eN j),(38,eN (kS g a).length),(37, .d (sI (kS g a))),(7,eN (uw g (cH g (aL g)) ((kS g a).take j))),(0, .d (Ih g)),(4, .d (sI (cH g (aL g)))),(6, .ref 30)], [(30, .own 3 1 ((way++ [(a:Int)]).map rI))]⟩) (fun j=>(kS g a).length - j) 0 (by simp) ?_ ?_
  ·refine Le.of ?_ ?_<;>simp [go_sem,simprocAttr,aJ,aK,hv,fJ,kS,rI,uw]
  rintro j hj
  rcases Nat.lt_or_ge j (kS g a).length with hlt|hge
  ·have hb4:decide ((j:Int)<((kS g a).length:Int))=true:=decide_eq_true (by omega)
   obtain ⟨i,hi,hil,hit⟩:=vD (List.getElem_mem hlt)
   have hi1:(kS g a)[j]? =some (i:Int):=by rw [List.getElem?_eq_getElem hlt,hi]
   have hi2:(kS g a).getD j 0=(i:Int):=by rw [List.getD_eq_getElem?_getD,hi1];rfl
   obtain ⟨⟨Dz,pg⟩,_⟩:=dZ hm hil
   have hstep:uw g (cH g (aL g)) ((kS g a).take (j+1))=fD g (cH g (aL g)) (uw g (cH g (aL g)) ((kS g a).take j)) i:=BB hi1
   rw [DB] at hstep
   repeat' (first|refine Rn.p ?_|(with_reducible apply And.intro)|((first|(refine hK _ ?_;clear hK K)|with_reducible intro K hK|refine Rs.p ?_|((with_reducible first|apply oP|apply oQ);exact rfl)|refine aa hX hC hP (jv g hm) rfl rfl rfl (by simp only [go_sem,simprocAttr,hb4,hi2,wts_length]) rfl ?_|refine aa hX hC hP (cT aI.nil _ [] _ hU (cH g (aL g)) Ap) rfl rfl rfl (by simp only [go_sem,simprocAttr,hb4,hi2,wts_length]) rfl ?_|(refine ah hX hC hP (dy way a bX) rfl rfl rfl ?_ ?_ ?_ ?_;iterate 3 (focus (simp only [go_sem,simprocAttr,hb4,hi2,wts_length];done)))|(refine ah hX hC hP (aP way a bX) rfl rfl rfl ?_ ?_ ?_ ?_;iterate 3 (focus (simp only [go_sem,simprocAttr,hb4,hi2,wts_length];done)))|(refine bN hX hC hP [(10000,75)] (ez (way.drop k) hlr) rfl rfl rfl ?_ ?_ ?_ ?_ ?_ ?_ ?_ ?_ ?_ ?_ ?_ ?_ ?_ ?_;(focus (simp only [go_sem,simprocAttr,hb4,hi2,wts_length];done));(iterate 12 (focus (simp [go_sem,simprocAttr,hb4,hi2,wts_length];done)));try simp only [List.map_cons,List.map_nil])|(refine ah hX hC hP (jx rev sq hrev) rfl rfl rfl ?_ ?_ ?_ ?_;iterate 3 (focus (simp only [go_sem,simprocAttr,hb4,hi2,wts_length];done)))|(refine ah hX hC hP (aP rev (gU rev) uz) rfl rfl rfl ?_ ?_ ?_ ?_;iterate 3 (focus (simp only [go_sem,simprocAttr,hb4,hi2,wts_length];done)))|(refine an hX hC hP (fC [rev.drop k2,rev.take k2] hc1 Ii Ij) rfl rfl rfl ?_ ?_ rfl ?_;iterate 2 (focus (simp only [go_sem,simprocAttr,hb4,hi2,wts_length];done))));try simp only [go_sem,simprocAttr,hb4,hi2,wts_length])|((with_reducible refine oD ?_ ?_);kernel_rfl)|((with_reducible intro h);try simp only [go_sem,simprocAttr,hb4,hi2,wts_length] at h)|omega|intro h)
   all_goals (refine ⟨j+1,by omega, ?_,by omega⟩;first|rw [if_pos (by omega)] at hstep|rw [if_neg (by omega)] at hstep)
   all_goals (refine Le.of ?_ ?_<;>simp [go_sem,simprocAttr,hb4,hi2,wts_length,hstep])
  ·have hb4:decide ((j:Int)<((kS g a).length:Int))=false:=decide_eq_false (by omega)
   have ht:(kS g a).take j=kS g a:=List.take_of_length_le (by omega)
   repeat' (first|refine Rn.p ?_|(with_reducible apply And.intro)|((first|(refine hK _ ?_;clear hK K)|with_reducible intro K hK|refine Rs.p ?_|((with_reducible first|apply oP|apply oQ);exact rfl)|refine aa hX hC hP (jv g hm) rfl rfl rfl (by simp only [go_sem,simprocAttr,hb4,ht]) rfl ?_|refine aa hX hC hP (cT aI.nil _ [] _ hU (cH g (aL g)) Ap) rfl rfl rfl (by simp only [go_sem,simprocAttr,hb4,ht]) rfl ?_|(refine ah hX hC hP (dy way a bX) rfl rfl rfl ?_ ?_ ?_ ?_;iterate 3 (focus (simp only [go_sem,simprocAttr,hb4,ht];done)))|(refine ah hX hC hP (aP way a bX) rfl rfl rfl ?_ ?_ ?_ ?_;iterate 3 (focus (simp only [go_sem,simprocAttr,hb4,ht];done)))|(refine bN hX hC hP [(10000,75)] (ez (way.drop k) hlr) rfl rfl rfl ?_ ?_ ?_ ?_ ?_ ?_ ?_ ?_ ?_ ?_ ?_ ?_ ?_ ?_;(focus (simp only [go_sem,simprocAttr,hb4,ht];done));(iterate 12 (focus (simp [go_sem,simprocAttr,hb4,ht];done)));try simp only [List.map_cons,List.map_nil])|(refine ah hX hC hP (jx rev sq hrev) rfl rfl rfl ?_ ?_ ?_ ?_;iterate 3 (focus (simp only [go_sem,simprocAttr,hb4,ht];done)))|(refine ah hX hC hP (aP rev (gU rev) uz) rfl rfl rfl ?_ ?_ ?_ ?_;iterate 3 (focus (simp only [go_sem,simprocAttr,hb4,ht];done)))|(refine an hX hC hP (fC [rev.drop k2,rev.take k2] hc1 Ii Ij) rfl rfl rfl ?_ ?_ rfl ?_;iterate 2 (focus (simp only [go_sem,simprocAttr,hb4,ht];done))));try simp only [go_sem,simprocAttr,hb4,ht])|((with_reducible refine oD ?_ ?_);kernel_rfl)|((with_reducible intro h);try simp only [go_sem,simprocAttr,hb4,ht] at h)|omega|intro h)
   refine ⟨(way++ [(a:Int)],iZ g (cH g (aL g)) a),⟨xM.next Gm hmem,qi hm _ _ _ (.inl rfl) DC, ?_⟩, ?_, ?_⟩
   ·simp only
    rw [← hrun,iB Gm hmem]
    simp only [j9]
    rw [if_neg (by intro h;rcases h with h|h;omega;exact hmem h)]
   ·refine Le.of ?_ ?_<;>simp [go_sem,simprocAttr,hb4,ht,iZ]
   ·have:=iB Gm hmem;simp only;omega
end Go.Ab
end
section
namespace Go.Ab
open Go.Proofs
attribute [local congr] ACall.congr gd.congr Nx.congr
set_option maxRecDepth 10000
def eF (f:Int × Int × List Int):AV:= .agg [eN f.1,eN f.2.1, .d (sI f.2.2)]
attribute [go_sem] eF
def jC (g:Gr):Int:=bR (fun e:Edge=>decide (e.1=e.2)) g.es
def nq (g:Gr) (i:Nat):Bool:=decide (g.es.getD i (0,0)∈g.es.take i)
def ff (g:Gr):Int:=bR (nq g) (List.range g.es.length)
def gD (g:Gr) (Nr bare:List Int):Int × Int × List Int:=
 if aY g=false then (1,0, []) else
 if 0≤jC g then (13,jC g, []) else
 if 0≤ff g then (14,ff g, []) else
 if 0<Nr.length then (15,0,Nr) else
 if 1<bare.length then (16,0,bare.take 2) else (0,0, [])
def cR (g:Gr):Int × Int × List Int:=gD g (jA g) (dz (·.2) g)
theorem jD (e:Edge):Spec Tryz.prog 131 (Args [eE e]) [] (eB (decide (e.1=e.2))) []:=by
 (refine Spec.hd (C:=T.cfg [] []) (rs:= [.t 2]) (T.ai _ _) Tryz.func131 rfl rfl Tryz.ntmps131 Tryz.results131 (by simp [AObj.isNest]) (by simp [AObj.isNest]) (by kernel_rfl) T.mixed fun X hX hP hC aF bY=> ?_)
 repeat' (first|refine Rn.p ?_|(with_reducible apply And.intro)|((first|(refine hK _ ?_;clear hK K)|with_reducible intro K hK|refine Rs.p ?_|((with_reducible first|apply oP|apply oQ);exact rfl));try simp only [go_sem,simprocAttr])|((with_reducible refine oD ?_ ?_);kernel_rfl)|((with_reducible intro h);try simp only [go_sem,simprocAttr] at h)|omega|intro h)
theorem cA {n k:Nat} (h:k<n) (d:Nat):(List.range n).getD k d=k:=by
 simp [List.getD_eq_getElem?_getD,List.getElem?_range h]
theorem nr (g:Gr) (hl:g.es.length≤1000):Spec Tryz.prog 88 (Args [eG g]) [] (eF (cR g)) []:=by
 have hl:g.es.length≤9223372036854775807:=by omega
 (refine Spec.hd (C:=T.cfg [] []) (rs:= [.c 2 66]) (T.ai _ _) Tryz.func88 rfl rfl Tryz.ntmps88 Tryz.results88 (by simp [AObj.isNest]) (by simp [AObj.isNest]) (by kernel_rfl) T.mixed fun X hX hP hC aF bY=> ?_)
 cases hm:aY g with
 |false=>
  repeat' (first|refine Rn.p ?_|(with_reducible apply And.intro)|((first|(refine hK _ ?_;clear hK K)|with_reducible intro K hK|refine Rs.p ?_|((with_reducible first|apply oP|apply oQ);exact rfl)|refine aa hX hC hP (gC g hl) rfl rfl rfl (by simp only [go_sem,simprocAttr,hm]) rfl ?_|refine aa hX hC hP (bP aI.nil _ [] _ jD g.es hl) rfl rfl rfl (by simp only [go_sem,simprocAttr,hm]) rfl ?_|refine aa hX hC hP (l9 g hm) rfl rfl rfl (by simp only [go_sem,simprocAttr,hm]) rfl ?_|refine aa hX hC hP (iD g hm) rfl rfl rfl (by simp only [go_sem,simprocAttr,hm]) rfl ?_|refine aa hX hC hP (fL g hm) rfl rfl rfl (by simp only [go_sem,simprocAttr,hm]) rfl ?_|refine aa hX hC hP (dX (g.es.take k) (g.es.getD k (0,0)) hlk) rfl rfl rfl (by simp only [go_sem,simprocAttr,hm]) rfl ?_);try simp only [go_sem,simprocAttr,hm])|((with_reducible refine oD ?_ ?_);kernel_rfl)|((with_reducible intro h);try simp only [go_sem,simprocAttr,hm] at h)|omega|intro h)
  all_goals simp [cR,gD,hm]
 |true=>
 have hn:=bM hm
 by_cases hlo:0≤jC g
 ·have aJ:decide (0≤bR (fun p:Edge=>decide (p.1=p.2)) g.es)=true:=decide_eq_true hlo
  repeat' (first|refine Rn.p ?_|(with_reducible apply And.intro)|((first|(refine hK _ ?_;clear hK K)|with_reducible intro K hK|refine Rs.p ?_|((with_reducible first|apply oP|apply oQ);exact rfl)|refine aa hX hC hP (gC g hl) rfl rfl rfl (by simp only [go_sem,simprocAttr,hm,aJ]) rfl ?_|refine aa hX hC hP (bP aI.nil _ [] _ jD g.es hl) rfl rfl rfl (by simp only [go_sem,simprocAttr,hm,aJ]) rfl ?_|refine aa hX hC hP (l9 g hm) rfl rfl rfl (by simp only [go_sem,simprocAttr,hm,aJ]) rfl ?_|refine aa hX hC hP (iD g hm) rfl rfl rfl (by simp only [go_sem,simprocAttr,hm,aJ]) rfl ?_|refine aa hX hC hP (fL g hm) rfl rfl rfl (by simp only [go_sem,simprocAttr,hm,aJ]) rfl ?_|refine aa hX hC hP (dX (g.es.take k) (g.es.getD k (0,0)) hlk) rfl rfl rfl (by simp only [go_sem,simprocAttr,hm,aJ]) rfl ?_);try simp only [go_sem,simprocAttr,hm,aJ])|((with_reducible refine oD ?_ ?_);kernel_rfl)|((with_reducible intro h);try simp only [go_sem,simprocAttr,hm,aJ] at h)|omega|intro h)
  all_goals (
   have hc:cR g=(13,jC g, []):=by
    simp only [cR,gD];rw [if_neg (by simp [hm]),if_pos hlo]
   rw [hc]<;>rfl)
 have aJ:decide (0≤bR (fun p:Edge=>decide (p.1=p.2)) g.es)=false:=decide_eq_false hlo
 repeat' (first|refine Rn.p ?_|(with_reducible apply And.intro)|((first|(refine hK _ ?_;clear hK K)|with_reducible intro K hK|refine Rs.p ?_|((with_reducible first|apply oP|apply oQ);exact rfl)|refine aa hX hC hP (gC g hl) rfl rfl rfl (by simp only [go_sem,simprocAttr,hm,aJ]) rfl ?_|refine aa hX hC hP (bP aI.nil _ [] _ jD g.es hl) rfl rfl rfl (by simp only [go_sem,simprocAttr,hm,aJ]) rfl ?_|refine aa hX hC hP (l9 g hm) rfl rfl rfl (by simp only [go_sem,simprocAttr,hm,aJ]) rfl ?_|refine aa hX hC hP (iD g hm) rfl rfl rfl (by simp only [go_sem,simprocAttr,hm,aJ]) rfl ?_|refine aa hX hC hP (fL g hm) rfl rfl rfl (by simp only [go_sem,simprocAttr,hm,aJ]) rfl ?_|refine aa hX hC hP (dX (g.es.take k) (g.es.getD k (0,0)) hlk) rfl rfl rfl (by simp only [go_sem,simprocAttr,hm,aJ]) rfl ?_);try simp only [go_sem,simprocAttr,hm,aJ])|((with_reducible refine oD ?_ ?_);kernel_rfl)|((with_reducible intro h);try simp only [go_sem,simprocAttr,hm,aJ] at h)|omega|intro h)
 refine ag (fun k:Nat=>k≤g.es.length∧∀j,j<k→nq g j=false) (fun k=>⟨[(23,eN k),(22,eN g.es.length),(21, .d (sE g.es)),(1, .ptr 1 0),(2, .ptr 2 0)], [(1, .box [eN g.n, .d (sE g.es)]),(2, .box [eN 0,eN 0, .nil 3])]⟩) (fun k=>g.es.length - k) 0 (by simp) ?_ ?_
 ·(refine Le.of ?_ ?_<;>simp [go_sem,simprocAttr,hm,aJ])
 rintro k ⟨hk,Hl⟩
 rcases Nat.lt_or_ge k g.es.length with hlt|hge
 ·have aK:decide ((k:Int)<(g.es.length:Int))=true:=decide_eq_true (by omega)
  have hlk:(g.es.take k).length≤9223372036854775807:=by rw [List.length_take];omega
  repeat' (first|refine Rn.p ?_|(with_reducible apply And.intro)|((first|(refine hK _ ?_;clear hK K)|with_reducible intro K hK|refine Rs.p ?_|((with_reducible first|apply oP|apply oQ);exact rfl)|refine aa hX hC hP (gC g hl) rfl rfl rfl (by simp only [go_sem,simprocAttr,hm,aJ,aK, ← List.map_take]) rfl ?_|refine aa hX hC hP (bP aI.nil _ [] _ jD g.es hl) rfl rfl rfl (by simp only [go_sem,simprocAttr,hm,aJ,aK, ← List.map_take]) rfl ?_|refine aa hX hC hP (l9 g hm) rfl rfl rfl (by simp only [go_sem,simprocAttr,hm,aJ,aK, ← List.map_take]) rfl ?_|refine aa hX hC hP (iD g hm) rfl rfl rfl (by simp only [go_sem,simprocAttr,hm,aJ,aK, ← List.map_take]) rfl ?_|refine aa hX hC hP (fL g hm) rfl rfl rfl (by simp only [go_sem,simprocAttr,hm,aJ,aK, ← List.map_take]) rfl ?_|refine aa hX hC hP (dX (g.es.take k) (g.es.getD k (0,0)) hlk) rfl rfl rfl (by simp only [go_sem,simprocAttr,hm,aJ,aK, ← List.map_take]) rfl ?_);try simp only [go_sem,simprocAttr,hm,aJ,aK, ← List.map_take])|((with_reducible refine oD ?_ ?_);kernel_rfl)|((with_reducible intro h);try simp only [go_sem,simprocAttr,hm,aJ,aK, ← List.map_take] at h)|omega|intro h)
  any_goals (
   have Mq:ff g=(k:Int):=bW (d:=0) (by simpa using hlt) (fun j hj=>by rw [cA (by omega)];exact Hl j hj) (by rw [cA hlt];exact decide_eq_true h)
   have hc:cR g=(14,ff g, []):=by
    simp only [cR,gD];rw [if_neg (by simp [hm]),if_neg hlo,if_pos (by omega)]
   rw [hc]<;>first|rfl|exact Mq.symm)
  refine ⟨k+1,⟨by omega,fun j hj=> ?_⟩, ?_,by omega⟩
  ·by_cases hjk:j=k
   ·subst hjk;exact decide_eq_false h
   ·exact Hl j (by omega)
  ·(refine Le.of ?_ ?_<;>simp [go_sem,simprocAttr,hm,aJ,aK, ← List.map_take])
 ·have aK:decide ((k:Int)<(g.es.length:Int))=false:=decide_eq_false (by omega)
  have DD:¬0≤ff g:=by
   have:ff g= -1:=bD 0 fun j hj=>by
    rw [List.length_range] at hj
    rw [cA hj];exact Hl j (by omega)
   omega
  repeat' (first|refine Rn.p ?_|(with_reducible apply And.intro)|((first|(refine hK _ ?_;clear hK K)|with_reducible intro K hK|refine Rs.p ?_|((with_reducible first|apply oP|apply oQ);exact rfl)|refine aa hX hC hP (gC g hl) rfl rfl rfl (by simp only [go_sem,simprocAttr,hm,aJ,aK]) rfl ?_|refine aa hX hC hP (bP aI.nil _ [] _ jD g.es hl) rfl rfl rfl (by simp only [go_sem,simprocAttr,hm,aJ,aK]) rfl ?_|refine aa hX hC hP (l9 g hm) rfl rfl rfl (by simp only [go_sem,simprocAttr,hm,aJ,aK]) rfl ?_|refine aa hX hC hP (iD g hm) rfl rfl rfl (by simp only [go_sem,simprocAttr,hm,aJ,aK]) rfl ?_|refine aa hX hC hP (fL g hm) rfl rfl rfl (by simp only [go_sem,simprocAttr,hm,aJ,aK]) rfl ?_|refine aa hX hC hP (dX (g.es.take k) (g.es.getD k (0,0)) hlk) rfl rfl rfl (by simp only [go_sem,simprocAttr,hm,aJ,aK]) rfl ?_);try simp only [go_sem,simprocAttr,hm,aJ,aK])|((with_reducible refine oD ?_ ?_);kernel_rfl)|((with_reducible intro h);try simp only [go_sem,simprocAttr,hm,aJ,aK] at h)|omega|intro h)
  all_goals (
   have hc:cR g=if 0<(jA g).length then (15,0,jA g) else if 1<(dz (·.2) g).length then (16,0,(dz (·.2) g).take 2) else (0,0, []):=by
    simp only [cR,gD];rw [if_neg (by simp [hm]),if_neg hlo,if_neg DD]
   first|rw [if_pos (by omega)] at hc|(rw [if_neg (by omega)] at hc;first|rw [if_pos (by omega)] at hc|rw [if_neg (by omega)] at hc)
   rw [hc]<;>first|rfl|simp only [List.map_take])
end Go.Ab
end
section
namespace Go.Ab
open Go.Proofs
attribute [local congr] ACall.congr gd.congr Nx.congr
set_option maxRecDepth 10000
theorem bh (ps:List Int) (x:Int) (hl:ps.length≤9223372036854775807):
 Spec Tryz.prog 192 (Args [.d (sI ps),eN x]) [] (eN (fc ps x)) []:=by
 (refine Spec.hd (C:=T.cfg [] []) (rs:= [.t 4]) (T.ai _ _) Tryz.func192 rfl rfl Tryz.ntmps192 Tryz.results192 (by simp [AObj.isNest]) (by simp [AObj.isNest]) (by kernel_rfl) T.mixed fun X hX hP hC aF bY=> ?_)
 repeat' (first|refine Rn.p ?_|(with_reducible apply And.intro)|((first|(refine hK _ ?_;clear hK K)|with_reducible intro K hK|refine Rs.p ?_|((with_reducible first|apply oP|apply oQ);exact rfl));try simp only [go_sem,simprocAttr])|((with_reducible refine oD ?_ ?_);kernel_rfl)|((with_reducible intro h);try simp only [go_sem,simprocAttr] at h)|omega|intro h)
 refine ag (fun k:Nat=>k≤ps.length∧∀j,j<k→decide (x=ps.getD j 0)=false) (fun k=>⟨[(0, .d (sI ps)),(1,eN x),(5,eN k)], []⟩) (fun k=>ps.length - k) 0 (by simp) ?_ ?_
 ·(refine ⟨bz ?_,fun _ _ h=>h⟩;simp [go_sem,simprocAttr])
 rintro k ⟨hk,hg⟩
 repeat' (first|refine Rn.p ?_|(with_reducible apply And.intro)|((first|(refine hK _ ?_;clear hK K)|with_reducible intro K hK|refine Rs.p ?_|((with_reducible first|apply oP|apply oQ);exact rfl));try simp only [go_sem,simprocAttr])|((with_reducible refine oD ?_ ?_);kernel_rfl)|((with_reducible intro h);try simp only [go_sem,simprocAttr] at h)|omega|intro h)
 ·exact (bW (by omega) hg (by simpa using h.symm)).symm
 ·refine ⟨k+1,⟨by omega,fun j hj=> ?_⟩, ?_,by omega⟩
  ·by_cases hjk:j=k
   ·subst hjk;exact fun e=>h (Eq.symm e)
   ·simpa using hg j (by omega)
  ·(refine ⟨bz ?_,fun _ _ h=>h⟩;simp [go_sem,simprocAttr])
 ·exact (bD 0 fun j hj=>hg j (by omega)).symm
def aX (f:Edge→Int) (es:List Edge) (k:Nat) (x:Int):List Int:=((List.range k).filter fun i=>decide (f (es.getD i (0,0))=x)).map Int.ofNat
theorem ow (f:Edge→Int) (es:List Edge) (k x:Nat):fz f es k x=aX f es k (x:Int):=rfl
theorem jE {f:Edge→Int} {es:List Edge} {k:Nat} {x:Int} :(aX f es k x).length≤k:=by
 simpa [aX] using List.length_filter_le (fun i=>decide (f (es.getD i (0,0))=x)) (List.range k)
theorem sr {f:Edge→Int} {es:List Edge} {k:Nat} {x:Int} :aX f es (k+1) x=aX f es k x++if f (es.getD k (0,0))=x then [(k:Int)] else []:=by
 simp only [aX,List.range_succ,List.filter_append,List.map_append,List.filter_cons,List.filter_nil]
 split<;>simp_all
def kO (b:Bool) (e:Edge):Int:=if b then e.1 else e.2
theorem aT (g:Gr) (x:Int) (b:Bool) (hl:g.es.length≤1000):Spec Tryz.prog 56 (Args [eG g,eN x,eB b]) [] (.d (sI (aX (kO b) g.es g.es.length x))) []:=by
 (refine Spec.hd (C:=T.cfg [] []) (rs:= [.t 6]) (T.ai _ _) Tryz.func56 rfl rfl Tryz.ntmps56 Tryz.results56 (by simp [AObj.isNest]) (by simp [AObj.isNest]) (by kernel_rfl) T.mixed fun X hX hP hC aF bY=> ?_)
 repeat' (first|refine Rn.p ?_|(with_reducible apply And.intro)|((first|(refine hK _ ?_;clear hK K)|with_reducible intro K hK|refine Rs.p ?_|((with_reducible first|apply oP|apply oQ);exact rfl));try simp only [go_sem,simprocAttr])|((with_reducible refine oD ?_ ?_);kernel_rfl)|((with_reducible intro h);try simp only [go_sem,simprocAttr] at h)|omega|intro h)
 (refine pJ hX 7 9 45 (by simp only [go_sem,simprocAttr]) rfl (by first|exact .inl rfl|exact .inr rfl) (by decide) ?_;simp only [go_sem,simprocAttr])
 refine ag (fun k:Nat=>k≤g.es.length) (fun k=>⟨[(1,eN x),(2,eB b),(3, .ptr 3 0),(8,eN k),(7, .ref 45)], [(3, .box [eN g.n, .d (sE g.es)]),(45, .tip 3 1 ((aX (kO b) g.es k x).map rI))]⟩) (fun k=>g.es.length - k) 0 (by simp) ?_ ?_
 ·refine Le.of ?_ ?_<;>simp [go_sem,simprocAttr,aX]
 rintro k hk
 rcases Nat.lt_or_ge k g.es.length with hlt|hge
 ·have hb:decide ((k:Int)<(g.es.length:Int))=true:=decide_eq_true (by omega)
  have pM:=jE (f:=kO b) (es:=g.es) (k:=k) (x:=x)
  cases b
  ·have ga:aX (kO false) g.es (k+1) x=aX (kO false) g.es k x++if (g.es.getD k (0,0)).2=x then [(k:Int)] else []:=sr
   repeat' (first|refine Rn.p ?_|(with_reducible apply And.intro)|((first|(refine hK _ ?_;clear hK K)|with_reducible intro K hK|refine Rs.p ?_|((with_reducible first|apply oP|apply oQ);exact rfl));try simp only [go_sem,simprocAttr,hb])|((with_reducible refine oD ?_ ?_);kernel_rfl)|((with_reducible intro h);try simp only [go_sem,simprocAttr,hb] at h)|omega|intro h)
   all_goals (first|rw [if_pos (by assumption)] at ga|rw [if_neg (by assumption),List.append_nil] at ga)
   all_goals (refine ⟨k+1,by omega, ?_,by omega⟩;refine Le.of ?_ ?_<;>simp [go_sem,simprocAttr,hb,ga,rI])
  ·have ga:aX (kO true) g.es (k+1) x=aX (kO true) g.es k x++if (g.es.getD k (0,0)).1=x then [(k:Int)] else []:=sr
   repeat' (first|refine Rn.p ?_|(with_reducible apply And.intro)|((first|(refine hK _ ?_;clear hK K)|with_reducible intro K hK|refine Rs.p ?_|((with_reducible first|apply oP|apply oQ);exact rfl));try simp only [go_sem,simprocAttr,hb])|((with_reducible refine oD ?_ ?_);kernel_rfl)|((with_reducible intro h);try simp only [go_sem,simprocAttr,hb] at h)|omega|intro h)
   all_goals (first|rw [if_pos (by assumption)] at ga|rw [if_neg (by assumption),List.append_nil] at ga)
   all_goals (refine ⟨k+1,by omega, ?_,by omega⟩;refine Le.of ?_ ?_<;>simp [go_sem,simprocAttr,hb,ga,rI])
 ·have hb:decide ((k:Int)<(g.es.length:Int))=false:=decide_eq_false (by omega)
  obtain rfl:k=g.es.length:=by omega
  repeat' (first|refine Rn.p ?_|(with_reducible apply And.intro)|((first|(refine hK _ ?_;clear hK K)|with_reducible intro K hK|refine Rs.p ?_|((with_reducible first|apply oP|apply oQ);exact rfl));try simp only [go_sem,simprocAttr,hb])|((with_reducible refine oD ?_ ?_);kernel_rfl)|((with_reducible intro h);try simp only [go_sem,simprocAttr,hb] at h)|omega|intro h)
theorem c7 (g:Gr) (b:Bool) (hl:g.es.length≤1000) (hn:0≤g.n∧g.n≤1000):Spec Tryz.prog 31 (Args [eG g,eB b]) [] (.d (sI (dz (kO (!b)) g))) []:=by
 (refine Spec.hd (C:=T.cfg [] []) (rs:= [.t 4]) (T.ai _ _) Tryz.func31 rfl rfl Tryz.ntmps31 Tryz.results31 (by simp [AObj.isNest]) (by simp [AObj.isNest]) (by kernel_rfl) T.mixed fun X hX hP hC aF bY=> ?_)
 repeat' (first|refine Rn.p ?_|(with_reducible apply And.intro)|((first|(refine hK _ ?_;clear hK K)|with_reducible intro K hK|refine Rs.p ?_|((with_reducible first|apply oP|apply oQ);exact rfl)|refine aa hX hC hP (aT g (k:Int) (!b) hl) rfl rfl rfl (by simp only [go_sem,simprocAttr]) rfl ?_);try simp only [go_sem,simprocAttr])|((with_reducible refine oD ?_ ?_);kernel_rfl)|((with_reducible intro h);try simp only [go_sem,simprocAttr] at h)|omega|intro h)
 (refine pJ hX 5 7 24 (by simp only [go_sem,simprocAttr]) rfl (by first|exact .inl rfl|exact .inr rfl) (by decide) ?_;simp only [go_sem,simprocAttr])
 refine ag (fun k:Nat=>k≤g.n.toNat) (fun k=>⟨[(1,eB b),(2, .ptr 2 0),(6,eN k),(5, .ref 24)], [(2, .box [eN g.n, .d (sE g.es)]),(24, .tip 3 1 ((iY (dY (kO (!b)) g) k).map rI))]⟩) (fun k=>g.n.toNat - k) 0 (by simp) ?_ ?_
 ·refine Le.of ?_ ?_<;>simp [go_sem,simprocAttr,iY]
 rintro k hk
 rcases Nat.lt_or_ge k g.n.toNat with hlt|hge
 ·have hb:decide ((k:Int)<g.n)=true:=decide_eq_true (by omega)
  have pM:=uv (ls:=dY (kO (!b)) g) (k:=k)
  have he:(dY (kO (!b)) g).getD k []=aX (kO (!b)) g.es g.es.length (k:Int):=by
   simp [dY,List.getD_eq_getElem?_getD,List.getElem?_range hlt,ow]
  have ga:=nk (ls:=dY (kO (!b)) g) (k:=k)
  rw [he] at ga
  repeat' (first|refine Rn.p ?_|(with_reducible apply And.intro)|((first|(refine hK _ ?_;clear hK K)|with_reducible intro K hK|refine Rs.p ?_|((with_reducible first|apply oP|apply oQ);exact rfl)|refine aa hX hC hP (aT g (k:Int) (!b) hl) rfl rfl rfl (by simp only [go_sem,simprocAttr,hb]) rfl ?_);try simp only [go_sem,simprocAttr,hb])|((with_reducible refine oD ?_ ?_);kernel_rfl)|((with_reducible intro h);try simp only [go_sem,simprocAttr,hb] at h)|omega|intro h)
  all_goals (first|rw [if_pos (by omega)] at ga|rw [if_neg (by omega),List.append_nil] at ga)
  all_goals (refine ⟨k+1,by omega, ?_,by omega⟩;refine Le.of ?_ ?_<;>simp [go_sem,simprocAttr,hb,ga,rI])
 ·have hb:decide ((k:Int)<g.n)=false:=decide_eq_false (by omega)
  obtain rfl:k=g.n.toNat:=by omega
  repeat' (first|refine Rn.p ?_|(with_reducible apply And.intro)|((first|(refine hK _ ?_;clear hK K)|with_reducible intro K hK|refine Rs.p ?_|((with_reducible first|apply oP|apply oQ);exact rfl)|refine aa hX hC hP (aT g (k:Int) (!b) hl) rfl rfl rfl (by simp only [go_sem,simprocAttr,hb]) rfl ?_);try simp only [go_sem,simprocAttr,hb])|((with_reducible refine oD ?_ ?_);kernel_rfl)|((with_reducible intro h);try simp only [go_sem,simprocAttr,hb] at h)|omega|intro h)
  rfl
end Go.Ab
end
section
namespace Go.Ab
open Go.Proofs
attribute [local congr] ACall.congr gd.congr Nx.congr
set_option maxRecDepth 10000
def rB (b:Bool):List D:= [.sc (.bool b)]
def sB (l:List Bool):D:= .sl 1 (l.map rB)
theorem getD_rB (l:List Bool) (i:Nat):(l.map rB).getD i [.sc (.bool false)]= [.sc (.bool (l.getD i false))]:=by
 simp only [List.getD_eq_getElem?_getD,List.getElem?_map]
 cases l[i]? <;>rfl
attribute [go_sem] getD_rB sB
theorem lE (l:List Bool) (k:Nat) (v:Bool):(l.map rB).set k [.sc (.bool v)]=(l.set k v).map rB:=by
 rw [List.map_set];rfl
theorem uA {α:Type} {n k:Nat} {f:Nat→α} {v:α} :((List.range n).map f).set k v=(List.range n).map fun y=>if y=k then v else f y:=by
 refine List.ext_getElem? fun i=> ?_
 rw [List.getElem?_set,List.length_map,List.length_range]
 by_cases hi:i<n
 ·rw [List.getElem?_map,List.getElem?_map,List.getElem?_range hi]
  by_cases h:k=i
  ·subst h;simp [hi]
  ·have:¬i=k:=fun e=>h e.symm
   simp [h,this]
 ·rw [List.getElem?_eq_none (by simp;omega),List.getElem?_eq_none (by simp;omega)]
  split
  ·rw [if_neg (by omega)]
  ·rfl
def lF (n k:Nat):List Bool:=(List.range n).map fun y=>decide (y<k)
def eR (g:Gr) (l:List Bool) (j:Nat):List Bool:=(List.range g.n.toNat).map fun y:Nat=>(List.range j).any fun i=>decide (hd g i=(y:Int))&&(l.getD (tl g i).toNat false&&l.getD (hd g i).toNat false)
def fE (g:Gr):Nat→List Bool
 |0=>lF g.n.toNat g.n.toNat
 |k+1=>eR g (fE g k) g.es.length
theorem trueK_length {n k:Nat} :(lF n k).length=n:=by simp [lF]
theorem nextK_length {g:Gr} {l:List Bool} {j:Nat} :(eR g l j).length=g.n.toNat:=by simp [eR]
theorem leftK_length {g:Gr} {k:Nat} :(fE g k).length=g.n.toNat:=by
 cases k
 ·exact trueK_length
 ·exact nextK_length
theorem y7 {n:Nat} :List.replicate n [D.sc (.bool false)]=(lF n 0).map rB:=by
 refine List.ext_getElem? fun i=> ?_
 by_cases hi:i<n
 ·simp [lF,hi,rB,List.getElem?_range hi]
 ·rw [List.getElem?_eq_none (by simp;omega),List.getElem?_eq_none (by simp [lF];omega)]
theorem kf {n k:Nat} :(lF n k).set k true=lF n (k+1):=by
 unfold lF;rw [uA]
 refine List.map_congr_left fun y _=> ?_
 split
 ·rename_i h;subst h;simp
 ·rename_i h
  rw [Bool.eq_iff_iff];simp;omega
theorem y8 {g:Gr} {l:List Bool} :List.replicate g.n.toNat [D.sc (.bool false)]=(eR g l 0).map rB:=by
 refine List.ext_getElem? fun i=> ?_
 by_cases hi:i<g.n.toNat
 ·simp [eR,hi,rB,List.getElem?_range hi]
 ·rw [List.getElem?_eq_none (by simp;omega),List.getElem?_eq_none (by simp [eR];omega)]
theorem BC {g:Gr} {l:List Bool} {j:Nat} (h0:0≤hd g j) (h:(l.getD (tl g j).toNat false&&l.getD (hd g j).toNat false)=true):(eR g l j).set (hd g j).toNat true=eR g l (j+1):=by
 unfold eR;rw [uA]
 refine List.map_congr_left fun y _=> ?_
 rw [List.range_succ,List.any_append]
 simp only [List.any_cons,List.any_nil,h,Bool.and_true,Bool.or_false]
 split
 ·rename_i e
  have:hd g j=(y:Int):=by omega
  simp [this]
 ·rename_i e
  have:¬hd g j=(y:Int):=by omega
  simp [this]
theorem DE {g:Gr} {l:List Bool} {j:Nat} (h:(l.getD (tl g j).toNat false&&l.getD (hd g j).toNat false)=false):eR g l j=eR g l (j+1):=by
 unfold eR
 refine List.map_congr_left fun y _=> ?_
 rw [List.range_succ,List.any_append]
 simp only [List.any_cons,List.any_nil,h,Bool.and_false,Bool.or_false]
attribute [go_sem] trueK_length nextK_length leftK_length
theorem cU (g:Gr) (hm:aY g=true):Spec Tryz.prog 191 (Args [eG g]) [] (.d (sB (fE g g.n.toNat))) []:=by
 have hn:=bM hm
 (refine Spec.hd (C:=T.cfg [] []) (rs:= [.t 2]) (T.ai _ _) Tryz.func191 rfl rfl Tryz.ntmps191 Tryz.results191 (by simp [AObj.isNest]) (by simp [AObj.isNest]) (by kernel_rfl) T.mixed fun X hX hP hC aF bY=> ?_)
 repeat' (first|(show cG _ (.seq (.region 6 _ _) _) _ _;(refine dg hX 11 rfl (.inl rfl) ?_;simp only [go_sem,simprocAttr]))|(show cG _ (.region 8 _ _) _ _;(refine dg hX 29 rfl (.inl rfl) ?_;simp only [go_sem,simprocAttr]))|refine Rn.p ?_|(with_reducible apply And.intro)|((first|(refine hK _ ?_;clear hK K)|with_reducible intro K hK|refine Rs.p ?_|((with_reducible first|apply oP|apply oQ);exact rfl));try simp only [go_sem,simprocAttr])|((with_reducible refine oD ?_ ?_);kernel_rfl)|((with_reducible intro h);try simp only [go_sem,simprocAttr] at h)|omega|intro h)
 refine ag (fun k:Nat=>k≤g.n.toNat) (fun k=>⟨[(1, .ptr 1 0),(4,eN k),(3, .ref 11)], [(1, .box [eN g.n, .d (sE g.es)]),(11, .own 4 1 ((lF g.n.toNat k).map rB))]⟩) (fun k=>g.n.toNat - k) 0 (by simp) ?_ ?_
 ·refine Le.of ?_ ?_<;>simp [go_sem,simprocAttr]
  exact y7
 rintro k hk
 rcases Nat.lt_or_ge k g.n.toNat with hlt|hge
 ·have hb:decide ((k:Int)<g.n)=true:=decide_eq_true (by omega)
  repeat' (first|(show cG _ (.seq (.region 6 _ _) _) _ _;(refine dg hX 11 rfl (.inl rfl) ?_;simp only [go_sem,simprocAttr,hb,lE,kf]))|(show cG _ (.region 8 _ _) _ _;(refine dg hX 29 rfl (.inl rfl) ?_;simp only [go_sem,simprocAttr,hb,lE,kf]))|refine Rn.p ?_|(with_reducible apply And.intro)|((first|(refine hK _ ?_;clear hK K)|with_reducible intro K hK|refine Rs.p ?_|((with_reducible first|apply oP|apply oQ);exact rfl));try simp only [go_sem,simprocAttr,hb,lE,kf])|((with_reducible refine oD ?_ ?_);kernel_rfl)|((with_reducible intro h);try simp only [go_sem,simprocAttr,hb,lE,kf] at h)|omega|intro h)
  refine ⟨k+1,by omega, ?_,by omega⟩
  (refine Le.of ?_ ?_<;>simp [go_sem,simprocAttr])
 ·have hb:decide ((k:Int)<g.n)=false:=decide_eq_false (by omega)
  obtain rfl:k=g.n.toNat:=by omega
  repeat' (first|(show cG _ (.seq (.region 6 _ _) _) _ _;(refine dg hX 11 rfl (.inl rfl) ?_;simp only [go_sem,simprocAttr,hb]))|(show cG _ (.region 8 _ _) _ _;(refine dg hX 29 rfl (.inl rfl) ?_;simp only [go_sem,simprocAttr,hb]))|refine Rn.p ?_|(with_reducible apply And.intro)|((first|(refine hK _ ?_;clear hK K)|with_reducible intro K hK|refine Rs.p ?_|((with_reducible first|apply oP|apply oQ);exact rfl));try simp only [go_sem,simprocAttr,hb])|((with_reducible refine oD ?_ ?_);kernel_rfl)|((with_reducible intro h);try simp only [go_sem,simprocAttr,hb] at h)|omega|intro h)
  clear hb hk hge
  refine ag (fun k:Nat=>k≤g.n.toNat) (fun k=>⟨[(1, .ptr 1 0),(5,eN k),(3, .d (sB (fE g k)))], [(1, .box [eN g.n, .d (sE g.es)])]⟩) (fun k=>g.n.toNat - k) 0 (by simp) ?_ ?_
  ·refine Le.of ?_ ?_<;>simp [go_sem,simprocAttr,fE]
  rintro k hk
  rcases Nat.lt_or_ge k g.n.toNat with hlt|hge
  ·have hb:decide ((k:Int)<g.n)=true:=decide_eq_true (by omega)
   repeat' (first|(show cG _ (.seq (.region 6 _ _) _) _ _;(refine dg hX 11 rfl (.inl rfl) ?_;simp only [go_sem,simprocAttr,hb]))|(show cG _ (.region 8 _ _) _ _;(refine dg hX 29 rfl (.inl rfl) ?_;simp only [go_sem,simprocAttr,hb]))|refine Rn.p ?_|(with_reducible apply And.intro)|((first|(refine hK _ ?_;clear hK K)|with_reducible intro K hK|refine Rs.p ?_|((with_reducible first|apply oP|apply oQ);exact rfl));try simp only [go_sem,simprocAttr,hb])|((with_reducible refine oD ?_ ?_);kernel_rfl)|((with_reducible intro h);try simp only [go_sem,simprocAttr,hb] at h)|omega|intro h)
   refine ag (fun j:Nat=>j≤g.es.length) (fun j=>⟨[(1, .ptr 1 0),(5,eN k),(3, .d (sB (fE g k))),(7,eN j),(6, .ref 29)], [(1, .box [eN g.n, .d (sE g.es)]),(29, .own 4 1 ((eR g (fE g k) j).map rB))]⟩) (fun j=>g.es.length - j) 0 (by simp) ?_ ?_
   ·refine Le.of ?_ ?_<;>simp [go_sem,simprocAttr]
    exact y8
   rintro j hj
   rcases Nat.lt_or_ge j g.es.length with hjl|Mr
   ·have aK:decide ((j:Int)<(g.es.length:Int))=true:=decide_eq_true (by omega)
    obtain ⟨⟨Dz,pg⟩,⟨vm,rz⟩⟩:=dZ hm hjl
    repeat' (first|(show cG _ (.seq (.region 6 _ _) _) _ _;(refine dg hX 11 rfl (.inl rfl) ?_;simp only [go_sem,simprocAttr,aK,lE]))|(show cG _ (.region 8 _ _) _ _;(refine dg hX 29 rfl (.inl rfl) ?_;simp only [go_sem,simprocAttr,aK,lE]))|refine Rn.p ?_|(with_reducible apply And.intro)|((first|(refine hK _ ?_;clear hK K)|with_reducible intro K hK|refine Rs.p ?_|((with_reducible first|apply oP|apply oQ);exact rfl));try simp only [go_sem,simprocAttr,aK,lE])|((with_reducible refine oD ?_ ?_);kernel_rfl)|((with_reducible intro h);try simp only [go_sem,simprocAttr,aK,lE] at h)|omega|intro h)
    ·have hy:(eR g (fE g k) j).set (g.es.getD j (0,0)).2.toNat true=eR g (fE g k) (j+1):=BC vm (by rw [Bool.and_eq_true];exact ⟨by assumption,by assumption⟩)
     refine ⟨j+1,by omega, ?_,by omega⟩
     refine Le.of ?_ ?_<;>simp [go_sem,simprocAttr]
     rw [← hy,List.map_set];rfl
    all_goals (
     have hy:eR g (fE g k) j=eR g (fE g k) (j+1):=DE (Bool.and_eq_false_iff.2 (by first|exact .inl (by assumption)|exact .inr (by assumption)))
     refine ⟨j+1,by omega, ?_,by omega⟩
     refine Le.of ?_ ?_<;>simp [go_sem,simprocAttr, ← hy])
   ·have aK:decide ((j:Int)<(g.es.length:Int))=false:=decide_eq_false (by omega)
    obtain rfl:j=g.es.length:=by omega
    repeat' (first|(show cG _ (.seq (.region 6 _ _) _) _ _;(refine dg hX 11 rfl (.inl rfl) ?_;simp only [go_sem,simprocAttr,aK]))|(show cG _ (.region 8 _ _) _ _;(refine dg hX 29 rfl (.inl rfl) ?_;simp only [go_sem,simprocAttr,aK]))|refine Rn.p ?_|(with_reducible apply And.intro)|((first|(refine hK _ ?_;clear hK K)|with_reducible intro K hK|refine Rs.p ?_|((with_reducible first|apply oP|apply oQ);exact rfl));try simp only [go_sem,simprocAttr,aK])|((with_reducible refine oD ?_ ?_);kernel_rfl)|((with_reducible intro h);try simp only [go_sem,simprocAttr,aK] at h)|omega|intro h)
    refine ⟨k+1,by omega, ?_,by omega⟩
    refine Le.of ?_ ?_<;>simp [go_sem,simprocAttr,fE]
  ·have hb:decide ((k:Int)<g.n)=false:=decide_eq_false (by omega)
   obtain rfl:k=g.n.toNat:=by omega
   repeat' (first|(show cG _ (.seq (.region 6 _ _) _) _ _;(refine dg hX 11 rfl (.inl rfl) ?_;simp only [go_sem,simprocAttr,hb]))|(show cG _ (.region 8 _ _) _ _;(refine dg hX 29 rfl (.inl rfl) ?_;simp only [go_sem,simprocAttr,hb]))|refine Rn.p ?_|(with_reducible apply And.intro)|((first|(refine hK _ ?_;clear hK K)|with_reducible intro K hK|refine Rs.p ?_|((with_reducible first|apply oP|apply oQ);exact rfl));try simp only [go_sem,simprocAttr,hb])|((with_reducible refine oD ?_ ?_);kernel_rfl)|((with_reducible intro h);try simp only [go_sem,simprocAttr,hb] at h)|omega|intro h)
end Go.Ab
end
section
namespace Go.Ab
open Go.Proofs
attribute [local congr] ACall.congr gd.congr Nx.congr
set_option maxRecDepth 10000
def vE (g:Gr):List Bool:=fE g g.n.toNat
theorem sx {g:Gr} :fE g g.n.toNat=vE g:=rfl
def EY (g:Gr):Int:=if bR (fun b:Bool=>b) (vE g)<0 then g.n else bR (fun b:Bool=>b) (vE g)
def vF (g:Gr) (x:Int) (b:Int) (i:Nat):Int:=if hd g i=x∧(vE g).getD (tl g i).toNat false=true then min b (tl g i) else b
def ee (g:Gr) (x:Int) (k:Nat):Int:=(List.range k).foldl (vF g x) g.n
def nt (g:Gr):Nat→List Int→Int→List Int × Int
 |0,way,x=>(way,x)
 |f+1,way,x=>if x∈way then (way,x) else nt g f (way++ [x]) (ee g x g.es.length)
def gx (g:Gr):Gr:=⟨g.n+1,g.es⟩
def ox (g:Gr):List Int × Int:=nt g (g.n.toNat+1) [] (EY g)
def qy (l:List Int) (m k:Nat):List Int:=(List.range k).map fun i=>l.getD ((m+l.length - i) % l.length) 0
def uB (l:List Int):List Int:=qy l (fc l (gU l)).toNat l.length
def lG (g:Gr):List Int:=if EY g=g.n then [] else uB ((ox g).1.drop (fc (ox g).1 (ox g).2).toNat)
theorem nu {g:Gr} {x:Int} {k:Nat} :ee g x (k+1)=vF g x (ee g x k) k:=by
 simp [ee,List.range_succ]
theorem qj {g:Gr} (hm:aY g=true) {x:Int} :∀ {k:Nat},k≤g.es.length→0≤ee g x k∧ee g x k≤g.n
 |0,_=>by have:=bM hm;simp [ee];omega
 |k+1,h=>by
  have ih:=qj hm (x:=x) (k:=k) (by omega)
  obtain ⟨⟨h1,h2⟩,_⟩:=dZ hm (k:=k) (by omega)
  rw [nu];unfold vF tl
  split<;>omega
theorem BD {l:List Int} {m k:Nat} :qy l m (k+1)=qy l m k++ [l.getD ((m+l.length - k) % l.length) 0]:=by
 simp [qy,List.range_succ]
theorem xN {g:Gr} {way:List Int} {a:Int} (h:a∈way):∀f,nt g f way a=(way,a)
 |0=>rfl
 |f+1=>by simp only [nt];rw [if_pos h]
theorem vG:∀ {l:List Int} {x:Int},x∈l→gU l≤x
 |a::r,x,h=>by
  have:∀(r:List Int) (a:Int),r.foldl min a≤a∧∀x∈r,r.foldl min a≤x:=by
   intro r
   induction r with
   |nil=>intro a;exact ⟨Int.le_refl _,by simp⟩
   |cons b r ih=>
    intro a
    obtain ⟨h1,h2⟩:=ih (min a b)
    simp only [List.foldl_cons]
    refine ⟨by omega,fun x hx=> ?_⟩
    rcases List.mem_cons.1 hx with rfl|hx
    ·omega
    ·exact h2 x hx
  obtain ⟨h1,h2⟩:=this r a
  rcases List.mem_cons.1 h with rfl|h
  ·exact h1
  ·exact h2 x h
theorem gE {l:List Int} {m:Nat} (h:m<l.length):l.getD m 0∈l:=by
 rw [List.getD_eq_getElem?_getD,List.getElem?_eq_getElem h];exact List.getElem_mem h
theorem DF {l:List Int} {m:Nat} (hm:m<l.length) (h1:∀j,j<l.length→l.getD m 0≤l.getD j 0) (h2:∀j,j<m→l.getD m 0<l.getD j 0):fc l (gU l)=m:=by
 have hmin:gU l=l.getD m 0:=by
  have g1:=vG (gE hm)
  obtain ⟨j,hj,e⟩:=List.getElem_of_mem (iC (l:=l) (by omega))
  have g2:=h1 j hj
  rw [List.getD_eq_getElem?_getD (l:=l) (i:=j),List.getElem?_eq_getElem hj,Option.getD_some,e] at g2
  omega
 refine bW (d:=0) hm (fun j hj=> ?_) ?_
 ·have:=h2 j hj
  rw [hmin];simp only [decide_eq_false_iff_not];omega
 ·rw [hmin];simp
theorem dH (g:Gr) (hm:aY g=true):Spec Tryz.prog 161 (Args [eG g]) [] (.d (sI (lG g))) []:=by
 have hn:=bM hm
 have hlf:(vE g).length=g.n.toNat:=leftK_length
 (refine Spec.hd (C:=T.cfg [] []) (rs:= [.t 2]) (T.ai _ _) Tryz.func161 rfl rfl Tryz.ntmps161 Tryz.results161 (by simp [AObj.isNest]) (by simp [AObj.isNest]) (by kernel_rfl) T.mixed fun X hX hP hC aF bY=> ?_)
 repeat' (first|refine Rn.p ?_|(with_reducible apply And.intro)|((first|(refine hK _ ?_;clear hK K)|with_reducible intro K hK|refine Rs.p ?_|((with_reducible first|apply oP|apply oQ);exact rfl)|refine aa hX hC hP (cU g hm) rfl rfl rfl (by simp only [go_sem,simprocAttr,sx]) rfl ?_|(refine ah hX hC hP (bh way x bX) rfl rfl rfl ?_ ?_ ?_ ?_;iterate 3 (focus (simp only [go_sem,simprocAttr,sx];done)))|(refine ah hX hC hP (bh way (a:Int) bX) rfl rfl rfl ?_ ?_ ?_ ?_;iterate 3 (focus (simp only [go_sem,simprocAttr,sx];done))));try simp only [go_sem,simprocAttr,sx])|((with_reducible refine oD ?_ ?_);kernel_rfl)|((with_reducible intro h);try simp only [go_sem,simprocAttr,sx] at h)|omega|intro h)
 refine ag (fun k:Nat=>k≤g.n.toNat∧∀j,j<k→(vE g).getD j false=false) (fun k=>⟨[(1, .ptr 1 0),(4,eN k),(3, .d (sB (vE g)))], [(1, .box [eN g.n, .d (sE g.es)])]⟩) (fun k=>g.n.toNat - k) 0 (by simp) ?_ ?_
 ·refine Le.of ?_ ?_<;>simp [go_sem,simprocAttr,vE]
 rintro k ⟨hk,hno⟩
 rcases Nat.lt_or_ge k g.n.toNat with hlt|hge
 ·have hb:decide ((k:Int)<g.n)=true:=decide_eq_true (by omega)
  cases hkb:(vE g).getD k false with
  |false=>
   repeat' (first|refine Rn.p ?_|(with_reducible apply And.intro)|((first|(refine hK _ ?_;clear hK K)|with_reducible intro K hK|refine Rs.p ?_|((with_reducible first|apply oP|apply oQ);exact rfl)|refine aa hX hC hP (cU g hm) rfl rfl rfl (by simp only [go_sem,simprocAttr,hb,hkb,hlf]) rfl ?_|(refine ah hX hC hP (bh way x bX) rfl rfl rfl ?_ ?_ ?_ ?_;iterate 3 (focus (simp only [go_sem,simprocAttr,hb,hkb,hlf];done)))|(refine ah hX hC hP (bh way (a:Int) bX) rfl rfl rfl ?_ ?_ ?_ ?_;iterate 3 (focus (simp only [go_sem,simprocAttr,hb,hkb,hlf];done))));try simp only [go_sem,simprocAttr,hb,hkb,hlf])|((with_reducible refine oD ?_ ?_);kernel_rfl)|((with_reducible intro h);try simp only [go_sem,simprocAttr,hb,hkb,hlf] at h)|omega|intro h)
   refine ⟨k+1,⟨by omega,fun j hj=> ?_⟩, ?_,by omega⟩
   ·by_cases hjk:j=k
    ·subst hjk;exact hkb
    ·exact hno j (by omega)
   ·(refine Le.of ?_ ?_<;>simp [go_sem,simprocAttr,hb,hkb,hlf])
  |true=>
   have hst:EY g=k:=by
    have:bR (fun b:Bool=>b) (vE g)=k:=bW (d:=false) (by omega) hno hkb
    unfold EY;rw [this,if_neg (by omega)]
   have hne:decide ((k:Int)=g.n)=false:=decide_eq_false (by omega)
   repeat' (first|refine Rn.p ?_|(with_reducible apply And.intro)|((first|(refine hK _ ?_;clear hK K)|with_reducible intro K hK|refine Rs.p ?_|((with_reducible first|apply oP|apply oQ);exact rfl)|refine aa hX hC hP (cU g hm) rfl rfl rfl (by simp only [go_sem,simprocAttr,hb,hkb,hlf,hne]) rfl ?_|(refine ah hX hC hP (bh way x bX) rfl rfl rfl ?_ ?_ ?_ ?_;iterate 3 (focus (simp only [go_sem,simprocAttr,hb,hkb,hlf,hne];done)))|(refine ah hX hC hP (bh way (a:Int) bX) rfl rfl rfl ?_ ?_ ?_ ?_;iterate 3 (focus (simp only [go_sem,simprocAttr,hb,hkb,hlf,hne];done))));try simp only [go_sem,simprocAttr,hb,hkb,hlf,hne])|((with_reducible refine oD ?_ ?_);kernel_rfl)|((with_reducible intro h);try simp only [go_sem,simprocAttr,hb,hkb,hlf,hne] at h)|omega|intro h)
   clear hno hb hne hkb
   (refine pJ hX 5 31 39 (by simp only [go_sem,simprocAttr]) rfl (by first|exact .inl rfl|exact .inr rfl) (by decide) ?_;simp only [go_sem,simprocAttr])
   refine ag (fun i:List Int × Int=>Way (gx g) i.1∧(0≤i.2∧i.2≤g.n)∧nt g (left (gx g) i.1) i.1 i.2=ox g) (fun i=>⟨[(1, .ptr 1 0),(4,eN i.2),(3, .d (sB (vE g))),(5, .ref 39)], [(1, .box [eN g.n, .d (sE g.es)]),(39, .tip 3 1 (i.1.map rI))]⟩) (fun i=>left (gx g) i.1) ([],(k:Int)) ⟨Way.nil _,by simp only;omega, ?_⟩ ?_ ?_
   ·simp only [ou,ox,gx,hst]
    rw [show (g.n+1).toNat=g.n.toNat+1 from by omega]
   ·refine Le.of ?_ ?_<;>simp [go_sem,simprocAttr]
   rintro ⟨way,x⟩ ⟨xM,hx,hrun⟩
   simp only at xM hx hrun ⊢
   have OJ:way.length≤65:=by have:=xM.fuel;simp only [gx] at this;omega
   have bX:way.length≤9223372036854775807:=by omega
   by_cases hmem:x∈way
   ·have hend:=xN (g:=g) hmem (left (gx g) way)
    rw [hrun] at hend
    obtain ⟨m,tP,hm2,_⟩:=dN hmem
    have hneg:decide ((m:Int)<0)=false:=decide_eq_false (by omega)
    obtain ⟨l,Gn⟩:∃l,l=way.drop m:=⟨_,rfl⟩
    have pM:l.length=way.length - m:=by rw [Gn];simp
    have Hj:lG g=uB l:=by
     simp only [lG,hend,tP,Int.toNat_natCast, ← Gn]
     rw [if_neg (by omega)]
    repeat' (first|refine Rn.p ?_|(with_reducible apply And.intro)|((first|(refine hK _ ?_;clear hK K)|with_reducible intro K hK|refine Rs.p ?_|((with_reducible first|apply oP|apply oQ);exact rfl)|refine aa hX hC hP (cU g hm) rfl rfl rfl (by simp only [go_sem,simprocAttr,tP,hneg, ← List.map_take, ← List.map_drop,List.take_length, ← Gn]) rfl ?_|(refine ah hX hC hP (bh way x bX) rfl rfl rfl ?_ ?_ ?_ ?_;iterate 3 (focus (simp only [go_sem,simprocAttr,tP,hneg, ← List.map_take, ← List.map_drop,List.take_length, ← Gn];done)))|(refine ah hX hC hP (bh way (a:Int) bX) rfl rfl rfl ?_ ?_ ?_ ?_;iterate 3 (focus (simp only [go_sem,simprocAttr,tP,hneg, ← List.map_take, ← List.map_drop,List.take_length, ← Gn];done))));try simp only [go_sem,simprocAttr,tP,hneg, ← List.map_take, ← List.map_drop,List.take_length, ← Gn])|((with_reducible refine oD ?_ ?_);kernel_rfl)|((with_reducible intro h);try simp only [go_sem,simprocAttr,tP,hneg, ← List.map_take, ← List.map_drop,List.take_length, ← Gn] at h)|omega|intro h)
    clear hrun xM hend tP hneg Gn
    have hl0:0<l.length:=by omega
    have hlm:l.length≤65:=by omega
    refine ag (fun i:Nat × Nat=>i.1≤l.length∧i.2<l.length∧(∀j,j<i.1→l.getD i.2 0≤l.getD j 0)∧(∀j,j<i.2→l.getD i.2 0<l.getD j 0)) (fun i=>⟨[(9,eN i.1),(8,eN i.2),(5, .d (sI l))], []⟩) (fun i=>l.length - i.1) (0,0) ⟨by simp,hl0,by simp,by simp⟩ ?_ ?_
    ·refine Le.of ?_ ?_<;>simp [go_sem,simprocAttr]
    rintro ⟨i,q⟩ ⟨hi,hq,hq1,Fx⟩
    simp only at hi hq hq1 Fx ⊢
    rcases Nat.lt_or_ge i l.length with hil|FC
    ·have hb:decide ((i:Int)<(l.length:Int))=true:=decide_eq_true (by omega)
     repeat' (first|refine Rn.p ?_|(with_reducible apply And.intro)|((first|(refine hK _ ?_;clear hK K)|with_reducible intro K hK|refine Rs.p ?_|((with_reducible first|apply oP|apply oQ);exact rfl)|refine aa hX hC hP (cU g hm) rfl rfl rfl (by simp only [go_sem,simprocAttr,hb]) rfl ?_|(refine ah hX hC hP (bh way x bX) rfl rfl rfl ?_ ?_ ?_ ?_;iterate 3 (focus (simp only [go_sem,simprocAttr,hb];done)))|(refine ah hX hC hP (bh way (a:Int) bX) rfl rfl rfl ?_ ?_ ?_ ?_;iterate 3 (focus (simp only [go_sem,simprocAttr,hb];done))));try simp only [go_sem,simprocAttr,hb])|((with_reducible refine oD ?_ ?_);kernel_rfl)|((with_reducible intro h);try simp only [go_sem,simprocAttr,hb] at h)|omega|intro h)
     ·refine ⟨(i+1,i),⟨by simp only;omega,hil,fun j hj=> ?_,fun j hj=> ?_⟩, ?_,by simp only;omega⟩
      ·simp only at hj ⊢
       by_cases hji:j=i
       ·subst hji;exact Int.le_refl _
       ·have:=hq1 j (by omega);omega
      ·simp only at hj ⊢
       have:=hq1 j hj;omega
      ·refine Le.of ?_ ?_<;>simp [go_sem,simprocAttr]
     ·refine ⟨(i+1,q),⟨by simp only;omega,hq,fun j hj=> ?_,Fx⟩, ?_,by simp only;omega⟩
      ·simp only at hj ⊢
       by_cases hji:j=i
       ·subst hji;omega
       ·exact hq1 j (by omega)
      ·refine Le.of ?_ ?_<;>simp [go_sem,simprocAttr]
    ·have hb:decide ((i:Int)<(l.length:Int))=false:=decide_eq_false (by omega)
     obtain rfl:i=l.length:=by omega
     have hidx:=DF hq hq1 Fx
     repeat' (first|refine Rn.p ?_|(with_reducible apply And.intro)|((first|(refine hK _ ?_;clear hK K)|with_reducible intro K hK|refine Rs.p ?_|((with_reducible first|apply oP|apply oQ);exact rfl)|refine aa hX hC hP (cU g hm) rfl rfl rfl (by simp only [go_sem,simprocAttr,hb]) rfl ?_|(refine ah hX hC hP (bh way x bX) rfl rfl rfl ?_ ?_ ?_ ?_;iterate 3 (focus (simp only [go_sem,simprocAttr,hb];done)))|(refine ah hX hC hP (bh way (a:Int) bX) rfl rfl rfl ?_ ?_ ?_ ?_;iterate 3 (focus (simp only [go_sem,simprocAttr,hb];done))));try simp only [go_sem,simprocAttr,hb])|((with_reducible refine oD ?_ ?_);kernel_rfl)|((with_reducible intro h);try simp only [go_sem,simprocAttr,hb] at h)|omega|intro h)
     clear hi hb FC
     (refine pJ hX 10 98 119 (by simp only [go_sem,simprocAttr]) rfl (by first|exact .inl rfl|exact .inr rfl) (by decide) ?_;simp only [go_sem,simprocAttr])
     refine ag (fun i:Nat=>i≤l.length) (fun i=>⟨[(5, .d (sI l)),(8,eN q),(11,eN i),(10, .ref 119)], [(119, .tip 3 1 ((qy l q i).map rI))]⟩) (fun i=>l.length - i) 0 (by simp) ?_ ?_
     ·refine Le.of ?_ ?_<;>simp [go_sem,simprocAttr,qy]
     rintro i hi
     have hrl:(qy l q i).length=i:=by simp [qy]
     rcases Nat.lt_or_ge i l.length with hil|FC
     ·have hb:decide ((i:Int)<(l.length:Int))=true:=decide_eq_true (by omega)
      have JC:((q:Int)+(l.length:Int) - (i:Int)).tmod (l.length:Int)=(((q+l.length - i) % l.length:Nat):Int):=by
       rw [show (q:Int)+(l.length:Int) - (i:Int)=((q+l.length - i:Nat):Int) from by omega]
       rw [Int.tmod_eq_emod_of_nonneg (by omega)];rfl
      have hmod:(q+l.length - i) % l.length<l.length:=Nat.mod_lt _ hl0
      repeat' (first|refine Rn.p ?_|(with_reducible apply And.intro)|((first|(refine hK _ ?_;clear hK K)|with_reducible intro K hK|refine Rs.p ?_|((with_reducible first|apply oP|apply oQ);exact rfl)|refine aa hX hC hP (cU g hm) rfl rfl rfl (by simp only [go_sem,simprocAttr,hb,JC]) rfl ?_|(refine ah hX hC hP (bh way x bX) rfl rfl rfl ?_ ?_ ?_ ?_;iterate 3 (focus (simp only [go_sem,simprocAttr,hb,JC];done)))|(refine ah hX hC hP (bh way (a:Int) bX) rfl rfl rfl ?_ ?_ ?_ ?_;iterate 3 (focus (simp only [go_sem,simprocAttr,hb,JC];done))));try simp only [go_sem,simprocAttr,hb,JC])|((with_reducible refine oD ?_ ?_);kernel_rfl)|((with_reducible intro h);try simp only [go_sem,simprocAttr,hb,JC] at h)|omega|intro h)
      refine ⟨i+1,by omega, ?_,by omega⟩
      rw [BD]
      refine Le.of ?_ ?_<;>simp [go_sem,simprocAttr,rI]
     ·have hb:decide ((i:Int)<(l.length:Int))=false:=decide_eq_false (by omega)
      obtain rfl:i=l.length:=by omega
      repeat' (first|refine Rn.p ?_|(with_reducible apply And.intro)|((first|(refine hK _ ?_;clear hK K)|with_reducible intro K hK|refine Rs.p ?_|((with_reducible first|apply oP|apply oQ);exact rfl)|refine aa hX hC hP (cU g hm) rfl rfl rfl (by simp only [go_sem,simprocAttr,hb]) rfl ?_|(refine ah hX hC hP (bh way x bX) rfl rfl rfl ?_ ?_ ?_ ?_;iterate 3 (focus (simp only [go_sem,simprocAttr,hb];done)))|(refine ah hX hC hP (bh way (a:Int) bX) rfl rfl rfl ?_ ?_ ?_ ?_;iterate 3 (focus (simp only [go_sem,simprocAttr,hb];done))));try simp only [go_sem,simprocAttr,hb])|((with_reducible refine oD ?_ ?_);kernel_rfl)|((with_reducible intro h);try simp only [go_sem,simprocAttr,hb] at h)|omega|intro h)
      rw [Hj,uB,hidx];rfl
   ·have hi:fc way x= -1:=by
     rcases fe (f:=fun y:Int=>decide (x=y)) (l:=way) 0 with ⟨h1,_⟩|⟨q,_,h2,h3,_⟩
     ·exact h1
     ·exact absurd (by rw [of_decide_eq_true h3,List.getD_eq_getElem?_getD,List.getElem?_eq_getElem h2];exact List.getElem_mem h2) hmem
    obtain ⟨a,rfl⟩:∃a:Nat,x=a:=⟨x.toNat,by omega⟩
    have Gm:a<(gx g).n.toNat:=by simp only [gx];omega
    repeat' (first|refine Rn.p ?_|(with_reducible apply And.intro)|((first|(refine hK _ ?_;clear hK K)|with_reducible intro K hK|refine Rs.p ?_|((with_reducible first|apply oP|apply oQ);exact rfl)|refine aa hX hC hP (cU g hm) rfl rfl rfl (by simp only [go_sem,simprocAttr,hi]) rfl ?_|(refine ah hX hC hP (bh way x bX) rfl rfl rfl ?_ ?_ ?_ ?_;iterate 3 (focus (simp only [go_sem,simprocAttr,hi];done)))|(refine ah hX hC hP (bh way (a:Int) bX) rfl rfl rfl ?_ ?_ ?_ ?_;iterate 3 (focus (simp only [go_sem,simprocAttr,hi];done))));try simp only [go_sem,simprocAttr,hi])|((with_reducible refine oD ?_ ?_);kernel_rfl)|((with_reducible intro h);try simp only [go_sem,simprocAttr,hi] at h)|omega|intro h)
    refine ag (fun j:Nat=>j≤g.es.length) (fun j=>⟨[(1, .ptr 1 0),(4,eN a),(3, .d (sB (vE g))),(5, .ref 39),(6,eN (ee g a j)),(7,eN j)], [(1, .box [eN g.n, .d (sE g.es)]),(39, .tip 3 1 ((way++ [(a:Int)]).map rI))]⟩) (fun j=>g.es.length - j) 0 (by simp) ?_ ?_
    ·refine Le.of ?_ ?_<;>simp [go_sem,simprocAttr,rI,ee]
    rintro j hj
    rcases Nat.lt_or_ge j g.es.length with hjl|Mr
    ·have aK:decide ((j:Int)<(g.es.length:Int))=true:=decide_eq_true (by omega)
     obtain ⟨⟨Dz,pg⟩,_⟩:=dZ hm hjl
     have ga:ee g a (j+1)=if (g.es.getD j (0,0)).2=(a:Int)∧(vE g).getD (g.es.getD j (0,0)).1.toNat false=true then min (ee g a j) (g.es.getD j (0,0)).1 else ee g a j:=nu
     repeat' (first|refine Rn.p ?_|(with_reducible apply And.intro)|((first|(refine hK _ ?_;clear hK K)|with_reducible intro K hK|refine Rs.p ?_|((with_reducible first|apply oP|apply oQ);exact rfl)|refine aa hX hC hP (cU g hm) rfl rfl rfl (by simp only [go_sem,simprocAttr,aK,hlf]) rfl ?_|(refine ah hX hC hP (bh way x bX) rfl rfl rfl ?_ ?_ ?_ ?_;iterate 3 (focus (simp only [go_sem,simprocAttr,aK,hlf];done)))|(refine ah hX hC hP (bh way (a:Int) bX) rfl rfl rfl ?_ ?_ ?_ ?_;iterate 3 (focus (simp only [go_sem,simprocAttr,aK,hlf];done))));try simp only [go_sem,simprocAttr,aK,hlf])|((with_reducible refine oD ?_ ?_);kernel_rfl)|((with_reducible intro h);try simp only [go_sem,simprocAttr,aK,hlf] at h)|omega|intro h)
     all_goals (first|rw [if_pos ⟨by assumption,by assumption⟩] at ga|rw [if_neg (fun e=>by first|exact absurd e.1 (by assumption)|simp_all)] at ga)
     all_goals (refine ⟨j+1,by omega, ?_,by omega⟩;refine Le.of ?_ ?_<;>simp [go_sem,simprocAttr,ga])
    ·have aK:decide ((j:Int)<(g.es.length:Int))=false:=decide_eq_false (by omega)
     obtain rfl:j=g.es.length:=by omega
     repeat' (first|refine Rn.p ?_|(with_reducible apply And.intro)|((first|(refine hK _ ?_;clear hK K)|with_reducible intro K hK|refine Rs.p ?_|((with_reducible first|apply oP|apply oQ);exact rfl)|refine aa hX hC hP (cU g hm) rfl rfl rfl (by simp only [go_sem,simprocAttr,aK]) rfl ?_|(refine ah hX hC hP (bh way x bX) rfl rfl rfl ?_ ?_ ?_ ?_;iterate 3 (focus (simp only [go_sem,simprocAttr,aK];done)))|(refine ah hX hC hP (bh way (a:Int) bX) rfl rfl rfl ?_ ?_ ?_ ?_;iterate 3 (focus (simp only [go_sem,simprocAttr,aK];done))));try simp only [go_sem,simprocAttr,aK])|((with_reducible refine oD ?_ ?_);kernel_rfl)|((with_reducible intro h);try simp only [go_sem,simprocAttr,aK] at h)|omega|intro h)
     refine ⟨(way++ [(a:Int)],ee g a g.es.length),⟨xM.next Gm hmem,qj hm (Nat.le_refl _), ?_⟩, ?_, ?_⟩
     ·simp only
      rw [← hrun,iB Gm hmem]
      simp only [nt]
      rw [if_neg hmem]
     ·refine Le.of ?_ ?_<;>simp [go_sem,simprocAttr]
     ·have:=iB Gm hmem;simp only;omega
 ·have hb:decide ((k:Int)<g.n)=false:=decide_eq_false (by omega)
  have hst:EY g=g.n:=by
   have:bR (fun b:Bool=>b) (vE g)= -1:=bD false fun j hj=>hno j (by omega)
   unfold EY;rw [this,if_pos (by omega)]
  have hne:decide ((k:Int)=g.n)=true:=decide_eq_true (by omega)
  repeat' (first|refine Rn.p ?_|(with_reducible apply And.intro)|((first|(refine hK _ ?_;clear hK K)|with_reducible intro K hK|refine Rs.p ?_|((with_reducible first|apply oP|apply oQ);exact rfl)|refine aa hX hC hP (cU g hm) rfl rfl rfl (by simp only [go_sem,simprocAttr,hb,hne]) rfl ?_|(refine ah hX hC hP (bh way x bX) rfl rfl rfl ?_ ?_ ?_ ?_;iterate 3 (focus (simp only [go_sem,simprocAttr,hb,hne];done)))|(refine ah hX hC hP (bh way (a:Int) bX) rfl rfl rfl ?_ ?_ ?_ ?_;iterate 3 (focus (simp only [go_sem,simprocAttr,hb,hne];done))));try simp only [go_sem,simprocAttr,hb,hne])|((with_reducible refine oD ?_ ?_);kernel_rfl)|((with_reducible intro h);try simp only [go_sem,simprocAttr,hb,hne] at h)|omega|intro h)
  simp only [lG];rw [if_pos hst];rfl
end Go.Ab
end
section
namespace Go.Ab
open Go.Proofs
attribute [local congr] ACall.congr gd.congr Nx.congr
set_option maxRecDepth 10000
def gj (g:Gr):Int × Int × List Int:=gD g (lG g) (dz (·.2) g)
theorem xO {l:List Edge} {k:Nat} {x:Edge} :x∈l.take k↔∃j,j<k∧j<l.length∧l.getD j (0,0)=x:=by
 rw [List.mem_iff_getElem?]
 constructor
 ·rintro ⟨j,hj⟩
  rw [List.getElem?_take] at hj
  split at hj
  ·exact ⟨j,by assumption,(List.getElem?_eq_some_iff.1 hj).1,by rw [List.getD_eq_getElem?_getD,hj];rfl⟩
  ·cases hj
 ·rintro ⟨j,h1,h2,h3⟩
  refine ⟨j, ?_⟩
  rw [List.getElem?_take,if_pos h1,List.getElem?_eq_getElem h2]
  rw [List.getD_eq_getElem?_getD,List.getElem?_eq_getElem h2] at h3
  exact congrArg some h3
theorem mP (g:Gr) (hl0:g.es.length≤1000):Spec Tryz.prog 104 (Args [eG g]) [] (.tup [eN (gj g).1,eN (gj g).2.1, .d (sI (gj g).2.2)]) []:=by
 have hl:g.es.length≤9223372036854775807:=by omega
 (refine Spec.hd (C:=T.cfg [] []) (rs:= [.t 2, .t 3, .t 4]) (T.ai _ _) Tryz.func104 rfl rfl Tryz.ntmps104 Tryz.results104 (by simp [AObj.isNest]) (by simp [AObj.isNest]) (by kernel_rfl) T.mixed fun X hX hP hC aF bY=> ?_)
 cases hm:aY g with
 |false=>
  repeat' (first|refine Rn.p ?_|(with_reducible apply And.intro)|((first|(refine hK _ ?_;clear hK K)|with_reducible intro K hK|refine Rs.p ?_|((with_reducible first|apply oP|apply oQ);exact rfl)|refine aa hX hC hP (cW g hl) rfl rfl rfl (by simp only [go_sem,simprocAttr,hm]) rfl ?_|refine aa hX hC hP (dH g hm) rfl rfl rfl (by simp only [go_sem,simprocAttr,hm]) rfl ?_|refine aa hX hC hP (c7 g true hl0 hn0) rfl rfl rfl (by simp only [go_sem,simprocAttr,hm]) rfl ?_);try simp only [go_sem,simprocAttr,hm])|((with_reducible refine oD ?_ ?_);kernel_rfl)|((with_reducible intro h);try simp only [go_sem,simprocAttr,hm] at h)|omega|intro h)
  all_goals simp [gj,gD,hm]
 |true=>
 have hn:=bM hm
 have hn0:0≤g.n∧g.n≤1000:=by omega
 repeat' (first|refine Rn.p ?_|(with_reducible apply And.intro)|((first|(refine hK _ ?_;clear hK K)|with_reducible intro K hK|refine Rs.p ?_|((with_reducible first|apply oP|apply oQ);exact rfl)|refine aa hX hC hP (cW g hl) rfl rfl rfl (by simp only [go_sem,simprocAttr,hm]) rfl ?_|refine aa hX hC hP (dH g hm) rfl rfl rfl (by simp only [go_sem,simprocAttr,hm]) rfl ?_|refine aa hX hC hP (c7 g true hl0 hn0) rfl rfl rfl (by simp only [go_sem,simprocAttr,hm]) rfl ?_);try simp only [go_sem,simprocAttr,hm])|((with_reducible refine oD ?_ ?_);kernel_rfl)|((with_reducible intro h);try simp only [go_sem,simprocAttr,hm] at h)|omega|intro h)
 refine ag (fun k:Nat=>k≤g.es.length∧∀j,j<k→decide ((g.es.getD j (0,0)).1=(g.es.getD j (0,0)).2)=false) (fun k=>⟨[(5,eN k),(1, .ptr 1 0)], [(1, .box [eN g.n, .d (sE g.es)])]⟩) (fun k=>g.es.length - k) 0 (by simp) ?_ ?_
 ·(refine Le.of ?_ ?_<;>simp [go_sem,simprocAttr,hm])
 rintro k ⟨hk,hno⟩
 rcases Nat.lt_or_ge k g.es.length with hlt|hge
 ·have aK:decide ((k:Int)<(g.es.length:Int))=true:=decide_eq_true (by omega)
  repeat' (first|refine Rn.p ?_|(with_reducible apply And.intro)|((first|(refine hK _ ?_;clear hK K)|with_reducible intro K hK|refine Rs.p ?_|((with_reducible first|apply oP|apply oQ);exact rfl)|refine aa hX hC hP (cW g hl) rfl rfl rfl (by simp only [go_sem,simprocAttr,hm,aK]) rfl ?_|refine aa hX hC hP (dH g hm) rfl rfl rfl (by simp only [go_sem,simprocAttr,hm,aK]) rfl ?_|refine aa hX hC hP (c7 g true hl0 hn0) rfl rfl rfl (by simp only [go_sem,simprocAttr,hm,aK]) rfl ?_);try simp only [go_sem,simprocAttr,hm,aK])|((with_reducible refine oD ?_ ?_);kernel_rfl)|((with_reducible intro h);try simp only [go_sem,simprocAttr,hm,aK] at h)|omega|intro h)
  any_goals (
   have hlo:jC g=(k:Int):=bW (d:=(0,0)) hlt hno (decide_eq_true h)
   have hc:gj g=(13,jC g, []):=by
    simp only [gj,gD];rw [if_neg (by simp [hm]),if_pos (by omega)]
   rw [hc]<;>first|rfl|exact hlo.symm)
  refine ⟨k+1,⟨by omega,fun j hj=> ?_⟩, ?_,by omega⟩
  ·by_cases hjk:j=k
   ·subst hjk;exact h
   ·simpa using hno j (by omega)
  ·(refine Le.of ?_ ?_<;>simp [go_sem,simprocAttr,hm,aK])
 ·have aK:decide ((k:Int)<(g.es.length:Int))=false:=decide_eq_false (by omega)
  have hlo:¬0≤jC g:=by
   have:jC g= -1:=bD (0,0) fun j hj=>hno j (by omega)
   omega
  repeat' (first|refine Rn.p ?_|(with_reducible apply And.intro)|((first|(refine hK _ ?_;clear hK K)|with_reducible intro K hK|refine Rs.p ?_|((with_reducible first|apply oP|apply oQ);exact rfl)|refine aa hX hC hP (cW g hl) rfl rfl rfl (by simp only [go_sem,simprocAttr,hm,aK]) rfl ?_|refine aa hX hC hP (dH g hm) rfl rfl rfl (by simp only [go_sem,simprocAttr,hm,aK]) rfl ?_|refine aa hX hC hP (c7 g true hl0 hn0) rfl rfl rfl (by simp only [go_sem,simprocAttr,hm,aK]) rfl ?_);try simp only [go_sem,simprocAttr,hm,aK])|((with_reducible refine oD ?_ ?_);kernel_rfl)|((with_reducible intro h);try simp only [go_sem,simprocAttr,hm,aK] at h)|omega|intro h)
  clear hno aK hk hge
  refine ag (fun k:Nat=>k≤g.es.length∧∀j,j<k→nq g j=false) (fun k=>⟨[(6,eN k),(1, .ptr 1 0)], [(1, .box [eN g.n, .d (sE g.es)])]⟩) (fun k=>g.es.length - k) 0 (by simp) ?_ ?_
  ·(refine Le.of ?_ ?_<;>simp [go_sem,simprocAttr])
  rintro k ⟨hk,Hl⟩
  rcases Nat.lt_or_ge k g.es.length with hlt|hge
  ·have aK:decide ((k:Int)<(g.es.length:Int))=true:=decide_eq_true (by omega)
   repeat' (first|refine Rn.p ?_|(with_reducible apply And.intro)|((first|(refine hK _ ?_;clear hK K)|with_reducible intro K hK|refine Rs.p ?_|((with_reducible first|apply oP|apply oQ);exact rfl)|refine aa hX hC hP (cW g hl) rfl rfl rfl (by simp only [go_sem,simprocAttr,hm,aK]) rfl ?_|refine aa hX hC hP (dH g hm) rfl rfl rfl (by simp only [go_sem,simprocAttr,hm,aK]) rfl ?_|refine aa hX hC hP (c7 g true hl0 hn0) rfl rfl rfl (by simp only [go_sem,simprocAttr,hm,aK]) rfl ?_);try simp only [go_sem,simprocAttr,hm,aK])|((with_reducible refine oD ?_ ?_);kernel_rfl)|((with_reducible intro h);try simp only [go_sem,simprocAttr,hm,aK] at h)|omega|intro h)
   refine ag (fun q:Nat=>q≤k∧∀j,j<q→¬g.es.getD j (0,0)=g.es.getD k (0,0)) (fun q=>⟨[(6,eN k),(7,eN q),(1, .ptr 1 0)], [(1, .box [eN g.n, .d (sE g.es)])]⟩) (fun q=>k - q) 0 (by simp) ?_ ?_
   ·(refine Le.of ?_ ?_<;>simp [go_sem,simprocAttr,hm,aK])
   rintro q ⟨hq,hne⟩
   rcases Nat.lt_or_ge q k with FD|FD
   ·have cQ:decide ((q:Int)<(k:Int))=true:=decide_eq_true (by omega)
    repeat' (first|refine Rn.p ?_|(with_reducible apply And.intro)|((first|(refine hK _ ?_;clear hK K)|with_reducible intro K hK|refine Rs.p ?_|((with_reducible first|apply oP|apply oQ);exact rfl)|refine aa hX hC hP (cW g hl) rfl rfl rfl (by simp only [go_sem,simprocAttr,cQ,iU]) rfl ?_|refine aa hX hC hP (dH g hm) rfl rfl rfl (by simp only [go_sem,simprocAttr,cQ,iU]) rfl ?_|refine aa hX hC hP (c7 g true hl0 hn0) rfl rfl rfl (by simp only [go_sem,simprocAttr,cQ,iU]) rfl ?_);try simp only [go_sem,simprocAttr,cQ,iU])|((with_reducible refine oD ?_ ?_);kernel_rfl)|((with_reducible intro h);try simp only [go_sem,simprocAttr,cQ,iU] at h)|omega|intro h)
    any_goals (
     have DD:nq g k=true:=decide_eq_true (xO.2 ⟨q,FD,by omega,h⟩)
     have Mq:ff g=(k:Int):=bW (d:=0) (by simpa using hlt) (fun j hj=>by rw [cA (by omega)];exact Hl j hj) (by rw [cA hlt];exact DD)
     have hc:gj g=(14,ff g, []):=by
      simp only [gj,gD];rw [if_neg (by simp [hm]),if_neg hlo,if_pos (by omega)]
     rw [hc]<;>first|rfl|exact Mq.symm)
    refine ⟨q+1,⟨by omega,fun j hj=> ?_⟩, ?_,by omega⟩
    ·by_cases hjk:j=q
     ·subst hjk;exact h
     ·exact hne j (by omega)
    ·refine Le.of ?_ ?_<;>simp [go_sem,simprocAttr]
   ·have cQ:decide ((q:Int)<(k:Int))=false:=decide_eq_false (by omega)
    repeat' (first|refine Rn.p ?_|(with_reducible apply And.intro)|((first|(refine hK _ ?_;clear hK K)|with_reducible intro K hK|refine Rs.p ?_|((with_reducible first|apply oP|apply oQ);exact rfl)|refine aa hX hC hP (cW g hl) rfl rfl rfl (by simp only [go_sem,simprocAttr,cQ]) rfl ?_|refine aa hX hC hP (dH g hm) rfl rfl rfl (by simp only [go_sem,simprocAttr,cQ]) rfl ?_|refine aa hX hC hP (c7 g true hl0 hn0) rfl rfl rfl (by simp only [go_sem,simprocAttr,cQ]) rfl ?_);try simp only [go_sem,simprocAttr,cQ])|((with_reducible refine oD ?_ ?_);kernel_rfl)|((with_reducible intro h);try simp only [go_sem,simprocAttr,cQ] at h)|omega|intro h)
    refine ⟨k+1,⟨by omega,fun j hj=> ?_⟩, ?_,by omega⟩
    ·by_cases hjk:j=k
     ·subst hjk
      refine decide_eq_false fun h=> ?_
      obtain ⟨i,h1,_,h3⟩:=xO.1 h
      exact hne i (by omega) h3
     ·exact Hl j (by omega)
    ·(refine Le.of ?_ ?_<;>simp [go_sem,simprocAttr,cQ])
  ·have aK:decide ((k:Int)<(g.es.length:Int))=false:=decide_eq_false (by omega)
   have DD:¬0≤ff g:=by
    have:ff g= -1:=bD 0 fun j hj=>by
     rw [List.length_range] at hj
     rw [cA hj];exact Hl j (by omega)
    omega
   repeat' (first|refine Rn.p ?_|(with_reducible apply And.intro)|((first|(refine hK _ ?_;clear hK K)|with_reducible intro K hK|refine Rs.p ?_|((with_reducible first|apply oP|apply oQ);exact rfl)|refine aa hX hC hP (cW g hl) rfl rfl rfl (by simp only [go_sem,simprocAttr,hm,aK]) rfl ?_|refine aa hX hC hP (dH g hm) rfl rfl rfl (by simp only [go_sem,simprocAttr,hm,aK]) rfl ?_|refine aa hX hC hP (c7 g true hl0 hn0) rfl rfl rfl (by simp only [go_sem,simprocAttr,hm,aK]) rfl ?_);try simp only [go_sem,simprocAttr,hm,aK])|((with_reducible refine oD ?_ ?_);kernel_rfl)|((with_reducible intro h);try simp only [go_sem,simprocAttr,hm,aK] at h)|omega|intro h)
   all_goals (
    have hc:gj g=if 0<(lG g).length then (15,0,lG g) else if 1<(dz (kO false) g).length then (16,0,(dz (kO false) g).take 2) else (0,0, []):=by
     show gD g (lG g) (dz (kO false) g)=_
     simp only [gD];rw [if_neg (by simp [hm]),if_neg hlo,if_neg DD]
    first|rw [if_pos (by omega)] at hc|(rw [if_neg (by omega)] at hc;first|rw [if_pos (by omega)] at hc|rw [if_neg (by omega)] at hc)
    rw [hc]<;>first|rfl|simp only [List.map_take])
end Go.Ab
end
