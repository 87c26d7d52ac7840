/- A part of the proof. -/
import Derived.Test.YtchjjbfhlchpfaaGreatProg
import Derived.Test.YtchjjbfhlchpfaaGreatL2P9
set_option linter.unusedSimpArgs false
set_option linter.unusedVariables false
section
namespace Go.Ab.T
open Go.Proofs
def T:Nat→Option TI
 |2=>some ⟨(.int .i64),1,8, [(.d (.sc (.int .i64 0)))]⟩
 |3=>some ⟨(.int .i64),1,8, [(.d (.sc (.int .i64 0)))]⟩
 |4=>some ⟨.bool,1,1, [(.d (.sc (.bool false)))]⟩
 |5=>some ⟨(.int .u8),1,1, [(.d (.sc (.int .u8 0)))]⟩
 |9=>some ⟨.sc,1,16, [(.d (.sc (.string ⟨#[]⟩)))]⟩
 |12=>some ⟨(.int .u64),1,8, [(.d (.sc (.int .u64 0)))]⟩
 |21=>some ⟨(.int .i32),1,4, [(.d (.sc (.int .i32 0)))]⟩
 |22=>some ⟨(.sl 73),1,24, [(.nil 73)]⟩
 |24=>some ⟨(.st [(0,3),(1,22)]),2,32, [(.d (.sc (.int .i64 0))),(.nil 73)]⟩
 |25=>some ⟨(.sl 71),1,24, [(.nil 71)]⟩
 |26=>some ⟨(.sl 25),1,24, [(.nil 25)]⟩
 |28=>some ⟨(.st [(0,25),(1,26)]),2,48, [(.nil 71),(.nil 25)]⟩
 |31=>some ⟨(.sl 3),1,24, [(.nil 3)]⟩
 |32=>some ⟨(.sl 31),1,24, [(.nil 31)]⟩
 |34=>some ⟨(.st [(0,31),(1,32)]),2,48, [(.nil 3),(.nil 31)]⟩
 |35=>some ⟨(.int .i64),1,8, [(.d (.sc (.int .i64 0)))]⟩
 |46=>some ⟨(.sl 49),1,24, [(.nil 49)]⟩
 |48=>some ⟨(.int .u64),1,8, [(.d (.sc (.int .u64 0)))]⟩
 |49=>some ⟨(.int .u64),1,8, [(.d (.sc (.int .u64 0)))]⟩
 |50=>some ⟨.sc,1,8, [(.d (.sc .nilFunc))]⟩
 |53=>some ⟨(.st [(0,31),(1,31),(2,31),(3,31)]),4,96, [(.nil 3),(.nil 3),(.nil 3),(.nil 3)]⟩
 |63=>some ⟨(.sl 64),1,24, [(.nil 64)]⟩
 |64=>some ⟨(.sl 100),1,24, [(.nil 100)]⟩
 |66=>some ⟨(.st [(0,35),(1,3),(2,31)]),3,40, [(.d (.sc (.int .i64 0))),(.d (.sc (.int .i64 0))),(.nil 3)]⟩
 |71=>some ⟨(.st [(0,3),(1,3)]),2,16, [(.d (.sc (.int .i64 0))),(.d (.sc (.int .i64 0)))]⟩
 |73=>some ⟨(.st [(0,3),(1,3)]),2,16, [(.d (.sc (.int .i64 0))),(.d (.sc (.int .i64 0)))]⟩
 |82=>some ⟨(.pt 137),1,8, [(.d (.sc (.pointer none)))]⟩
 |92=>some ⟨(.sl 4),1,24, [(.nil 4)]⟩
 |100=>some ⟨(.st [(0,3),(1,3),(2,3)]),3,24, [(.d (.sc (.int .i64 0))),(.d (.sc (.int .i64 0))),(.d (.sc (.int .i64 0)))]⟩
 |103=>some ⟨(.pt 105),1,8, [(.d (.sc (.pointer none)))]⟩
 |105=>some ⟨(.st [(0,31),(1,31),(2,53)]),6,144, [(.nil 3),(.nil 3),(.nil 3),(.nil 3),(.nil 3),(.nil 3)]⟩
 |111=>some ⟨(.pt 115),1,8, [(.d (.sc (.pointer none)))]⟩
 |115=>some ⟨(.st [(0,24),(2,34),(4,69)]),5,88, [(.d (.sc (.int .i64 0))),(.nil 73),(.nil 3),(.nil 31),(.d (.sc (.map none)))]⟩
 |119=>some ⟨(.pt 129),1,8, [(.d (.sc (.pointer none)))]⟩
 |127=>some ⟨(.st [(0,64)]),1,24, [(.nil 100)]⟩
 |129=>some ⟨(.st [(0,127),(1,82),(2,31)]),3,56, [(.nil 100),(.d (.sc (.pointer none))),(.nil 3)]⟩
 |131=>some ⟨(.pt 133),1,8, [(.d (.sc (.pointer none)))]⟩
 |133=>some ⟨(.st [(0,24),(2,28)]),4,80, [(.d (.sc (.int .i64 0))),(.nil 73),(.nil 71),(.nil 25)]⟩
 |137=>some ⟨(.st [(0,24),(2,32),(3,32)]),4,80, [(.d (.sc (.int .i64 0))),(.nil 73),(.nil 31),(.nil 31)]⟩
 |142=>some ⟨(.int .u64),1,8, [(.d (.sc (.int .u64 0)))]⟩
 |150=>some ⟨(.pt 152),1,8, [(.d (.sc (.pointer none)))]⟩
 |152=>some ⟨(.st [(0,24),(2,64),(3,31)]),4,80, [(.d (.sc (.int .i64 0))),(.nil 73),(.nil 100),(.nil 3)]⟩
 |159=>some ⟨(.pt 161),1,8, [(.d (.sc (.pointer none)))]⟩
 |161=>some ⟨(.st [(0,24),(2,34)]),4,80, [(.d (.sc (.int .i64 0))),(.nil 73),(.nil 3),(.nil 31)]⟩
 |173=>some ⟨(.pt 127),1,8, [(.d (.sc (.pointer none)))]⟩
 |183=>some ⟨(.sl 185),1,24, [(.nil 185)]⟩
 |185=>some ⟨(.st [(0,71),(2,71)]),4,32, [(.d (.sc (.int .i64 0))),(.d (.sc (.int .i64 0))),(.d (.sc (.int .i64 0))),(.d (.sc (.int .i64 0)))]⟩
 |192=>some ⟨(.int .i64),1,8, [(.d (.sc (.int .i64 0)))]⟩
 |199=>some ⟨(.int .u32),1,4, [(.d (.sc (.int .u32 0)))]⟩
 |214=>some ⟨(.ar 2 3),2,16, [(.d (.sc (.int .i64 0))),(.d (.sc (.int .i64 0)))]⟩
 |215=>some ⟨(.mp 71 3),1,8, [(.d (.sc (.map none)))]⟩
 |216=>some ⟨(.ar 2 71),4,32, [(.d (.sc (.int .i64 0))),(.d (.sc (.int .i64 0))),(.d (.sc (.int .i64 0))),(.d (.sc (.int .i64 0)))]⟩
 |218=>some ⟨(.int .u64),1,8, [(.d (.sc (.int .u64 0)))]⟩
 |222=>some ⟨(.pt 3),1,8, [(.d (.sc (.pointer none)))]⟩
 |230=>some ⟨(.pt 218),1,8, [(.d (.sc (.pointer none)))]⟩
 |251=>some ⟨(.pt 5),1,8, [(.d (.sc (.pointer none)))]⟩
 |_=>none
theorem T2:T 2=some ⟨(.int .i64),1,8, [(.d (.sc (.int .i64 0)))]⟩:=rfl
theorem T3:T 3=some ⟨(.int .i64),1,8, [(.d (.sc (.int .i64 0)))]⟩:=rfl
theorem T4:T 4=some ⟨.bool,1,1, [(.d (.sc (.bool false)))]⟩:=rfl
theorem T5:T 5=some ⟨(.int .u8),1,1, [(.d (.sc (.int .u8 0)))]⟩:=rfl
theorem T9:T 9=some ⟨.sc,1,16, [(.d (.sc (.string ⟨#[]⟩)))]⟩:=rfl
theorem T12:T 12=some ⟨(.int .u64),1,8, [(.d (.sc (.int .u64 0)))]⟩:=rfl
theorem T21:T 21=some ⟨(.int .i32),1,4, [(.d (.sc (.int .i32 0)))]⟩:=rfl
theorem T22:T 22=some ⟨(.sl 73),1,24, [(.nil 73)]⟩:=rfl
theorem T24:T 24=some ⟨(.st [(0,3),(1,22)]),2,32, [(.d (.sc (.int .i64 0))),(.nil 73)]⟩:=rfl
theorem T25:T 25=some ⟨(.sl 71),1,24, [(.nil 71)]⟩:=rfl
theorem T26:T 26=some ⟨(.sl 25),1,24, [(.nil 25)]⟩:=rfl
theorem T28:T 28=some ⟨(.st [(0,25),(1,26)]),2,48, [(.nil 71),(.nil 25)]⟩:=rfl
theorem T31:T 31=some ⟨(.sl 3),1,24, [(.nil 3)]⟩:=rfl
theorem T32:T 32=some ⟨(.sl 31),1,24, [(.nil 31)]⟩:=rfl
theorem T34:T 34=some ⟨(.st [(0,31),(1,32)]),2,48, [(.nil 3),(.nil 31)]⟩:=rfl
theorem T35:T 35=some ⟨(.int .i64),1,8, [(.d (.sc (.int .i64 0)))]⟩:=rfl
theorem T46:T 46=some ⟨(.sl 49),1,24, [(.nil 49)]⟩:=rfl
theorem T48:T 48=some ⟨(.int .u64),1,8, [(.d (.sc (.int .u64 0)))]⟩:=rfl
theorem T49:T 49=some ⟨(.int .u64),1,8, [(.d (.sc (.int .u64 0)))]⟩:=rfl
theorem T50:T 50=some ⟨.sc,1,8, [(.d (.sc .nilFunc))]⟩:=rfl
theorem T53:T 53=some ⟨(.st [(0,31),(1,31),(2,31),(3,31)]),4,96, [(.nil 3),(.nil 3),(.nil 3),(.nil 3)]⟩:=rfl
theorem T63:T 63=some ⟨(.sl 64),1,24, [(.nil 64)]⟩:=rfl
theorem T64:T 64=some ⟨(.sl 100),1,24, [(.nil 100)]⟩:=rfl
theorem T66:T 66=some ⟨(.st [(0,35),(1,3),(2,31)]),3,40, [(.d (.sc (.int .i64 0))),(.d (.sc (.int .i64 0))),(.nil 3)]⟩:=rfl
theorem T71:T 71=some ⟨(.st [(0,3),(1,3)]),2,16, [(.d (.sc (.int .i64 0))),(.d (.sc (.int .i64 0)))]⟩:=rfl
theorem T73:T 73=some ⟨(.st [(0,3),(1,3)]),2,16, [(.d (.sc (.int .i64 0))),(.d (.sc (.int .i64 0)))]⟩:=rfl
theorem T82:T 82=some ⟨(.pt 137),1,8, [(.d (.sc (.pointer none)))]⟩:=rfl
theorem T92:T 92=some ⟨(.sl 4),1,24, [(.nil 4)]⟩:=rfl
theorem T100:T 100=some ⟨(.st [(0,3),(1,3),(2,3)]),3,24, [(.d (.sc (.int .i64 0))),(.d (.sc (.int .i64 0))),(.d (.sc (.int .i64 0)))]⟩:=rfl
theorem T103:T 103=some ⟨(.pt 105),1,8, [(.d (.sc (.pointer none)))]⟩:=rfl
theorem T105:T 105=some ⟨(.st [(0,31),(1,31),(2,53)]),6,144, [(.nil 3),(.nil 3),(.nil 3),(.nil 3),(.nil 3),(.nil 3)]⟩:=rfl
theorem T111:T 111=some ⟨(.pt 115),1,8, [(.d (.sc (.pointer none)))]⟩:=rfl
theorem T115:T 115=some ⟨(.st [(0,24),(2,34),(4,69)]),5,88, [(.d (.sc (.int .i64 0))),(.nil 73),(.nil 3),(.nil 31),(.d (.sc (.map none)))]⟩:=rfl
theorem T119:T 119=some ⟨(.pt 129),1,8, [(.d (.sc (.pointer none)))]⟩:=rfl
theorem T127:T 127=some ⟨(.st [(0,64)]),1,24, [(.nil 100)]⟩:=rfl
theorem T129:T 129=some ⟨(.st [(0,127),(1,82),(2,31)]),3,56, [(.nil 100),(.d (.sc (.pointer none))),(.nil 3)]⟩:=rfl
theorem T131:T 131=some ⟨(.pt 133),1,8, [(.d (.sc (.pointer none)))]⟩:=rfl
theorem T133:T 133=some ⟨(.st [(0,24),(2,28)]),4,80, [(.d (.sc (.int .i64 0))),(.nil 73),(.nil 71),(.nil 25)]⟩:=rfl
theorem T137:T 137=some ⟨(.st [(0,24),(2,32),(3,32)]),4,80, [(.d (.sc (.int .i64 0))),(.nil 73),(.nil 31),(.nil 31)]⟩:=rfl
theorem T142:T 142=some ⟨(.int .u64),1,8, [(.d (.sc (.int .u64 0)))]⟩:=rfl
theorem T150:T 150=some ⟨(.pt 152),1,8, [(.d (.sc (.pointer none)))]⟩:=rfl
theorem T152:T 152=some ⟨(.st [(0,24),(2,64),(3,31)]),4,80, [(.d (.sc (.int .i64 0))),(.nil 73),(.nil 100),(.nil 3)]⟩:=rfl
theorem T159:T 159=some ⟨(.pt 161),1,8, [(.d (.sc (.pointer none)))]⟩:=rfl
theorem T161:T 161=some ⟨(.st [(0,24),(2,34)]),4,80, [(.d (.sc (.int .i64 0))),(.nil 73),(.nil 3),(.nil 31)]⟩:=rfl
theorem T173:T 173=some ⟨(.pt 127),1,8, [(.d (.sc (.pointer none)))]⟩:=rfl
theorem T183:T 183=some ⟨(.sl 185),1,24, [(.nil 185)]⟩:=rfl
theorem T185:T 185=some ⟨(.st [(0,71),(2,71)]),4,32, [(.d (.sc (.int .i64 0))),(.d (.sc (.int .i64 0))),(.d (.sc (.int .i64 0))),(.d (.sc (.int .i64 0)))]⟩:=rfl
theorem T192:T 192=some ⟨(.int .i64),1,8, [(.d (.sc (.int .i64 0)))]⟩:=rfl
theorem T199:T 199=some ⟨(.int .u32),1,4, [(.d (.sc (.int .u32 0)))]⟩:=rfl
theorem T214:T 214=some ⟨(.ar 2 3),2,16, [(.d (.sc (.int .i64 0))),(.d (.sc (.int .i64 0)))]⟩:=rfl
theorem T215:T 215=some ⟨(.mp 71 3),1,8, [(.d (.sc (.map none)))]⟩:=rfl
theorem T216:T 216=some ⟨(.ar 2 71),4,32, [(.d (.sc (.int .i64 0))),(.d (.sc (.int .i64 0))),(.d (.sc (.int .i64 0))),(.d (.sc (.int .i64 0)))]⟩:=rfl
theorem T218:T 218=some ⟨(.int .u64),1,8, [(.d (.sc (.int .u64 0)))]⟩:=rfl
theorem T222:T 222=some ⟨(.pt 3),1,8, [(.d (.sc (.pointer none)))]⟩:=rfl
theorem T230:T 230=some ⟨(.pt 218),1,8, [(.d (.sc (.pointer none)))]⟩:=rfl
theorem T251:T 251=some ⟨(.pt 5),1,8, [(.d (.sc (.pointer none)))]⟩:=rfl
def zn:Nat→Option Nat
 |71=>some 2
 |73=>some 2
 |100=>some 3
 |_=>none
theorem eqn71:zn 71=some 2:=rfl
theorem eqn73:zn 73=some 2:=rfl
theorem eqn100:zn 100=some 3:=rfl
theorem N7:aE Tryz.prog 2 ⟨(.int .i64),1,8, [(.d (.sc (.int .i64 0)))]⟩:=aE.mk' (by kernel_rfl) (by kernel_rfl) rfl Tryz.underlying2
theorem N8:aE Tryz.prog 3 ⟨(.int .i64),1,8, [(.d (.sc (.int .i64 0)))]⟩:=aE.mk' (by kernel_rfl) (by kernel_rfl) rfl Tryz.underlying3
theorem N9:aE Tryz.prog 4 ⟨.bool,1,1, [(.d (.sc (.bool false)))]⟩:=aE.mk' (by kernel_rfl) (by kernel_rfl) rfl Tryz.underlying4
theorem Oa:aE Tryz.prog 5 ⟨(.int .u8),1,1, [(.d (.sc (.int .u8 0)))]⟩:=aE.mk' (by kernel_rfl) (by kernel_rfl) rfl Tryz.underlying5
theorem Ob:aE Tryz.prog 9 ⟨.sc,1,16, [(.d (.sc (.string ⟨#[]⟩)))]⟩:=aE.mk' (by kernel_rfl) (by kernel_rfl) rfl ⟨_,Tryz.underlying9,trivial⟩
theorem Lk:aE Tryz.prog 12 ⟨(.int .u64),1,8, [(.d (.sc (.int .u64 0)))]⟩:=aE.mk' (by kernel_rfl) (by kernel_rfl) rfl Tryz.underlying12
theorem Ll:aE Tryz.prog 21 ⟨(.int .i32),1,4, [(.d (.sc (.int .i32 0)))]⟩:=aE.mk' (by kernel_rfl) (by kernel_rfl) rfl Tryz.underlying21
theorem Lm:aE Tryz.prog 22 ⟨(.sl 73),1,24, [(.nil 73)]⟩:=aE.mk' (by kernel_rfl) (by kernel_rfl) rfl Tryz.underlying22
theorem Ln:aE Tryz.prog 24 ⟨(.st [(0,3),(1,22)]),2,32, [(.d (.sc (.int .i64 0))),(.nil 73)]⟩:=aE.mk' (by kernel_rfl) (by kernel_rfl) rfl ⟨_,Tryz.underlying24,rfl⟩
theorem Lo:aE Tryz.prog 25 ⟨(.sl 71),1,24, [(.nil 71)]⟩:=aE.mk' (by kernel_rfl) (by kernel_rfl) rfl Tryz.underlying25
theorem Lq:aE Tryz.prog 26 ⟨(.sl 25),1,24, [(.nil 25)]⟩:=aE.mk' (by kernel_rfl) (by kernel_rfl) rfl Tryz.underlying26
theorem Lr:aE Tryz.prog 28 ⟨(.st [(0,25),(1,26)]),2,48, [(.nil 71),(.nil 25)]⟩:=aE.mk' (by kernel_rfl) (by kernel_rfl) rfl ⟨_,Tryz.underlying28,rfl⟩
theorem Ls:aE Tryz.prog 31 ⟨(.sl 3),1,24, [(.nil 3)]⟩:=aE.mk' (by kernel_rfl) (by kernel_rfl) rfl Tryz.underlying31
theorem Lt:aE Tryz.prog 32 ⟨(.sl 31),1,24, [(.nil 31)]⟩:=aE.mk' (by kernel_rfl) (by kernel_rfl) rfl Tryz.underlying32
theorem Lu:aE Tryz.prog 34 ⟨(.st [(0,31),(1,32)]),2,48, [(.nil 3),(.nil 31)]⟩:=aE.mk' (by kernel_rfl) (by kernel_rfl) rfl ⟨_,Tryz.underlying34,rfl⟩
theorem Lv:aE Tryz.prog 35 ⟨(.int .i64),1,8, [(.d (.sc (.int .i64 0)))]⟩:=aE.mk' (by kernel_rfl) (by kernel_rfl) rfl Tryz.underlying35
theorem Lw:aE Tryz.prog 46 ⟨(.sl 49),1,24, [(.nil 49)]⟩:=aE.mk' (by kernel_rfl) (by kernel_rfl) rfl Tryz.underlying46
theorem Lx:aE Tryz.prog 48 ⟨(.int .u64),1,8, [(.d (.sc (.int .u64 0)))]⟩:=aE.mk' (by kernel_rfl) (by kernel_rfl) rfl Tryz.underlying48
theorem Lz:aE Tryz.prog 49 ⟨(.int .u64),1,8, [(.d (.sc (.int .u64 0)))]⟩:=aE.mk' (by kernel_rfl) (by kernel_rfl) rfl Tryz.underlying49
theorem LB:aE Tryz.prog 50 ⟨.sc,1,8, [(.d (.sc .nilFunc))]⟩:=aE.mk' (by kernel_rfl) (by kernel_rfl) rfl ⟨_,Tryz.underlying50,trivial⟩
theorem LC:aE Tryz.prog 53 ⟨(.st [(0,31),(1,31),(2,31),(3,31)]),4,96, [(.nil 3),(.nil 3),(.nil 3),(.nil 3)]⟩:=aE.mk' (by kernel_rfl) (by kernel_rfl) rfl ⟨_,Tryz.underlying53,rfl⟩
theorem LD:aE Tryz.prog 63 ⟨(.sl 64),1,24, [(.nil 64)]⟩:=aE.mk' (by kernel_rfl) (by kernel_rfl) rfl Tryz.underlying63
theorem LF:aE Tryz.prog 64 ⟨(.sl 100),1,24, [(.nil 100)]⟩:=aE.mk' (by kernel_rfl) (by kernel_rfl) rfl Tryz.underlying64
theorem LG:aE Tryz.prog 66 ⟨(.st [(0,35),(1,3),(2,31)]),3,40, [(.d (.sc (.int .i64 0))),(.d (.sc (.int .i64 0))),(.nil 3)]⟩:=aE.mk' (by kernel_rfl) (by kernel_rfl) rfl ⟨_,Tryz.underlying66,rfl⟩
theorem LH:aE Tryz.prog 71 ⟨(.st [(0,3),(1,3)]),2,16, [(.d (.sc (.int .i64 0))),(.d (.sc (.int .i64 0)))]⟩:=aE.mk' (by kernel_rfl) (by kernel_rfl) rfl ⟨_,Tryz.underlying71,rfl⟩
theorem LI:aE Tryz.prog 73 ⟨(.st [(0,3),(1,3)]),2,16, [(.d (.sc (.int .i64 0))),(.d (.sc (.int .i64 0)))]⟩:=aE.mk' (by kernel_rfl) (by kernel_rfl) rfl ⟨_,Tryz.underlying73,rfl⟩
theorem LJ:aE Tryz.prog 82 ⟨(.pt 137),1,8, [(.d (.sc (.pointer none)))]⟩:=aE.mk' (by kernel_rfl) (by kernel_rfl) rfl Tryz.underlying82
theorem LL:aE Tryz.prog 92 ⟨(.sl 4),1,24, [(.nil 4)]⟩:=aE.mk' (by kernel_rfl) (by kernel_rfl) rfl Tryz.underlying92
theorem Jm:aE Tryz.prog 100 ⟨(.st [(0,3),(1,3),(2,3)]),3,24, [(.d (.sc (.int .i64 0))),(.d (.sc (.int .i64 0))),(.d (.sc (.int .i64 0)))]⟩:=aE.mk' (by kernel_rfl) (by kernel_rfl) rfl ⟨_,Tryz.underlying100,rfl⟩
theorem Jn:aE Tryz.prog 103 ⟨(.pt 105),1,8, [(.d (.sc (.pointer none)))]⟩:=aE.mk' (by kernel_rfl) (by kernel_rfl) rfl Tryz.underlying103
theorem Jo:aE Tryz.prog 105 ⟨(.st [(0,31),(1,31),(2,53)]),6,144, [(.nil 3),(.nil 3),(.nil 3),(.nil 3),(.nil 3),(.nil 3)]⟩:=aE.mk' (by kernel_rfl) (by kernel_rfl) rfl ⟨_,Tryz.underlying105,rfl⟩
theorem Jp:aE Tryz.prog 111 ⟨(.pt 115),1,8, [(.d (.sc (.pointer none)))]⟩:=aE.mk' (by kernel_rfl) (by kernel_rfl) rfl Tryz.underlying111
theorem Jq:aE Tryz.prog 115 ⟨(.st [(0,24),(2,34),(4,69)]),5,88, [(.d (.sc (.int .i64 0))),(.nil 73),(.nil 3),(.nil 31),(.d (.sc (.map none)))]⟩:=aE.mk' (by kernel_rfl) (by kernel_rfl) rfl ⟨_,Tryz.underlying115,rfl⟩
theorem Jr:aE Tryz.prog 119 ⟨(.pt 129),1,8, [(.d (.sc (.pointer none)))]⟩:=aE.mk' (by kernel_rfl) (by kernel_rfl) rfl Tryz.underlying119
theorem Js:aE Tryz.prog 127 ⟨(.st [(0,64)]),1,24, [(.nil 100)]⟩:=aE.mk' (by kernel_rfl) (by kernel_rfl) rfl ⟨_,Tryz.underlying127,rfl⟩
theorem Jt:aE Tryz.prog 129 ⟨(.st [(0,127),(1,82),(2,31)]),3,56, [(.nil 100),(.d (.sc (.pointer none))),(.nil 3)]⟩:=aE.mk' (by kernel_rfl) (by kernel_rfl) rfl ⟨_,Tryz.underlying129,rfl⟩
theorem Ju:aE Tryz.prog 131 ⟨(.pt 133),1,8, [(.d (.sc (.pointer none)))]⟩:=aE.mk' (by kernel_rfl) (by kernel_rfl) rfl Tryz.underlying131
theorem Jv:aE Tryz.prog 133 ⟨(.st [(0,24),(2,28)]),4,80, [(.d (.sc (.int .i64 0))),(.nil 73),(.nil 71),(.nil 25)]⟩:=aE.mk' (by kernel_rfl) (by kernel_rfl) rfl ⟨_,Tryz.underlying133,rfl⟩
theorem Jw:aE Tryz.prog 137 ⟨(.st [(0,24),(2,32),(3,32)]),4,80, [(.d (.sc (.int .i64 0))),(.nil 73),(.nil 31),(.nil 31)]⟩:=aE.mk' (by kernel_rfl) (by kernel_rfl) rfl ⟨_,Tryz.underlying137,rfl⟩
theorem Jy:aE Tryz.prog 142 ⟨(.int .u64),1,8, [(.d (.sc (.int .u64 0)))]⟩:=aE.mk' (by kernel_rfl) (by kernel_rfl) rfl Tryz.underlying142
theorem Jz:aE Tryz.prog 150 ⟨(.pt 152),1,8, [(.d (.sc (.pointer none)))]⟩:=aE.mk' (by kernel_rfl) (by kernel_rfl) rfl Tryz.underlying150
theorem JA:aE Tryz.prog 152 ⟨(.st [(0,24),(2,64),(3,31)]),4,80, [(.d (.sc (.int .i64 0))),(.nil 73),(.nil 100),(.nil 3)]⟩:=aE.mk' (by kernel_rfl) (by kernel_rfl) rfl ⟨_,Tryz.underlying152,rfl⟩
theorem JB:aE Tryz.prog 159 ⟨(.pt 161),1,8, [(.d (.sc (.pointer none)))]⟩:=aE.mk' (by kernel_rfl) (by kernel_rfl) rfl Tryz.underlying159
theorem JC:aE Tryz.prog 161 ⟨(.st [(0,24),(2,34)]),4,80, [(.d (.sc (.int .i64 0))),(.nil 73),(.nil 3),(.nil 31)]⟩:=aE.mk' (by kernel_rfl) (by kernel_rfl) rfl ⟨_,Tryz.underlying161,rfl⟩
theorem JD:aE Tryz.prog 173 ⟨(.pt 127),1,8, [(.d (.sc (.pointer none)))]⟩:=aE.mk' (by kernel_rfl) (by kernel_rfl) rfl Tryz.underlying173
theorem JE:aE Tryz.prog 183 ⟨(.sl 185),1,24, [(.nil 185)]⟩:=aE.mk' (by kernel_rfl) (by kernel_rfl) rfl Tryz.underlying183
theorem JF:aE Tryz.prog 185 ⟨(.st [(0,71),(2,71)]),4,32, [(.d (.sc (.int .i64 0))),(.d (.sc (.int .i64 0))),(.d (.sc (.int .i64 0))),(.d (.sc (.int .i64 0)))]⟩:=aE.mk' (by kernel_rfl) (by kernel_rfl) rfl ⟨_,Tryz.underlying185,rfl⟩
theorem JG:aE Tryz.prog 192 ⟨(.int .i64),1,8, [(.d (.sc (.int .i64 0)))]⟩:=aE.mk' (by kernel_rfl) (by kernel_rfl) rfl Tryz.underlying192
theorem JH:aE Tryz.prog 199 ⟨(.int .u32),1,4, [(.d (.sc (.int .u32 0)))]⟩:=aE.mk' (by kernel_rfl) (by kernel_rfl) rfl Tryz.underlying199
theorem JI:aE Tryz.prog 214 ⟨(.ar 2 3),2,16, [(.d (.sc (.int .i64 0))),(.d (.sc (.int .i64 0)))]⟩:=aE.mk' (by kernel_rfl) (by kernel_rfl) rfl Tryz.underlying214
theorem JJ:aE Tryz.prog 215 ⟨(.mp 71 3),1,8, [(.d (.sc (.map none)))]⟩:=aE.mk' (by kernel_rfl) (by kernel_rfl) rfl ⟨Tryz.underlying215,⟨_,Tryz.underlying71⟩,fun w=>by kernel_rfl⟩
theorem JK:aE Tryz.prog 216 ⟨(.ar 2 71),4,32, [(.d (.sc (.int .i64 0))),(.d (.sc (.int .i64 0))),(.d (.sc (.int .i64 0))),(.d (.sc (.int .i64 0)))]⟩:=aE.mk' (by kernel_rfl) (by kernel_rfl) rfl Tryz.underlying216
theorem JL:aE Tryz.prog 218 ⟨(.int .u64),1,8, [(.d (.sc (.int .u64 0)))]⟩:=aE.mk' (by kernel_rfl) (by kernel_rfl) rfl Tryz.underlying218
theorem JM:aE Tryz.prog 222 ⟨(.pt 3),1,8, [(.d (.sc (.pointer none)))]⟩:=aE.mk' (by kernel_rfl) (by kernel_rfl) rfl Tryz.underlying222
theorem JN:aE Tryz.prog 230 ⟨(.pt 218),1,8, [(.d (.sc (.pointer none)))]⟩:=aE.mk' (by kernel_rfl) (by kernel_rfl) rfl Tryz.underlying230
theorem JO:aE Tryz.prog 251 ⟨(.pt 5),1,8, [(.d (.sc (.pointer none)))]⟩:=aE.mk' (by kernel_rfl) (by kernel_rfl) rfl Tryz.underlying251
theorem LM:mO Tryz.prog 71 2:=mO.two (by kernel_rfl) (by kernel_rfl) Tryz.underlying71 (by decide) rfl Tryz.underlying3 (by decide) rfl Tryz.underlying3
theorem LN:mO Tryz.prog 73 2:=mO.two (by kernel_rfl) (by kernel_rfl) Tryz.underlying73 (by decide) rfl Tryz.underlying3 (by decide) rfl Tryz.underlying3
theorem JP:mO Tryz.prog 100 3:=mO.three (by kernel_rfl) (by kernel_rfl) Tryz.underlying100 (by decide) rfl Tryz.underlying3 (by decide) rfl Tryz.underlying3 (by decide) rfl Tryz.underlying3
set_option maxHeartbeats 4000000 in
theorem Oc:∀t ti,T t=some ti→aE Tryz.prog t ti:=by
 intro t ti h
 unfold T at h
 split at h
 ·cases h;exact N7
 ·cases h;exact N8
 ·cases h;exact N9
 ·cases h;exact Oa
 ·cases h;exact Ob
 ·cases h;exact Lk
 ·cases h;exact Ll
 ·cases h;exact Lm
 ·cases h;exact Ln
 ·cases h;exact Lo
 ·cases h;exact Lq
 ·cases h;exact Lr
 ·cases h;exact Ls
 ·cases h;exact Lt
 ·cases h;exact Lu
 ·cases h;exact Lv
 ·cases h;exact Lw
 ·cases h;exact Lx
 ·cases h;exact Lz
 ·cases h;exact LB
 ·cases h;exact LC
 ·cases h;exact LD
 ·cases h;exact LF
 ·cases h;exact LG
 ·cases h;exact LH
 ·cases h;exact LI
 ·cases h;exact LJ
 ·cases h;exact LL
 ·cases h;exact Jm
 ·cases h;exact Jn
 ·cases h;exact Jo
 ·cases h;exact Jp
 ·cases h;exact Jq
 ·cases h;exact Jr
 ·cases h;exact Js
 ·cases h;exact Jt
 ·cases h;exact Ju
 ·cases h;exact Jv
 ·cases h;exact Jw
 ·cases h;exact Jy
 ·cases h;exact Jz
 ·cases h;exact JA
 ·cases h;exact JB
 ·cases h;exact JC
 ·cases h;exact JD
 ·cases h;exact JE
 ·cases h;exact JF
 ·cases h;exact JG
 ·cases h;exact JH
 ·cases h;exact JI
 ·cases h;exact JJ
 ·cases h;exact JK
 ·cases h;exact JL
 ·cases h;exact JM
 ·cases h;exact JN
 ·cases h;exact JO
 ·cases h
theorem Od:∀t n,zn t=some n→mO Tryz.prog t n:=by
 intro t n h
 unfold zn at h
 split at h
 ·cases h;exact LM
 ·cases h;exact LN
 ·cases h;exact JP
 ·cases h
def cfg (own y9:List Nat):Cfg:=⟨T,own,zn,y9⟩
theorem cfg_T (own y9:List Nat):(cfg own y9).T=T:=rfl
theorem cfg_own (own y9:List Nat):(cfg own y9).own=own:=rfl
theorem cfg_nst (own y9:List Nat):(cfg own y9).y9=y9:=rfl
theorem cfg_eqn (own y9:List Nat):(cfg own y9).zn=zn:=rfl
theorem ai (own y9:List Nat):(cfg own y9).Ok Tryz.prog:=⟨Oc,Od⟩
theorem mixed:Tryz.prog.follows .mixedOrders=true:=by kernel_rfl
attribute [go_sem] T2 T3 T4 T5 T9 T12 T21 T22 T24 T25 T26 T28 T31 T32 T34 T35 T46 T48 T49 T50 T53 T63 T64 T66 T71 T73 T82 T92 T100 T103 T105 T111 T115 T119 T127 T129 T131 T133 T137 T142 T150 T152 T159 T161 T173 T183 T185 T192 T199 T214 T215 T216 T218 T222 T230 T251 eqn71 eqn73 eqn100 cfg_T cfg_own cfg_nst cfg_eqn
end Go.Ab.T
end
section
namespace Go.Ab
set_option maxRecDepth 10000
structure PS where
 m:Nat
 src:Int
 HG:Int
 tl:Int→Int
 hd:Int→Int
 ins:Int→List Int
 outs:Int→List Int
 Fi:Int→Nat
 Row:Nat→List Int→List Int→Prop
 k0:Nat
def PS.E (P:PS) (e:Int):Prop:=0≤e∧e<P.m
structure PS.Ok (P:PS):Prop where
 bR:∀x e,e∈P.outs x↔P.E e∧P.tl e=x
 cD:∀x e,e∈P.ins x↔P.E e∧P.hd e=x
 oN:∀x,(P.outs x).Nodup
 zK:∀x,(P.ins x).Nodup
 pM:∀e,P.E e→P.Fi (P.tl e)<P.Fi (P.hd e)
 FX:P.Row P.k0 (P.outs P.src) [P.src]
 lM:∀ {k W D},P.Row k W D→W.Nodup
 c7:∀ {k W D},P.Row k W D→∀e,e∈W↔P.E e∧P.tl e∈D∧P.hd e∉D
 lN:∀ {k W D},P.Row (k+1) W D→∃x A C,W=A++P.ins x++C∧P.ins x≠ []
 oO:∀ {k W D x A C},P.Row k W D→W=A++P.ins x++C→P.ins x≠ []→∃k',k=k'+1∧P.Row k' (A++P.outs x++C) (D++ [x])
 mF:∀ {W D},P.Row 0 W D→∀e,P.E e→P.hd e∈D
 oP:∀ {k W D},P.Row k W D→P.src∈D
 qX:∀ {k W D},P.Row k W D→P.HG∈D→k=0
 sR:P.ins P.src= []
 oQ:∀x,P.ins x≠ []→(P.outs x= []↔x=P.HG)
theorem pN {l:List Int} :l.reverse.Nodup↔l.Nodup:=(List.reverse_perm l).nodup_iff
def PS.yg (P:PS):PS:= {P with ins:=fun x=>(P.ins x).reverse,outs:=fun x=>(P.outs x).reverse,Row:=fun k W D=>P.Row k W.reverse D}
theorem PS.Ok.yg {P:PS} (h:P.Ok):P.yg.Ok:=
 {bR:=fun x e=>by show e∈(P.outs x).reverse↔_;rw [List.mem_reverse];exact h.bR x e
  cD:=fun x e=>by show e∈(P.ins x).reverse↔_;rw [List.mem_reverse];exact h.cD x e
  oN:=fun x=>by show (P.outs x).reverse.Nodup;exact pN.2 (h.oN x)
  zK:=fun x=>by show (P.ins x).reverse.Nodup;exact pN.2 (h.zK x)
  pM:=h.pM
  FX:=by show P.Row _ (P.outs P.src).reverse.reverse _;rw [List.reverse_reverse];exact h.FX
  lM:=fun {k W D} hr=>pN.1 (h.lM (show P.Row k W.reverse D from hr))
  c7:=fun {k W D} hr e=>by
   have:=h.c7 (show P.Row k W.reverse D from hr) e
   rw [List.mem_reverse] at this
   exact this
  lN:=fun {k W D} hr=>by
   obtain ⟨x,A,C,h1,h2⟩:=h.lN (show P.Row (k+1) W.reverse D from hr)
   refine ⟨x,C.reverse,A.reverse, ?_,fun h3=>h2 (List.reverse_eq_nil_iff.1 h3)⟩
   show W=C.reverse++(P.ins x).reverse++A.reverse
   rw [← List.reverse_reverse W,h1]
   simp
  oO:=fun {k W D x A C} hr h1 h2=>by
   have h1:W=A++(P.ins x).reverse++C:=h1
   obtain ⟨k',h3,h4⟩:=h.oO (x:=x) (A:=C.reverse) (C:=A.reverse) (show P.Row k W.reverse D from hr) (by rw [h1];simp) (fun h3=>h2 (List.reverse_eq_nil_iff.2 h3))
   refine ⟨k',h3, ?_⟩
   show P.Row k' (A++(P.outs x).reverse++C).reverse (D++ [x])
   have e:(A++(P.outs x).reverse++C).reverse=C.reverse++P.outs x++A.reverse:=by simp
   rw [e];exact h4
  mF:=fun {W D} hr=>h.mF (show P.Row 0 W.reverse D from hr)
  oP:=fun {k W D} hr=>h.oP (show P.Row k W.reverse D from hr)
  qX:=fun {k W D} hr=>h.qX (show P.Row k W.reverse D from hr)
  sR:=by show (P.ins P.src).reverse= [];rw [h.sR];rfl
  oQ:=fun x hx=>by
   have h2:P.ins x≠ []:=fun h3=>hx (by show (P.ins x).reverse= [];rw [h3];rfl)
   show (P.outs x).reverse= []↔_
   rw [List.reverse_eq_nil_iff];exact h.oQ x h2}
structure MS where
 A:List Int
 B:List Int
 D:List Int
def PS.next (P:PS) (s:MS):MS:=
 match s.B with
 | []=>s
 |e::B=>if P.ins (P.hd e)<:+s.A++ [e] then ⟨(s.A++ [e]).take (s.A.length+1 - (P.ins (P.hd e)).length),P.outs (P.hd e)++B,s.D++ [P.hd e]⟩ else ⟨s.A++ [e],B,s.D⟩
def PS.st (P:PS):Nat→MS
 |0=>⟨[],P.outs P.src, [P.src]⟩
 |j+1=>P.next (P.st j)
def PS.sh (P:PS) (j:Nat):Int:=(P.st j).B.headD 0
def PS.pO (P:PS) (j:Nat):List Int:=(List.range j).map P.sh
variable {P:PS}
theorem PS.sS {j:Nat} :P.pO (j+1)=P.pO j++ [P.sh j]:=by simp [PS.pO,List.range_succ]
theorem PS.qY {j:Nat} :(P.pO j).length=j:=by simp [PS.pO]
theorem PS.qZ {j:Nat} {e:Int} :e∈P.pO j↔∃i,i<j∧P.sh i=e:=by simp [PS.pO]
structure PS.Inv (P:PS) (j:Nat) (s:MS):Prop where
 row:∃k,P.Row k (s.A++s.B) s.D
 no:∀h,P.ins h≠ []→¬P.ins h<:+:s.A
 nd:(P.pO j).Nodup
 sh:∀e,e∈P.pO j↔P.E e∧(e∈s.A∨P.hd e∈s.D)
 len:j≤P.m
theorem fJ:∀ {l m:List Int},l.Nodup→(∀i∈l,i∈m)→l.length≤m.length
 | [],_,_,_=>Nat.zero_le _
 |a::l,m,hn,h=>by
  rw [List.nodup_cons] at hn
  have ha:=h a (List.mem_cons_self ..)
  have:=fJ (m:=m.erase a) hn.2 fun i hi=>(List.mem_erase_of_ne (show i≠a from fun e=>hn.1 (by rw [← e];exact hi))).2 (h i (List.mem_cons_of_mem _ hi))
  rw [List.length_erase_of_mem ha] at this
  have:=List.length_pos_of_mem ha
  rw [List.length_cons];omega
theorem pP {l:List Int} {m:Nat} (hall:∀e:Int,0≤e→e<m→e∈l):m≤l.length:=by
 have:=fJ (l:=(List.range m).map Int.ofNat) (m:=l) (List.pairwise_map.2 (List.nodup_range.imp fun hab e=>hab (Int.ofNat.inj e))) fun x hx=>by
  obtain ⟨a,ha,rfl⟩:=List.mem_map.1 hx
  have:=List.mem_range.1 ha
  exact hall _ (by simp) (by simp;omega)
 simpa using this
theorem yh {X Y:List Int} (h:X<:+Y):Y=Y.take (Y.length - X.length)++X:=by
 obtain ⟨t,rfl⟩:=h
 simp
theorem PS.Inv.more (h:P.Ok) {j:Nat} {s:MS} (hi:P.Inv j s) (hj:j<P.m):∃e B,s.B=e::B:=by
 cases hB:s.B with
 |cons e B=>exact ⟨e,B,rfl⟩
 |nil=>
  exfalso
  obtain ⟨k,hr⟩:=hi.row
  rw [hB,List.append_nil] at hr
  cases k with
  |succ k=>
   obtain ⟨x,A,C,h1,h2⟩:=h.lN hr
   exact hi.no x h2 ⟨A,C,h1.symm⟩
  |zero=>
   have hall:∀e,P.E e→e∈P.pO j:=fun e he=>(hi.sh e).2 ⟨he, .inr (h.mF hr e he)⟩
   have:=pP (fun e h1 h2=>hall e ⟨h1,h2⟩)
   rw [PS.qY] at this
   omega
theorem PS.BR {s:MS} {e:Int} {B:List Int} (hB:s.B=e::B):P.next s=if P.ins (P.hd e)<:+s.A++ [e] then ⟨(s.A++ [e]).take (s.A.length+1 - (P.ins (P.hd e)).length),P.outs (P.hd e)++B,s.D++ [P.hd e]⟩ else ⟨s.A++ [e],B,s.D⟩:=by
 unfold PS.next;rw [hB]
theorem PS.sV (h:P.Ok) {s:MS} {k:Nat} {e:Int} {B:List Int} (hr:P.Row k (s.A++s.B) s.D) (hB:s.B=e::B):
 P.E e∧((∃A',s.A++ [e]=A'++P.ins (P.hd e)∧P.ins (P.hd e)≠ []∧P.next s=⟨A',P.outs (P.hd e)++B,s.D++ [P.hd e]⟩)∨(¬P.ins (P.hd e)<:+s.A++ [e]∧P.next s=⟨s.A++ [e],B,s.D⟩)):=by
 have he:P.E e:=((h.c7 hr e).1 (by rw [hB];simp)).1
 refine ⟨he, ?_⟩
 rw [PS.BR hB]
 by_cases hs:P.ins (P.hd e)<:+s.A++ [e]
 ·rw [if_pos hs]
  refine .inl ⟨_, ?_,fun h0=> ?_,rfl⟩
  ·have:=yh hs
   simpa using this
  ·have:=(h.cD (P.hd e) e).2 ⟨he,rfl⟩
   rw [h0] at this;cases this
 ·rw [if_neg hs];exact .inr ⟨hs,rfl⟩
theorem zL {X A:List Int} {e:Int} (h:X<:+:A++ [e]):X<:+:A∨X<:+A++ [e]:=by
 obtain ⟨s,t,ht⟩:=h
 rcases List.eq_nil_or_concat t with rfl|⟨t',a,rfl⟩
 ·rw [List.append_nil] at ht;exact .inr ⟨s,ht⟩
 ·left
  refine ⟨s,t', ?_⟩
  have:s++X++t'++ [a]=A++ [e]:=by rw [← ht];simp
  exact (List.append_inj' this rfl).1
theorem PS.inv (h:P.Ok):∀j,j≤P.m→P.Inv j (P.st j)
 |0,_=>⟨⟨_,h.FX⟩,fun x hx hs=>hx (by
    have:P.ins x<:+: []:=hs
    simpa using this),by simp [PS.pO],fun e=>(by
     simp only [PS.pO,List.range_zero,List.map_nil,List.not_mem_nil,false_iff]
     rintro ⟨he,h1|h1⟩
     ·cases h1
     ·have h1:P.hd e∈ [P.src]:=h1
      have h2:P.hd e=P.src:=by simpa using h1
      have:=(h.cD P.src e).2 ⟨he,h2⟩
      rw [h.sR] at this;cases this),Nat.zero_le _⟩
 |j+1,hj=>by
  have hi:=PS.inv h j (by omega)
  obtain ⟨e,B,hB⟩:=hi.more h (by omega)
  obtain ⟨k,hr⟩:=hi.row
  have hsh:P.sh j=e:=by unfold PS.sh;rw [hB];rfl
  have Oe:e∈(P.st j).A++(P.st j).B:=by rw [hB];simp
  have hm:=(h.c7 hr e).1 Oe
  have bT:=h.lM hr
  have Of:e∉(P.st j).A:=fun hA=>by
   rw [List.nodup_append] at bT
   exact bT.2.2 e hA e (by rw [hB];simp) rfl
  have hnew:e∉P.pO j:=fun h1=>by
   rcases ((hi.sh e).1 h1).2 with h2|h2
   ·exact Of h2
   ·exact hm.2.2 h2
  have JQ:(P.pO (j+1)).Nodup:=by
   rw [PS.sS,hsh,List.nodup_append]
   exact ⟨hi.nd,by simp,fun a ha b hb=>by
    rw [List.mem_singleton] at hb
    subst hb
    intro e2;exact hnew (e2 ▸ ha)⟩
  obtain ⟨he,hc⟩:=PS.sV h hr hB
  have hst:P.st (j+1)=P.next (P.st j):=rfl
  rw [hst]
  rcases hc with ⟨A',h1,h2,h3⟩|⟨h1,h3⟩
  ·rw [h3]
   have hrow:(P.st j).A++(P.st j).B=A'++P.ins (P.hd e)++B:=by rw [hB, ← h1];simp
   obtain ⟨k',rfl,hr'⟩:=h.oO hr hrow h2
   refine ⟨⟨k',by simpa using hr'⟩,fun x hx hs=> ?_,JQ,fun f=> ?_,hj⟩
   ·have hs:P.ins x<:+:A':=hs
    have hA:¬P.ins x<:+:(P.st j).A:=hi.no x hx
    obtain ⟨u,v,huv⟩:=hs
    rcases List.eq_nil_or_concat (P.ins (P.hd e)) with h0|⟨I',a,h0⟩
    ·exact h2 h0
    ·rw [h0, ← List.concat_eq_append,List.concat_eq_append] at h1
     have h4:(P.st j).A++ [e]=(A'++I')++ [a]:=by rw [h1];simp
     have h5:=(List.append_inj' h4 rfl).1
     exact hA ⟨u,v++I',by rw [h5, ← huv];simp⟩
   ·rw [PS.sS,hsh,List.mem_append,List.mem_singleton,hi.sh f]
    show _↔P.E f∧(f∈A'∨P.hd f∈(P.st j).D++ [P.hd e])
    constructor
    ·rintro (⟨h4,h5|h5⟩|rfl)
     ·have:f∈A'++P.ins (P.hd e):=by rw [← h1];exact List.mem_append.2 (.inl h5)
      rcases List.mem_append.1 this with h6|h6
      ·exact ⟨h4, .inl h6⟩
      ·exact ⟨h4, .inr (by rw [((h.cD _ _).1 h6).2];simp)⟩
     ·exact ⟨h4, .inr (List.mem_append.2 (.inl h5))⟩
     ·exact ⟨he, .inr (by simp)⟩
    ·rintro ⟨h4,h5|h5⟩
     ·have:f∈(P.st j).A++ [e]:=by rw [h1];exact List.mem_append.2 (.inl h5)
      rcases List.mem_append.1 this with h6|h6
      ·exact .inl ⟨h4, .inl h6⟩
      ·exact .inr (by simpa using h6)
     ·rcases List.mem_append.1 h5 with h6|h6
      ·exact .inl ⟨h4, .inr h6⟩
      ·have h6:P.hd f=P.hd e:=by simpa using h6
       have h7:f∈P.ins (P.hd e):=(h.cD _ _).2 ⟨h4,h6⟩
       have:f∈(P.st j).A++ [e]:=by rw [h1];exact List.mem_append.2 (.inr h7)
       rcases List.mem_append.1 this with h8|h8
       ·exact .inl ⟨h4, .inl h8⟩
       ·exact .inr (by simpa using h8)
  ·rw [h3]
   refine ⟨⟨k,by simpa [hB] using hr⟩,fun x hx hs=> ?_,JQ,fun f=> ?_,hj⟩
   ·rcases zL hs with h4|h4
    ·exact hi.no x hx h4
    ·have hne:e∈P.ins x:=by
      obtain ⟨t,ht⟩:=h4
      rcases List.eq_nil_or_concat (P.ins x) with h0|⟨I',a,h0⟩
      ·exact absurd h0 hx
      ·rw [h0] at ht
       have h5:(t++I')++ [a]=(P.st j).A++ [e]:=by rw [← ht];simp
       have:=(List.append_inj' h5 rfl).2
       rw [h0];simp at this ⊢;exact .inr this.symm
     rw [((h.cD _ _).1 hne).2] at h1
     exact h1 h4
   ·rw [PS.sS,hsh,List.mem_append,List.mem_singleton,hi.sh f]
    show _↔P.E f∧(f∈(P.st j).A++ [e]∨P.hd f∈(P.st j).D)
    rw [List.mem_append,List.mem_singleton]
    constructor
    ·rintro (⟨h4,h5|h5⟩|rfl)
     ·exact ⟨h4, .inl (.inl h5)⟩
     ·exact ⟨h4, .inr h5⟩
     ·exact ⟨he, .inl (.inr rfl)⟩
    ·rintro ⟨h4,(h5|h5)|h5⟩
     ·exact .inl ⟨h4, .inl h5⟩
     ·exact .inr h5
     ·exact .inl ⟨h4, .inr h5⟩
end Go.Ab
end
section
namespace Go.Ab
set_option maxRecDepth 10000
set_option linter.unusedSectionVars false
variable {P:PS}
structure PS.eX (P:PS) (L R:Int→Int) (f0 f1:Int) (low:Int→Int):Prop where
 ne:f0≠f1
 fY:∀ {x u a b v},P.outs x=u++a::b::v→R a=L b
 nF:∀ {x u a b v},P.ins x=u++a::b::v→R a=L b
 fst:∀ {x a u b v},P.ins x=a::u→P.outs x=b::v→L a=L b
 BS:∀ {x a u b v},P.ins x=u++ [a]→P.outs x=v++ [b]→R a=R b
 s0:∀ {b v},P.outs P.src=b::v→L b=f0
 s1:∀ {b v},P.outs P.src=v++ [b]→R b=f1
 new:∀ {x u a b v},P.outs x=u++a::b::v→low (R a)=x∧R a≠f0∧R a≠f1
 new1:∀ {x u a b v u' a' b' v'},P.outs x=u++a::b::v→P.outs x=u'++a'::b'::v'→R a=R a'→a=a'
theorem DQ {l u v u' v':List Int} {a:Int} (hn:l.Nodup) (h1:l=u++a::v) (h2:l=u'++a::v'):u=u'∧v=v':=by
 induction u generalizing l u' with
 |nil=>
  cases u' with
  |nil=>rw [h1] at h2;simpa using h2
  |cons b u'=>
   rw [h1] at h2
   simp only [List.nil_append,List.cons_append,List.cons.injEq] at h2
   rw [h1,h2.2] at hn
   simp at hn
 |cons b u ih=>
  cases u' with
  |nil=>
   rw [h2] at h1
   simp only [List.nil_append,List.cons_append,List.cons.injEq] at h1
   rw [h2,h1.2] at hn
   simp at hn
  |cons b' u'=>
   have h3:=h1.symm.trans h2
   simp only [List.cons_append,List.cons.injEq] at h3
   rw [h1,List.cons_append,List.nodup_cons] at hn
   obtain ⟨h4,h5⟩:=ih hn.2 rfl h3.2
   exact ⟨by rw [h3.1,h4],h5⟩
theorem iM {l u v:List Int} {a b:Int} (h:l.reverse=u++a::b::v):l=v.reverse++b::a::u.reverse:=by
 have:=congrArg List.reverse h
 simpa using this
theorem PS.eX.yg (h:P.Ok) {L R:Int→Int} {f0 f1:Int} {low:Int→Int} (F:P.eX L R f0 f1 low):P.yg.eX R L f1 f0 low:=
 {ne:=F.ne.symm
  fY:=fun {x u a b v} h=>(F.fY (iM (show (P.outs x).reverse=_ from h))).symm
  nF:=fun {x u a b v} h=>(F.nF (iM (show (P.ins x).reverse=_ from h))).symm
  fst:=fun {x a u b v} h1 h2=>F.BS (x:=x) (u:=u.reverse) (v:=v.reverse) (by
     have:=congrArg List.reverse (show (P.ins x).reverse=_ from h1);simpa using this) (by
     have:=congrArg List.reverse (show (P.outs x).reverse=_ from h2);simpa using this)
  BS:=fun {x a u b v} h1 h2=>F.fst (x:=x) (u:=u.reverse) (v:=v.reverse) (by
    have:=congrArg List.reverse (show (P.ins x).reverse=_ from h1);simpa using this) (by
    have:=congrArg List.reverse (show (P.outs x).reverse=_ from h2);simpa using this)
  s0:=fun {b v} h1=>F.s1 (v:=v.reverse) (by
     have:=congrArg List.reverse (show (P.outs P.src).reverse=_ from h1);simpa using this)
  s1:=fun {b v} h1=>F.s0 (v:=v.reverse) (by
     have:=congrArg List.reverse (show (P.outs P.src).reverse=_ from h1);simpa using this)
  new:=fun {x u a b v} h1=>by
   have h2:=iM (show (P.outs x).reverse=_ from h1)
   obtain ⟨h3,h4,h5⟩:=F.new h2
   have h6:=F.fY h2
   rw [← h6];exact ⟨h3,h5,h4⟩
  new1:=fun {x u a b v u' a' b' v'} h1 h2 h3=>by
   have g1:=iM (show (P.outs x).reverse=_ from h1)
   have g2:=iM (show (P.outs x).reverse=_ from h2)
   rw [← F.fY g1, ← F.fY g2] at h3
   have h4:=F.new1 g1 g2 h3
   subst h4
   have:=(DQ (h.oN x) g1 g2).2
   simp only [List.cons.injEq] at this
   exact this.1}
def gw (L R:Int→Int):Int→List Int→Prop
 |_, []=>True
 |f,a::W=>L a=f∧gw L R (R a) W
def iE (R:Int→Int):Int→List Int→Int
 |f, []=>f
 |_,a::W=>iE R (R a) W
theorem bU {L R:Int→Int} :∀ {A B:List Int} {f:Int},gw L R f (A++B)↔gw L R f A∧gw L R (iE R f A) B
 | [],B,f=>by simp [gw,iE]
 |a::A,B,f=>by simp [gw,iE,bU,and_assoc]
theorem cA {R:Int→Int} :∀ {A B:List Int} {f:Int},iE R f (A++B)=iE R (iE R f A) B
 | [],B,f=>rfl
 |a::A,B,f=>by simp [iE,cA]
theorem cU {R:Int→Int} {A:List Int} {a f:Int} :iE R f (A++ [a])=R a:=by rw [cA];rfl
theorem oR {L R:Int→Int} :∀ {X:List Int} {f:Int},(∀u a b v,X=u++a::b::v→R a=L b)→(∀a u,X=a::u→L a=f)→gw L R f X
 | [],f,_,_=>trivial
 |a::X,f,h,h1=>⟨h1 a X rfl,oR (fun u b c v e=>h (a::u) b c v (by rw [e];rfl)) fun b v e=>(h [] a b v (by rw [e];rfl)).symm⟩
theorem DR {L R:Int→Int} {f:Int} {u v:List Int} {a b:Int} (h:gw L R f (u++a::b::v)):R a=L b:=by
 have:=(bU.1 h).2
 exact this.2.1.symm
theorem cE {l:List Int} (h:l≠ []):∃u a,l=u++ [a]:=by
 rcases List.eq_nil_or_concat l with h1|⟨u,a,h1⟩
 ·exact absurd h1 h
 ·exact ⟨u,a,by rw [h1,List.concat_eq_append]⟩
theorem dX {l:List Int} (h:l≠ []):∃a u,l=a::u:=by
 cases l with
 |nil=>exact absurd rfl h
 |cons a u=>exact ⟨a,u,rfl⟩
structure yj (L R:Int→Int) (f0 f1:Int) (low:Int→Int) (W D:List Int):Prop where
 lk:gw L R f0 W
 en:iE R f0 W=f1
 nd:(W.map R).Nodup
 lo:∀a∈W,R a≠f0∧(R a=f1∨(R a≠f1∧low (R a)∈D))
theorem BT {X U V Y:List Int} {r:Int} (h:(X++(U++ [r])++Y).Nodup) (hV:V.Nodup) (hd:∀z∈V,z∉X∧z≠r∧z∉Y):(X++(V++ [r])++Y).Nodup:=by
 have h1:(X++ [r]++Y).Nodup:=by
  refine List.Nodup.sublist ?_ h
  refine List.Sublist.append (List.Sublist.append (List.Sublist.refl _) ?_) (List.Sublist.refl _)
  exact List.sublist_append_right ..
 have h2:(V++(X++ [r]++Y)).Nodup:=by
  rw [List.nodup_append]
  refine ⟨hV,h1,fun a ha b hb e=> ?_⟩
  subst e
  obtain ⟨g1,g2,g3⟩:=hd a ha
  simp only [List.mem_append,List.mem_singleton] at hb
  rcases hb with (hb|hb)|hb
  ·exact g1 hb
  ·exact g2 hb
  ·exact g3 hb
 refine (List.Perm.nodup_iff ?_).1 h2
 have:X++(V++ [r])++Y=(X++V)++([r]++Y):=by simp
 rw [this]
 have:V++(X++ [r]++Y)=(V++X)++([r]++Y):=by simp
 rw [this]
 exact List.Perm.append_right _ List.perm_append_comm
theorem mY {R:Int→Int} :∀ {l:List Int},l.Nodup→(∀a∈l,∀b∈l,R a=R b→a=b)→(l.map R).Nodup
 | [],_,_=>by simp
 |a::l,hn,h=>by
  rw [List.nodup_cons] at hn
  rw [List.map_cons,List.nodup_cons]
  refine ⟨fun hm=> ?_,mY hn.2 fun x hx y hy=>h x (List.mem_cons_of_mem _ hx) y (List.mem_cons_of_mem _ hy)⟩
  obtain ⟨b,hb,e⟩:=List.mem_map.1 hm
  have:=h b (List.mem_cons_of_mem _ hb) a (List.mem_cons_self ..) e
  exact hn.1 (this ▸ hb)
section
variable (h:P.Ok) {L R:Int→Int} {f0 f1:Int} {low:Int→Int} (F:P.eX L R f0 f1 low)
include h F
theorem nG {v:List Int} {b:Int} {x:Int} (hv:P.outs x=v++ [b]) {a:Int} (ha:a∈v):∃u c w,P.outs x=u++a::c::w:=by
 obtain ⟨s,t,rfl⟩:=List.append_of_mem ha
 cases t with
 |nil=>exact ⟨s,b, [],by rw [hv];simp⟩
 |cons c t=>exact ⟨s,c,t++ [b],by rw [hv];simp⟩
theorem uO {x f:Int} (hf:∀b v,P.outs x=b::v→L b=f):gw L R f (P.outs x):=oR (fun u a b v e=>F.fY e) fun a u e=>hf a u e
theorem DS {x f:Int} (hf:∀b v,P.ins x=b::v→L b=f):gw L R f (P.ins x):=oR (fun u a b v e=>F.nF e) fun a u e=>hf a u e
theorem AL {x:Int} {v:List Int} {b:Int} (hv:P.outs x=v++ [b]):(v.map R).Nodup∧∀z∈v.map R,low z=x∧z≠f0∧z≠f1:=by
 have hn:=h.oN x
 rw [hv,List.nodup_append] at hn
 refine ⟨mY hn.1 fun a ha a' LP e=> ?_,fun z hz=> ?_⟩
 ·obtain ⟨u,c,w,h1⟩:=nG h F hv ha
  obtain ⟨u',c',w',h2⟩:=nG h F hv LP
  exact F.new1 h1 h2 e
 ·obtain ⟨a,ha,rfl⟩:=List.mem_map.1 hz
  obtain ⟨u,c,w,h1⟩:=nG h F hv ha
  exact F.new h1
theorem yj.start (hne:P.outs P.src≠ []):yj L R f0 f1 low (P.outs P.src) [P.src]:=by
 obtain ⟨v,b,hv⟩:=cE hne
 obtain ⟨n1,n2⟩:=AL h F hv
 have hb:=F.s1 hv
 refine ⟨uO h F fun b v e=>F.s0 e,by rw [hv,cU,hb], ?_,fun a ha=> ?_⟩
 ·rw [hv,List.map_append,List.nodup_append]
  refine ⟨n1,by simp,fun z hz y hy e=> ?_⟩
  simp only [List.map_cons,List.map_nil,List.mem_singleton] at hy
  exact (n2 z hz).2.2 (by rw [e,hy,hb])
 ·rw [hv,List.mem_append,List.mem_singleton] at ha
  rcases ha with ha|rfl
  ·obtain ⟨g1,g2,g3⟩:=n2 (R a) (List.mem_map_of_mem ha)
   exact ⟨g2, .inr ⟨g3,by rw [g1];simp⟩⟩
  ·exact ⟨by rw [hb];exact F.ne.symm, .inl hb⟩
theorem yj.step {A C D:List Int} {x:Int} (hi:yj L R f0 f1 low (A++P.ins x++C) D) (hI:P.ins x≠ []) (hO:P.outs x≠ []) (hx:x∉D):yj L R f0 f1 low (A++P.outs x++C) (D++ [x]):=by
 obtain ⟨u,a,hu⟩:=cE hI
 obtain ⟨v,b,hv⟩:=cE hO
 obtain ⟨a0,u0,FY⟩:=dX hI
 obtain ⟨b0,v0,rX⟩:=dX hO
 have hab:=F.BS hu hv
 have h0:=F.fst FY rX
 obtain ⟨l1,l2⟩:=bU.1 hi.lk
 obtain ⟨l3,l4⟩:=bU.1 l1
 have M3:∀f,iE R f (P.ins x)=R a:=fun f=>by rw [hu,cU]
 have M4:∀f,iE R f (P.outs x)=R b:=fun f=>by rw [hv,cU]
 have hL:L a0=iE R f0 A:=by rw [FY] at l4;exact l4.1
 obtain ⟨n1,n2⟩:=AL h F hv
 have bT:=hi.nd
 have hlo:=hi.lo
 refine ⟨?_, ?_, ?_,fun c hc=> ?_⟩
 ·rw [bU,bU]
  refine ⟨⟨l3,uO h F fun b' v' e=> ?_⟩, ?_⟩
  ·rw [rX] at e
   simp only [List.cons.injEq] at e
   rw [← e.1, ← h0,hL]
  ·rw [cA,M4]
   rw [cA,M3] at l2
   rw [← hab];exact l2
 ·have:=hi.en
  rw [cA,cA,M3] at this
  rw [cA,cA,M4, ← hab];exact this
 ·rw [List.map_append,List.map_append,hv,List.map_append]
  rw [List.map_append,List.map_append,hu,List.map_append] at bT
  simp only [List.map_cons,List.map_nil] at bT ⊢
  rw [← hab]
  have hold:∀c∈A++P.ins x++C,R c∉v.map R:=fun c hc hz=>by
   obtain ⟨g1,g2,g3⟩:=n2 _ hz
   rcases (hlo c hc).2 with h1|⟨_,h1⟩
   ·exact g3 h1
   ·rw [g1] at h1;exact hx h1
  refine BT bT n1 fun z hz=>⟨fun BO=> ?_,fun BO=> ?_,fun BO=> ?_⟩
  ·obtain ⟨c,hc,rfl⟩:=List.mem_map.1 BO
   exact hold c (by simp [hc]) hz
  ·exact hold a (by rw [hu];simp) (BO ▸ hz)
  ·obtain ⟨c,hc,rfl⟩:=List.mem_map.1 BO
   exact hold c (by simp [hc]) hz
 ·have hold:∀c∈A++P.ins x++C,R c≠f0∧(R c=f1∨(R c≠f1∧low (R c)∈D++ [x])):=fun c hc=>by
   obtain ⟨g1,g2⟩:=hlo c hc
   exact ⟨g1,g2.imp id fun ⟨g3,g4⟩=>⟨g3,List.mem_append.2 (.inl g4)⟩⟩
  simp only [List.mem_append] at hc
  rcases hc with (hc|hc)|hc
  ·exact hold c (by simp [hc])
  ·rw [hv,List.mem_append,List.mem_singleton] at hc
   rcases hc with hc|rfl
   ·obtain ⟨g1,g2,g3⟩:=n2 (R c) (List.mem_map_of_mem hc)
    exact ⟨g2, .inr ⟨g3,by rw [g1];simp⟩⟩
   ·have:=hold a (by rw [hu];simp)
    rw [hab] at this;exact this
  ·exact hold c (by simp [hc])
end
end Go.Ab
end
section
namespace Go.Ab
set_option maxRecDepth 10000
set_option linter.unusedSectionVars false
variable {P:PS}
inductive PS.ku (P:PS) (x:Int):Int→Prop
 |refl:P.ku x x
 |step {e:Int} :P.ku x (P.tl e)→P.E e→P.ku x (P.hd e)
theorem PS.ku.trans {x y z:Int} (h1:P.ku x y) (h2:P.ku y z):P.ku x z:=by
 induction h2 with
 |refl=>exact h1
 |step _ he ih=>exact .step ih he
inductive PS.Lp (P:PS) (L R:Int→Int) (F:Int):Int→Prop
 |refl:P.Lp L R F F
 |step {e:Int} :P.Lp L R F (L e)→P.E e→P.Lp L R F (R e)
theorem PS.Lp.trans {L R:Int→Int} {x y z:Int} (h1:P.Lp L R x y) (h2:P.Lp L R y z):P.Lp L R x z:=by
 induction h2 with
 |refl=>exact h1
 |step _ he ih=>exact .step ih he
theorem PS.Lp.head {L R:Int→Int} {e z:Int} (he:P.E e) (h2:P.Lp L R (R e) z):P.Lp L R (L e) z:=(PS.Lp.step .refl he).trans h2
theorem PS.Lp.yg {L R:Int→Int} {x y:Int} (h1:P.Lp L R x y):P.yg.Lp R L y x:=by
 induction h1 with
 |refl=>exact .refl
 | @step e h1 he ih=>exact PS.Lp.head (P:=P.yg) (L:=R) (R:=L) (e:=e) he ih
theorem PS.ku.yg {x y:Int} (h1:P.ku x y):P.yg.ku x y:=by
 induction h1 with
 |refl=>exact .refl
 |step h1 he ih=>exact PS.ku.step (P:=P.yg) ih he
section
variable (h:P.Ok)
include h
theorem jA {j:Nat} (hj:j≤P.m):∃k,P.Row k ((P.st j).A++(P.st j).B) (P.st j).D:=(P.inv h j hj).row
theorem fk {j:Nat} (hj:j<P.m):∃B,(P.st j).B=P.sh j::B:=by
 obtain ⟨e,B,hB⟩:=(P.inv h j (by omega)).more h hj
 refine ⟨B, ?_⟩
 have:P.sh j=e:=by unfold PS.sh;rw [hB];rfl
 rw [this,hB]
theorem wu {j:Nat} (hj:j<P.m):P.E (P.sh j):=by
 obtain ⟨B,hB⟩:=fk h hj
 obtain ⟨k,hr⟩:=jA h (Nat.le_of_lt hj)
 exact ((h.c7 hr _).1 (by rw [hB];simp)).1
theorem wv {i j:Nat} (hi:i<P.m) (hj:j<P.m) (e:P.sh i=P.sh j):i=j:=by
 have hn:=(P.inv h P.m (Nat.le_refl _)).nd
 have hl:=PS.qY (P:=P) (j:=P.m)
 have gi:(P.pO P.m)[i]'(by omega)=P.sh i:=by simp [PS.pO]
 have gj:(P.pO P.m)[j]'(by omega)=P.sh j:=by simp [PS.pO]
 exact (List.getElem_inj hn).1 (by rw [gi,gj,e])
theorem fZ {e:Int} (he:P.E e):∃j,j<P.m∧P.sh j=e:=by
 have hi:=P.inv h P.m (Nat.le_refl _)
 refine Decidable.byContradiction fun hne=> ?_
 have hne:e∉P.pO P.m:=fun hm=>hne (PS.qZ.1 hm)
 have bT:(e::P.pO P.m).Nodup:=List.nodup_cons.2 ⟨hne,hi.nd⟩
 have:=fJ (m:=(List.range P.m).map Int.ofNat) bT fun x hx=>by
  have hE:P.E x:=by
   rcases List.mem_cons.1 hx with rfl|hx
   ·exact he
   ·exact ((hi.sh x).1 hx).1
  have h1:=hE.1;have h2:=hE.2
  exact List.mem_map.2 ⟨x.toNat,List.mem_range.2 (by omega),by simp;omega⟩
 simp [PS.qY] at this
 omega
theorem oS {i j:Nat} (hi:i<P.m) (hj:j≤P.m):P.sh i∈P.pO j↔i<j:=by
 rw [PS.qZ]
 constructor
 ·rintro ⟨i',h1,h2⟩
  have:=wv h (by omega) hi h2
  omega
 ·exact fun h1=>⟨i,h1,rfl⟩
theorem DT:(P.st P.m).A= []:=by
 have hi:=P.inv h P.m (Nat.le_refl _)
 obtain ⟨k,hr⟩:=hi.row
 have hB:(P.st P.m).B= []:=by
  cases hB:(P.st P.m).B with
  |nil=>rfl
  |cons e B=>
   exfalso
   have hm:=(h.c7 hr e).1 (by rw [hB];simp)
   obtain ⟨j,hj,e2⟩:=fZ h hm.1
   have h1:e∈P.pO P.m:=PS.qZ.2 ⟨j,hj,e2⟩
   have bT:=h.lM hr
   rw [List.nodup_append] at bT
   rcases ((hi.sh e).1 h1).2 with h2|h2
   ·exact bT.2.2 e h2 e (by rw [hB];simp) rfl
   ·exact hm.2.2 h2
 rw [hB,List.append_nil] at hr
 cases k with
 |succ k=>
  obtain ⟨x,A,C,h1,h2⟩:=h.lN hr
  exact absurd ⟨A,C,h1.symm⟩ (hi.no x h2)
 |zero=>
  cases hA:(P.st P.m).A with
  |nil=>rfl
  |cons e A=>
   have hm:=(h.c7 hr e).1 (by rw [hA];simp)
   exact absurd (h.mF hr e hm.1) hm.2.2
theorem jq {j:Nat} (hj:j<P.m):∃B,(P.st j).B=P.sh j::B∧((∃A',(P.st j).A++ [P.sh j]=A'++P.ins (P.hd (P.sh j))∧P.ins (P.hd (P.sh j))≠ []∧P.st (j+1)=⟨A',P.outs (P.hd (P.sh j))++B,(P.st j).D++ [P.hd (P.sh j)]⟩)∨
 (¬P.ins (P.hd (P.sh j))<:+(P.st j).A++ [P.sh j]∧P.st (j+1)=⟨(P.st j).A++ [P.sh j],B,(P.st j).D⟩)):=by
 obtain ⟨B,hB⟩:=fk h hj
 obtain ⟨k,hr⟩:=jA h (Nat.le_of_lt hj)
 exact ⟨B,hB,(PS.sV h hr hB).2⟩
theorem LQ {j:Nat} (hj:j<P.m):P.sh j∉(P.st j).A:=by
 obtain ⟨B,hB⟩:=fk h hj
 obtain ⟨k,hr⟩:=jA h (Nat.le_of_lt hj)
 have bT:=h.lM hr
 rw [List.nodup_append] at bT
 exact fun hA=>bT.2.2 _ hA _ (by rw [hB];simp) rfl
theorem yl:∀ {d j:Nat},j+d=P.m→∀t∈(P.st j).A,∀u,P.ins (P.hd t)≠u++ [t]
 |0,j,hj,t,ht,u=>by
  obtain rfl:j=P.m:=by omega
  rw [DT h] at ht;cases ht
 |d+1,j,hj,t,ht,u=>by
  have ih:=yl (d:=d) (j:=j+1) (by omega)
  have hjm:j<P.m:=by omega
  obtain ⟨B,hB,hc⟩:=jq h hjm
  have hne:=LQ h hjm
  rcases hc with ⟨A',h1,h2,h3⟩|⟨h1,h3⟩
  ·have Fj:t∈A'++P.ins (P.hd (P.sh j)):=by rw [← h1];simp [ht]
   rcases List.mem_append.1 Fj with h4|h4
   ·exact ih t (by rw [h3];exact h4) u
   ·intro hu
    rw [((h.cD _ _).1 h4).2] at hu
    rw [hu, ← List.append_assoc] at h1
    have:=(List.append_inj' h1 rfl).2
    simp only [List.cons.injEq,and_true] at this
    exact hne (this ▸ ht)
  ·exact ih t (by rw [h3];simp [ht]) u
theorem AM {j:Nat} (hj:j<P.m):P.HG∉(P.st j).D:=fun hs=>by
 have hi:=P.inv h j (by omega)
 obtain ⟨k,hr⟩:=hi.row
 have:=h.qX hr hs
 subst this
 have:=pP (l:=P.pO j) (m:=P.m) fun e h1 h2=>(hi.sh e).2 ⟨⟨h1,h2⟩, .inr (h.mF hr e ⟨h1,h2⟩)⟩
 rw [PS.qY] at this
 omega
variable {L R:Int→Int} {f0 f1:Int} {low:Int→Int} (F:P.eX L R f0 f1 low)
include F
theorem lP:∀ {j:Nat},j<P.m→yj L R f0 f1 low ((P.st j).A++(P.st j).B) (P.st j).D
 |0,hj=>by
  obtain ⟨B,hB⟩:=fk h hj
  have hB:P.outs P.src=P.sh 0::B:=hB
  exact yj.start h F (by rw [hB];simp)
 |j+1,hj=>by
  have ih:=lP (j:=j) (by omega)
  obtain ⟨B,hB,hc⟩:=jq h (show j<P.m by omega)
  obtain ⟨k,hr⟩:=jA h (show j≤P.m by omega)
  rcases hc with ⟨A',h1,h2,h3⟩|⟨h1,h3⟩
  ·have hs:=AM h hj
   rw [h3] at hs ⊢
   have hx:P.hd (P.sh j)≠P.HG:=fun e=>hs (by simp [e])
   have hO:P.outs (P.hd (P.sh j))≠ []:=fun e=>hx ((h.oQ _ h2).1 e)
   have hm:=(h.c7 hr (P.sh j)).1 (by rw [hB];simp)
   have hW:(P.st j).A++(P.st j).B=A'++P.ins (P.hd (P.sh j))++B:=by rw [hB, ← h1];simp
   rw [hW] at ih
   have:=yj.step h F ih h2 hO hm.2.2
   simpa using this
  ·rw [h3]
   have hW:(P.st j).A++(P.st j).B=(P.st j).A++ [P.sh j]++B:=by rw [hB];simp
   rw [hW] at ih
   exact ih
theorem DU {j:Nat} (hj:j<P.m) {a b:Int} (ha:a∈(P.st j).A++(P.st j).B) (hb:b∈(P.st j).A++(P.st j).B) (e:R a=R b):a=b:=by
 have hn:=(lP h F hj).nd
 obtain ⟨i,hi,rfl⟩:=List.mem_iff_getElem.1 ha
 obtain ⟨k,hk,rfl⟩:=List.mem_iff_getElem.1 hb
 have:=(List.getElem_inj (i:=i) (j:=k) (h₀:=by simpa using hi) (h₁:=by simpa using hk) hn).1 (by rw [List.getElem_map,List.getElem_map];exact e)
 subst this;rfl
theorem nH {j:Nat} (hj:j<P.m):∀ {d:Nat} {e:Int},P.Fi (P.tl e)<d→P.E e→R e=L (P.sh j)→e∈P.pO j
 |0,e,hd,_,_=>by omega
 |d+1,e,hd,he,hR=>by
  refine Decidable.byContradiction fun hne=> ?_
  have hi:=P.inv h j (by omega)
  have hF:=lP h F hj
  obtain ⟨B,hB⟩:=fk h hj
  obtain ⟨k,hr⟩:=hi.row
  have JR:¬(e∈(P.st j).A∨P.hd e∈(P.st j).D):=fun h1=>hne ((hi.sh e).2 ⟨he,h1⟩)
  have hlk:=hF.lk
  rw [bU,hB] at hlk
  have Iw:L (P.sh j)=iE R f0 (P.st j).A:=hlk.2.1
  rcases List.eq_nil_or_concat (P.st j).A with hA|⟨A',t,hA⟩
  ·
   have Iw:L (P.sh j)=f0:=by rw [Iw,hA];rfl
   have Og:R e≠f0:=by
    obtain ⟨i,hi2,e2⟩:=fZ h he
    obtain ⟨B2,ur⟩:=fk h hi2
    have:=((lP h F hi2).lo (P.sh i) (by rw [ur];simp)).1
    rw [e2] at this;exact this
   exact Og (hR.trans Iw)
  ·rw [List.concat_eq_append] at hA
   have Iw:L (P.sh j)=R t:=by rw [Iw,hA,cU]
   have KA:t∈(P.st j).A:=by rw [hA];simp
   have pQ:t∈(P.st j).A++(P.st j).B:=List.mem_append.2 (.inl KA)
   have LS:R e=R t:=hR.trans Iw
   by_cases hc:P.tl e∈(P.st j).D
   ·have Oh:=(h.c7 hr e).2 ⟨he,hc,fun h1=>JR (.inr h1)⟩
    have:=DU h F hj Oh pQ LS
    exact JR (.inl (this ▸ KA))
   ·have hem:e∈P.outs (P.tl e):=(h.bR _ _).2 ⟨he,rfl⟩
    obtain ⟨s,w,hs⟩:=List.append_of_mem hem
    have JS:R t≠f1:=fun h1=>by
     have h2:=hF.en
     rw [hB,cA] at h2
     obtain ⟨V,b,M5⟩:=cE (l:=P.sh j::B) (by simp)
     rw [M5,cU] at h2
     have M6:b∈(P.st j).B:=by rw [hB,M5];simp
     have h3:=DU h F hj pQ (List.mem_append.2 (.inr M6)) (h1.trans h2.symm)
     have bT:=h.lM hr
     rw [List.nodup_append] at bT
     exact bT.2.2 t KA b M6 h3
    cases w with
    |cons b w=>
     obtain ⟨g1,g2,g3⟩:=F.new hs
     have h4:=(hF.lo t pQ).2
     rw [← LS] at h4 JS
     rcases h4 with h4|⟨_,h4⟩
     ·exact JS h4
     ·rw [g1] at h4;exact hc h4
    |nil=>
     have hI:P.ins (P.tl e)≠ []:=fun h0=>by
      have h5:P.tl e≠P.src:=fun h6=>hc (h6 ▸ h.oP hr)
      obtain ⟨i,hi2,e2⟩:=fZ h he
      obtain ⟨k2,uL⟩:=jA h (show i≤P.m by omega)
      obtain ⟨B2,ur⟩:=fk h hi2
      have hm2:=(h.c7 uL (P.sh i)).1 (by rw [ur];simp)
      have:∀i,i≤P.m→∀x∈(P.st i).D,x=P.src∨P.ins x≠ []:=by
       intro i
       induction i with
       |zero=>intro _ x hx;exact .inl (by simpa [PS.st] using hx)
       |succ i ih=>
        intro PG x hx
        obtain ⟨B3,PI,GK⟩:=jq h (show i<P.m by omega)
        rcases GK with ⟨A3,k1,k2,k3⟩|⟨k1,k3⟩
        ·rw [k3] at hx
         rcases List.mem_append.1 hx with hx|hx
         ·exact ih (by omega) x hx
         ·rw [List.mem_singleton] at hx
          exact .inr (hx ▸ k2)
        ·rw [k3] at hx;exact ih (by omega) x hx
      rcases this i (by omega) _ hm2.2.1 with h6|h6
      ·rw [e2] at h6;exact h5 h6
      ·rw [e2] at h6;exact h6 h0
     obtain ⟨u,a,hu⟩:=cE hI
     have JT:=(h.cD (P.tl e) a).1 (by rw [hu];simp)
     have GL:R a=R e:=F.BS hu hs
     have hp:=h.pM a JT.1
     rw [JT.2] at hp
     have hin:=nH (d:=d) (e:=a) hj (by omega) JT.1 (GL.trans hR)
     rcases ((hi.sh a).1 hin).2 with h7|h7
     ·have h8:=DU h F hj (List.mem_append.2 (.inl h7)) pQ (GL.trans LS)
      subst h8
      exact yl h (d:=P.m - j) (by omega) a KA u (by rw [JT.2];exact hu)
     ·rw [JT.2] at h7;exact hc h7
theorem BU {i j:Nat} (hi:i<P.m) (hj:j<P.m) (hR:P.Lp L R (R (P.sh i)) (L (P.sh j))):i<j:=by
 have key:∀y,P.Lp L R (R (P.sh i)) y→∀j,j<P.m→L (P.sh j)=y→i<j:=by
  intro y hy
  induction hy with
  |refl=>
   intro j hj e
   exact (oS h hi (by omega)).1 (nH h F hj (d:=P.Fi (P.tl (P.sh i))+1) (by omega) (wu h hi) e.symm)
  | @step f _ hf ih=>
    intro j hj e
    obtain ⟨k,hk,rfl⟩:=fZ h hf
    have h1:=ih k hk rfl
    have h2:=(oS h hk (by omega)).1 (nH h F hj (d:=P.Fi (P.tl (P.sh k))+1) (by omega) hf e.symm)
    omega
 exact key _ hR j hj rfl
end
end Go.Ab
end
section
namespace Go.Ab
set_option maxRecDepth 10000
set_option linter.unusedSectionVars false
variable {P:PS}
theorem wz {L R:Int→Int} :∀ {A:List Int} {f:Int},(∀a∈A,P.E a)→gw L R f A→P.Lp L R f (iE R f A)
 | [],_,_,_=> .refl
 |a::A,f,hE,⟨h1,h2⟩=>by
  have:=wz (A:=A) (f:=R a) (fun b hb=>hE b (List.mem_cons_of_mem _ hb)) h2
  rw [← h1]
  exact PS.Lp.head (hE a (List.mem_cons_self ..)) this
section
variable (h:P.Ok) {L R:Int→Int} {f0 f1:Int} {low:Int→Int} (F:P.eX L R f0 f1 low)
include h F
theorem HH {x:Int} {u v v':List Int} {e a:Int} (hu:P.ins x=u++e::v) (ha:P.ins x=v'++ [a]):P.Lp L R (R e) (R a):=by
 have hl:gw L R (L ((P.ins x).headD 0)) (P.ins x):=by
  cases hI:P.ins x with
  |nil=>trivial
  |cons b w=>rw [← hI];exact DS h F fun b' w' e'=>by rw [hI];rw [hI] at e';simp only [List.cons.injEq] at e';simp [e'.1]
 rw [hu,show u++e::v=(u++ [e])++v by simp,bU,cU] at hl
 have h2:=wz (P:=P) (fun b hb=>((h.cD x b).1 (by rw [hu];simp [hb])).1) hl.2
 have h3:iE R (R e) v=R a:=by
  have e1:iE R 0 (P.ins x)=R a:=by rw [ha,cU]
  rw [hu,show u++e::v=(u++ [e])++v by simp,cA,cU] at e1
  exact e1
 rw [h3] at h2;exact h2
theorem pR {x:Int} (hx:x≠P.src):∀ {j:Nat},j≤P.m→x∈(P.st j).D→∃i B,i<j∧x∉(P.st i).D∧P.hd (P.sh i)=x∧(∃u,P.ins x=u++ [P.sh i])∧(∀e∈P.ins x,e∈P.pO (i+1))∧(P.st (i+1)).B=P.outs x++B∧(P.st i).B=P.sh i::B
 |0,_,hm=>by
  have:x∈ [P.src]:=hm
  simp at this;exact absurd this hx
 |j+1,hj,hm=>by
  by_cases hp:x∈(P.st j).D
  ·obtain ⟨i,B,h1,h2⟩:=pR hx (by omega) hp
   exact ⟨i,B,by omega,h2⟩
  ·obtain ⟨B,hB,hc⟩:=jq h (show j<P.m by omega)
   rcases hc with ⟨A',h1,h2,h3⟩|⟨h1,h3⟩
   ·rw [h3] at hm
    rcases List.mem_append.1 hm with hm|hm
    ·exact absurd hm hp
    ·rw [List.mem_singleton] at hm
     subst hm
     refine ⟨j,B,by omega,hp,rfl, ?_,fun e he=> ?_,by rw [h3],hB⟩
     ·obtain ⟨u,a,hu⟩:=cE h2
      rw [hu, ← List.append_assoc] at h1
      have:=(List.append_inj' h1 rfl).2
      simp only [List.cons.injEq,and_true] at this
      exact ⟨u,by rw [hu,this]⟩
     ·refine ((P.inv h (j+1) hj).sh e).2 ⟨((h.cD _ _).1 he).1, .inr ?_⟩
      rw [h3,((h.cD _ _).1 he).2];simp
   ·rw [h3] at hm;exact absurd hm hp
theorem sW {x a:Int} {i k:Nat} (hk:k<P.m) (hik:i<k) {v B:List Int} (hB:(P.st (i+1)).B=v++a::B) (hv:∀e∈v,P.tl e=x) (ha:P.tl a=x) (hka:P.sh k=a):
 ∀ {t:Nat},i+1≤t→t≤k→∃Z,(P.st t).B=Z++a::B∧∀z∈Z,P.ku x (P.tl z)
 |0,h1,_=>by omega
 |t+1,h1,h2=>by
  by_cases pq:t=i
  ·subst pq
   exact ⟨v,hB,fun z hz=>by rw [hv z hz];exact .refl⟩
  ·obtain ⟨Z,hZ,hr⟩:=sW hk hik hB hv ha hka (t:=t) (by omega) (by omega)
   obtain ⟨B2,ur,hc⟩:=jq h (show t<P.m by omega)
   cases Z with
   |nil=>
    rw [hZ] at ur
    simp only [List.nil_append,List.cons.injEq] at ur
    have:=wv h hk (show t<P.m by omega) (hka.trans ur.1)
    omega
   |cons z Z=>
    rw [hZ] at ur
    simp only [List.cons_append,List.cons.injEq] at ur
    rcases hc with ⟨A',g1,g2,g3⟩|⟨g1,g3⟩
    ·refine ⟨P.outs (P.hd (P.sh t))++Z,by rw [g3, ← ur.2];simp,fun y hy=> ?_⟩
     rcases List.mem_append.1 hy with hy|hy
     ·rw [((h.bR _ _).1 hy).2]
      have:=hr z (List.mem_cons_self ..)
      rw [ur.1] at this
      exact .step this (wu h (by omega))
     ·exact hr y (List.mem_cons_of_mem _ hy)
    ·exact ⟨Z,by rw [g3, ← ur.2],fun y hy=>hr y (List.mem_cons_of_mem _ hy)⟩
theorem nI:∀ {d i j:Nat},j - i≤d→i<j→j<P.m→P.ku (P.hd (P.sh i)) (P.tl (P.sh j))∨P.Lp L R (R (P.sh i)) (L (P.sh j))
 |0,i,j,hd,hij,_=>by omega
 |d+1,i,j,hd,hij,hj=>by
  have hi:=P.inv h j (by omega)
  have M7:=wu h (show i<P.m by omega)
  obtain ⟨B,hB⟩:=fk h hj
  obtain ⟨k,hr⟩:=hi.row
  have hin:=(oS h (show i<P.m by omega) (show j≤P.m by omega)).2 hij
  rcases ((hi.sh _).1 hin).2 with hA|hD
  ·right
   obtain ⟨u,w,hA⟩:=List.append_of_mem hA
   have hlk:=(lP h F hj).lk
   rw [hB,hA,show u++P.sh i::w++P.sh j::B=(u++ [P.sh i])++(w++P.sh j::B) by simp,bU,cU] at hlk
   have HJ:=bU.1 hlk.2
   have h1:=wz (P:=P) (A:=w) (fun b hb=>((h.c7 hr b).1 (by rw [hA];simp [hb])).1) HJ.1
   rw [← HJ.2.1] at h1
   exact h1
  ·generalize hx:P.hd (P.sh i)=x at hD
   have hxs:x≠P.src:=fun e=>by
    have:=(h.cD x (P.sh i)).2 ⟨M7,hx⟩
    rw [e,h.sR] at this;cases this
   obtain ⟨i',B',q1,q2,q3,⟨u,q4⟩,q5,q6,q7⟩:=pR h F hxs (by omega) hD
   have Hs:=(h.cD x (P.sh i)).2 ⟨M7,hx⟩
   have hii:i<i'+1:=(oS h (show i<P.m by omega) (by omega)).1 (q5 _ Hs)
   have hI:P.ins x≠ []:=fun h0=>by rw [h0] at Hs;cases Hs
   have hO:P.outs x≠ []:=fun h0=>by
    have:=(h.oQ x hI).1 h0
    exact AM h hj (this ▸ hD)
   obtain ⟨v,a,hv⟩:=cE hO
   have ha:=(h.bR x a).1 (by rw [hv];simp)
   obtain ⟨k2,hk2,hka⟩:=fZ h ha.1
   have hik:i'<k2:=by
    refine Decidable.byContradiction fun hlt=> ?_
    have h1:a∈P.pO (i'+1):=hka ▸ (oS h hk2 (by omega)).2 (by omega)
    have hi':=P.inv h (i'+1) (by omega)
    obtain ⟨k3,M8⟩:=hi'.row
    have M9:a∈(P.st (i'+1)).B:=by rw [q6,hv];simp
    have LU:=(h.c7 M8 a).1 (List.mem_append.2 (.inr M9))
    have bT:=h.lM M8
    rw [List.nodup_append] at bT
    rcases ((hi'.sh a).1 h1).2 with h2|h2
    ·exact bT.2.2 a h2 a M9 rfl
    ·exact LU.2.2 h2
   have hlp:P.Lp L R (R (P.sh i)) (R a):=by
    obtain ⟨s,w,hs⟩:=List.append_of_mem Hs
    have h1:=HH h F hs q4
    rw [F.BS q4 hv] at h1
    exact h1
   by_cases hjk:j≤k2
   ·left
    obtain ⟨Z,hZ,Oi⟩:=sW h F hk2 hik (x:=x) (a:=a) (v:=v) (B:=B') (by rw [q6,hv];simp) (fun e he=>((h.bR x e).1 (by rw [hv];simp [he])).2) ha.2 hka (t:=j) (by omega) hjk
    rw [hB] at hZ
    cases Z with
    |nil=>
     simp only [List.nil_append,List.cons.injEq] at hZ
     rw [hZ.1,ha.2];exact .refl
    |cons z Z=>
     simp only [List.cons_append,List.cons.injEq] at hZ
     rw [hZ.1];exact Oi z (List.mem_cons_self ..)
   ·rcases nI (d:=d) (i:=k2) (j:=j) (by omega) (by omega) hj with h1|h1
    ·left
     rw [hka] at h1
     have:P.ku x (P.hd a):= .step (ha.2 ▸ .refl) ha.1
     exact this.trans h1
    ·right
     rw [hka] at h1
     exact hlp.trans h1
end
section
variable (h:P.Ok) {L R:Int→Int} {f0 f1:Int} {low:Int→Int} (F:P.eX L R f0 f1 low) {e f:Int} (he:P.E e) (hf:P.E f)
include h F he hf
theorem pS (hu:P.Lp L R (R e) (L f)):∃i j,i<j∧j<P.m∧P.sh i=e∧P.sh j=f:=by
 obtain ⟨i,hi,rfl⟩:=fZ h he
 obtain ⟨j,hj,rfl⟩:=fZ h hf
 exact ⟨i,j,BU h F hi hj hu,hj,rfl,rfl⟩
end
theorem uP (h:P.Ok) {L R:Int→Int} {f0 f1:Int} {low:Int→Int} (F:P.eX L R f0 f1 low) {e f:Int} (he:P.E e) (hf:P.E f) (hne:e≠f):
 P.ku (P.hd e) (P.tl f)∨P.ku (P.hd f) (P.tl e)∨P.Lp L R (R e) (L f)∨P.Lp L R (R f) (L e):=by
 obtain ⟨i,hi,rfl⟩:=fZ h he
 obtain ⟨j,hj,rfl⟩:=fZ h hf
 rcases Nat.lt_trichotomy i j with h1|h1|h1
 ·rcases nI h F (d:=j - i) (Nat.le_refl _) h1 hj with h2|h2
  ·exact .inl h2
  ·exact .inr (.inr (.inl h2))
 ·exact absurd (by rw [h1]) hne
 ·rcases nI h F (d:=i - j) (Nat.le_refl _) h1 hi with h2|h2
  ·exact .inr (.inl h2)
  ·exact .inr (.inr (.inr h2))
section
variable (h:P.Ok) {L R:Int→Int} {f0 f1:Int} {low:Int→Int} (F:P.eX L R f0 f1 low) {e f:Int} (he:P.E e) (hf:P.E f)
include h F he hf
end
end Go.Ab
end
section
namespace Go.Ab
set_option maxRecDepth 10000
set_option linter.unusedSectionVars false
variable {P:PS}
structure PS.Hi (P:PS) (R:Int→Int) (f0 f1:Int) (hi:Int→Int):Prop where
 mid:∀ {x u a b v},P.ins x=u++a::b::v→hi (R a)=x
 h0:hi f0=P.HG
 h1:hi f1=P.HG
def PS.KB (P:PS) (a:Int):Prop:=∃x u b v,P.outs x=u++a::b::v
section
variable (h:P.Ok) {L R:Int→Int} {f0 f1:Int} {low:Int→Int} (F:P.eX L R f0 f1 low)
include h F
theorem PS.Hi.yg {hi:Int→Int} (H:P.Hi R f0 f1 hi):P.yg.Hi L f1 f0 hi:=
 {mid:=fun {x u a b v} e=>by
   have e:=iM (show (P.ins x).reverse=_ from e)
   rw [← F.nF e];exact H.mid e
  h0:=H.h1
  h1:=H.h0}
theorem uQ {e:Int} (he:P.E e) (hs:P.tl e≠P.src):P.ins (P.tl e)≠ []:=by
 obtain ⟨i,hi,rfl⟩:=fZ h he
 obtain ⟨k,hr⟩:=jA h (Nat.le_of_lt hi)
 obtain ⟨B,hB⟩:=fk h hi
 have hm:=(h.c7 hr (P.sh i)).1 (by rw [hB];simp)
 obtain ⟨j,B,_,_,_,⟨u,hu⟩,_⟩:=pR h F hs (Nat.le_of_lt hi) hm.2.1
 rw [hu];simp
variable {L' R':Int→Int} {Na Nb:Int} {low':Int→Int} (F':P.eX L' R' Na Nb low')
include F'
theorem DV:∀ {d:Nat} {e:Int},P.Fi (P.tl e)<d→P.E e→(R e=f1∧R' e=Nb)∨∃a,P.KB a∧P.Fi (P.tl a)≤P.Fi (P.tl e)∧R e=R a∧R' e=R' a
 |0,e,hd,_=>by omega
 |d+1,e,hd,he=>by
  have hem:=(h.bR (P.tl e) e).2 ⟨he,rfl⟩
  obtain ⟨u,v,hu⟩:=List.append_of_mem hem
  cases v with
  |cons b v=>exact .inr ⟨e,⟨_,u,b,v,hu⟩,Nat.le_refl _,rfl,rfl⟩
  |nil=>
   by_cases hs:P.tl e=P.src
   ·rw [hs] at hu
    exact .inl ⟨F.s1 hu,F'.s1 hu⟩
   ·obtain ⟨w,c,hw⟩:=cE (uQ h F he hs)
    have e1:=F.BS hw hu
    have e2:=F'.BS hw hu
    obtain ⟨hc,hh⟩:=(h.cD (P.tl e) c).1 (by rw [hw];simp)
    have hp:=h.pM c hc
    rw [hh] at hp
    rw [← e1, ← e2]
    rcases DV (d:=d) (e:=c) (by omega) hc with h1|⟨a,h1,h2,h3⟩
    ·exact .inl h1
    ·exact .inr ⟨a,h1,by omega,h3⟩
theorem GM:∀ {d:Nat} {e:Int},P.Fi (P.tl e)<d→P.E e→(L e=f0∧L' e=Na)∨∃a,P.KB a∧L e=R a∧L' e=R' a
 |0,e,hd,_=>by omega
 |d+1,e,hd,he=>by
  have hem:=(h.bR (P.tl e) e).2 ⟨he,rfl⟩
  obtain ⟨u,v,hu⟩:=List.append_of_mem hem
  rcases List.eq_nil_or_concat u with rfl|⟨u',b,rfl⟩
  ·by_cases hs:P.tl e=P.src
   ·rw [hs] at hu
    exact .inl ⟨F.s0 hu,F'.s0 hu⟩
   ·obtain ⟨c,w,hw⟩:=dX (uQ h F he hs)
    have e1:=F.fst hw hu
    have e2:=F'.fst hw hu
    obtain ⟨hc,hh⟩:=(h.cD (P.tl e) c).1 (by rw [hw];simp)
    have hp:=h.pM c hc
    rw [hh] at hp
    rw [← e1, ← e2]
    exact GM (d:=d) (e:=c) (by omega) hc
  ·have hu:P.outs (P.tl e)=u'++b::e::v:=by rw [hu];simp
   exact .inr ⟨b,⟨_,u',e,v,hu⟩,(F.fY hu).symm,(F'.fY hu).symm⟩
end
section
variable (h:P.Ok) {L R:Int→Int} {f0 f1:Int} {low:Int→Int} (F:P.eX L R f0 f1 low)
include h F
theorem sX {e:Int} (he:P.E e):P.hd e∈(P.st P.m).D:=by
 have hi:=P.inv h P.m (Nat.le_refl _)
 obtain ⟨j,hj,e2⟩:=fZ h he
 have h1:e∈P.pO P.m:=PS.qZ.2 ⟨j,hj,e2⟩
 rcases ((hi.sh e).1 h1).2 with h2|h2
 ·rw [DT h] at h2;cases h2
 ·exact h2
theorem mG {x:Int} (hx:x≠P.src):∀ {j:Nat},j≤P.m→x∈(P.st j).D→∃i A' B,i<j∧x∉(P.st i).D∧P.hd (P.sh i)=x∧(P.st i).B=P.sh i::B∧(P.st i).A++ [P.sh i]=A'++P.ins x∧P.ins x≠ []∧P.st (i+1)=⟨A',P.outs x++B,(P.st i).D++ [x]⟩
 |0,_,hm=>by
  have:x∈ [P.src]:=hm
  simp at this;exact absurd this hx
 |j+1,hj,hm=>by
  by_cases hp:x∈(P.st j).D
  ·obtain ⟨i,A',B,h1,h2⟩:=mG hx (j:=j) (by omega) hp
   exact ⟨i,A',B,by omega,h2⟩
  ·obtain ⟨B,hB,hc⟩:=jq h (show j<P.m by omega)
   rcases hc with ⟨A',h1,h2,h3⟩|⟨h1,h3⟩
   ·rw [h3] at hm
    rcases List.mem_append.1 hm with hm|hm
    ·exact absurd hm hp
    ·rw [List.mem_singleton] at hm
     subst hm
     exact ⟨j,A',B,by omega,hp,rfl,hB,h1,h2,h3⟩
   ·rw [h3] at hm;exact absurd hm hp
theorem FZ:(P.st P.m).B= []:=by
 cases hB:(P.st P.m).B with
 |nil=>rfl
 |cons e B=>
  exfalso
  obtain ⟨k,hr⟩:=jA h (Nat.le_refl P.m)
  have hm:=(h.c7 hr e).1 (by rw [hB];simp)
  exact hm.2.2 (sX h F hm.1)
variable {hi:Int→Int} (H:P.Hi R f0 f1 hi)
include H
end
def LV (t h:Int→Int) (l:List Int) (x:Int):Int:=match l.find? (fun i=>decide (t i=x)) with
 |some i=>h i
 |none=>x
def LW (t h:Int→Int) (l:List Int) (x:Int):Nat→Int
 |0=>x
 |k+1=>LV t h l (LW t h l x k)
section
variable (h:P.Ok) {L R:Int→Int} {f0 f1:Int} {low:Int→Int} (F:P.eX L R f0 f1 low) {hi:Int→Int} (H:P.Hi R f0 f1 hi)
include h F H
end
end Go.Ab
end
section
namespace Go.Ab
set_option maxRecDepth 10000
set_option linter.unusedSectionVars false
variable {P:PS}
section
variable (h:P.Ok)
include h
theorem F0 {j:Nat} (hj:j<P.m) {x:Int} (hx:x∈(P.st j).D):x∈(P.st (j+1)).D:=by
 obtain ⟨B,hB,hc⟩:=jq h hj
 rcases hc with ⟨A',h1,h2,h3⟩|⟨h1,h3⟩
 ·rw [h3];exact List.mem_append.2 (.inl hx)
 ·rw [h3];exact hx
theorem zM {j:Nat} {x:Int} :∀ {d:Nat},j+d≤P.m→x∈(P.st j).D→x∈(P.st (j+d)).D
 |0,_,hx=>hx
 |d+1,hj,hx=>F0 h (j:=j+d) (by omega) (zM (d:=d) (by omega) hx)
theorem LX {i j:Nat} (hij:i≤j) (hj:j≤P.m) {x:Int} (hx:x∈(P.st i).D):x∈(P.st j).D:=by
 obtain ⟨d,rfl⟩:=Nat.exists_eq_add_of_le hij
 exact zM h hj hx
theorem AN {j:Nat} (hj:j<P.m):P.tl (P.sh j)∈(P.st j).D:=by
 obtain ⟨B,hB⟩:=fk h hj
 obtain ⟨k,hr⟩:=jA h (Nat.le_of_lt hj)
 exact ((h.c7 hr (P.sh j)).1 (by rw [hB];simp)).2.1
end
def PS.LY (P:PS) (a b:Int):Prop:=∃j,j≤P.m∧a∈(P.st j).D∧b∉(P.st j).D
def PS.F2 (P:PS) (L R:Int→Int) (a b:Int):Prop:=∃u e f v,P.outs a=u++ [e]∧P.outs b=f::v∧P.Lp L R (R e) (L f)
section
variable (h:P.Ok) {L R:Int→Int} {f0 f1:Int} {low:Int→Int} (F:P.eX L R f0 f1 low)
include h F
theorem DW {x e e':Int} (hx:x≠P.src) (he:e∈P.outs x) (he':e'∈P.outs x) {i t k:Nat} (hi:P.sh i=e) (hk:P.sh k=e') (hkm:k<P.m) (h1:i≤t) (h2:t≤k):P.ku x (P.tl (P.sh t)):=by
 obtain ⟨hE,ht⟩:=(h.bR x e).1 he
 obtain ⟨PJ,ht'⟩:=(h.bR x e').1 he'
 have CV:x∈(P.st i).D:=by have:=AN h (j:=i) (by omega);rwa [hi,ht] at this
 obtain ⟨q,A',B,h3,h4,h5,h6,h7,h8,h9⟩:=mG h F hx (show i≤P.m by omega) CV
 obtain ⟨v,w,hv⟩:=List.append_of_mem he'
 have hB:(P.st (q+1)).B=v++e'::(w++B):=by rw [h9,hv];simp
 obtain ⟨Z,hZ,Oj⟩:=sW h F hkm (show q<k by omega) hB (fun z hz=>((h.bR x z).1 (by rw [hv];simp [hz])).2) ht' hk (t:=t) (by omega) h2
 by_cases uR:t=k
 ·subst uR;rw [hk,ht'];exact .refl
 ·cases Z with
  |nil=>
   exfalso
   obtain ⟨B2,ur⟩:=fk h (show t<P.m by omega)
   rw [hZ] at ur
   have:P.sh t=e':=by simpa using (List.cons.inj ur).1.symm
   exact uR (wv h (by omega) hkm (this.trans hk.symm))
  |cons z Z=>
   obtain ⟨B2,ur⟩:=fk h (show t<P.m by omega)
   rw [hZ] at ur
   have:P.sh t=z:=(List.cons.inj ur).1.symm
   rw [this]
   exact Oj z (by simp)
theorem q8 {a e:Int} (he:e∈P.outs a) {y:Int} (hr:P.ku (P.hd e) y):P.ku a y:=by
 obtain ⟨hE,ht⟩:=(h.bR a e).1 he
 have:P.ku a (P.tl e):=by rw [ht];exact .refl
 exact (PS.ku.step this hE).trans hr
theorem BW {a b:Int} (ha:a≠P.src) (hb:b≠P.src) (hab:¬P.ku a b) (hba:¬P.ku b a) (KC:P.outs a≠ []) (zg:P.outs b≠ []):P.F2 L R a b∨P.F2 L R b a:=by
 obtain ⟨u,e,hu⟩:=cE KC
 obtain ⟨e',u',xC⟩:=dX KC
 obtain ⟨v,f',hv⟩:=cE zg
 obtain ⟨f,v',GC⟩:=dX zg
 have m1:e∈P.outs a:=by rw [hu];simp
 have m2:e'∈P.outs a:=by rw [xC];simp
 have m3:f'∈P.outs b:=by rw [hv];simp
 have m4:f∈P.outs b:=by rw [GC];simp
 obtain ⟨E1,t1⟩:=(h.bR a e).1 m1
 obtain ⟨E2,t2⟩:=(h.bR a e').1 m2
 obtain ⟨E3,t3⟩:=(h.bR b f').1 m3
 obtain ⟨E4,t4⟩:=(h.bR b f).1 m4
 have hne:a≠b:=fun e1=>hab (e1 ▸ .refl)
 have c1:P.Lp L R (R e) (L f)∨P.Lp L R (R f) (L e):=by
  rcases uP h F E1 E4 (fun e1=>hne (by rw [← t1, ← t4,e1])) with g|g|g|g
  ·rw [t4] at g;exact absurd (q8 h F m1 g) hab
  ·rw [t1] at g;exact absurd (q8 h F m4 g) hba
  ·exact .inl g
  ·exact .inr g
 have c2:P.Lp L R (R e') (L f')∨P.Lp L R (R f') (L e'):=by
  rcases uP h F E2 E3 (fun e1=>hne (by rw [← t2, ← t3,e1])) with g|g|g|g
  ·rw [t3] at g;exact absurd (q8 h F m2 g) hab
  ·rw [t2] at g;exact absurd (q8 h F m3 g) hba
  ·exact .inl g
  ·exact .inr g
 rcases c1 with c1|c1
 ·exact .inl ⟨u,e,f,v',hu,GC,c1⟩
 rcases c2 with c2|c2
 rotate_left
 ·exact .inr ⟨v,f',e',u',hv,xC,c2⟩
 exfalso
 obtain ⟨p1,q1,r1,r2,r3,r4⟩:=pS h F E4 E1 c1
 obtain ⟨p2,q2,s1,s2,s3,s4⟩:=pS h F E2 E3 c2
 rcases Nat.lt_or_ge p1 p2 with h1|h1
 ·have:=DW h F hb m4 m3 r3 s4 s2 (t:=p2) (by omega) (by omega)
  rw [s3,t2] at this;exact hba this
 ·have:=DW h F ha m2 m1 s3 r4 r2 (t:=p1) (by omega) (by omega)
  rw [r3,t4] at this;exact hab this
theorem DX {a b:Int} (hl:P.F2 L R b a):∃p q e f,p<q∧q<P.m∧e∈P.outs b∧f∈P.outs a∧P.sh p=e∧P.sh q=f∧∃v,P.outs a=f::v:=by
 obtain ⟨u,e,f,v,hu,hv,hp⟩:=hl
 have m1:e∈P.outs b:=by rw [hu];simp
 have m2:f∈P.outs a:=by rw [hv];simp
 obtain ⟨i,j,h1,h2,h3,h4⟩:=pS h F ((h.bR b e).1 m1).1 ((h.bR a f).1 m2).1 hp
 exact ⟨i,j,e,f,h1,h2,m1,m2,h3,h4,v,hv⟩
theorem wN {a b:Int} (ha:a≠P.src) (hb:P.LY a b) (hl:P.F2 L R b a):False:=by
 obtain ⟨p,q,e,f,h1,h2,h3,h4,h5,h6,v,hv⟩:=DX h F hl
 obtain ⟨j,hj,g1,g2⟩:=hb
 obtain ⟨i,A',B,k1,k2,k3,k4,k5,k6,k7⟩:=mG h F ha hj g1
 have hs:P.sh (i+1)=f:=by unfold PS.sh;rw [k7,hv];rfl
 have hq:q=i+1:=by
  by_cases hi:i+1<P.m
  ·exact wv h h2 hi (h6.trans hs.symm)
  ·exfalso
   have he:i+1=P.m:=by omega
   have:=FZ h F
   rw [← he,k7,hv] at this
   simp at this
 have ht:=AN h (j:=p) (by omega)
 rw [h5,((h.bR b e).1 h3).2] at ht
 exact g2 (LX h (by omega) hj ht)
theorem AO {a b:Int} (ha:a≠P.src) (hb:b≠P.src) (hab:¬P.ku a b) (hba:¬P.ku b a) (KC:P.outs a≠ []) (zg:P.outs b≠ []) (LZ:P.LY a b):P.F2 L R a b:=by
 rcases BW h F ha hb hab hba KC zg with h1|h1
 ·exact h1
 ·exact absurd h1 (wN h F ha LZ)
end
end Go.Ab
end
section
namespace Go.Ab
open Go.Proofs
attribute [local congr] ACall.congr
set_option maxRecDepth 10000
def eN (n:Int):AV:= .d (.sc (.int .i64 n))
def eB (b:Bool):AV:= .d (.sc (.bool b))
abbrev Edge:=Int × Int
structure Gr where
 n:Int
 es:List Edge
def rE (e:Edge):List D:= [.sc (.int .i64 e.1), .sc (.int .i64 e.2)]
def rI (n:Int):List D:= [.sc (.int .i64 n)]
def eE (e:Edge):AV:= .agg [.d (.sc (.int .i64 e.1)), .d (.sc (.int .i64 e.2))]
def sE (es:List Edge):D:= .sl 2 (es.map rE)
def sI (l:List Int):D:= .sl 1 (l.map rI)
def eG (g:Gr):AV:= .agg [eN g.n, .d (sE g.es)]
attribute [go_sem] eN eB eE sE sI eG Args AVrs
theorem getD_rE (ps:List Edge) (i:Nat):(ps.map rE).getD i [.sc (.int .i64 0), .sc (.int .i64 0)]= [.sc (.int .i64 (ps.getD i (0,0)).1), .sc (.int .i64 (ps.getD i (0,0)).2)]:=by
 simp only [List.getD_eq_getElem?_getD,List.getElem?_map]
 cases ps[i]? <;>rfl
theorem getD_rI (ps:List Int) (i:Nat):(ps.map rI).getD i [.sc (.int .i64 0)]= [.sc (.int .i64 (ps.getD i 0))]:=by
 simp only [List.getD_eq_getElem?_getD,List.getElem?_map]
 cases ps[i]? <;>rfl
theorem wO (l:List Int) (k:Nat) (v:Int):(l.map rI).set k [.sc (.int .i64 v)]=(l.set k v).map rI:=by
 rw [List.map_set];rfl
attribute [go_sem] getD_rE getD_rI Int.toNat_natCast List.length_set
def PK (n:Int):Prop:= -9223372036854775808≤n∧n≤9223372036854775807
def Len (n:Nat):Prop:=n≤9223372036854775807
end Go.Ab
end
section
namespace Go.Ab
open Go.Proofs
attribute [local congr] ACall.congr
set_option maxRecDepth 10000
def bW {α:Type} (g:α→Bool) (ps:List α):Int:=match ps.findIdx? g with|some i=>i|none=> -1
theorem cM {α:Type} {g:α→Bool} {ps:List α} (d:α) (h:∀j,j<ps.length→g (ps.getD j d)=false):bW g ps= -1:=by
 have:ps.findIdx? g=none:=by
  rw [List.findIdx?_eq_none_iff]
  intro x hx
  obtain ⟨j,hj,rfl⟩:=List.getElem_of_mem hx
  simpa [List.getD_eq_getElem?_getD,List.getElem?_eq_getElem hj] using h j hj
 simp [bW,this]
theorem dV {α:Type} {g:α→Bool} {ps:List α} {d:α} {k:Nat} (hk:k<ps.length) (h:∀j,j<k→g (ps.getD j d)=false) (hg:g (ps.getD k d)=true):bW g ps=k:=by
 have:ps.findIdx? g=some k:=by
  rw [List.findIdx?_eq_some_iff_getElem]
  refine ⟨hk,by simpa [List.getD_eq_getElem?_getD,List.getElem?_eq_getElem hk] using hg,fun j hj=> ?_⟩
  have:=h j hj
  simpa [List.getD_eq_getElem?_getD,List.getElem?_eq_getElem (Nat.lt_trans hj hk)] using this
 simp [bW,this]
theorem iN {α:Type} (g:α→Bool) (ps:List α):decide (0≤bW g ps)=ps.any g:=by
 cases h:ps.findIdx? g with
 |none=>
  have:bW g ps= -1:=by simp [bW,h]
  rw [this]
  rw [List.findIdx?_eq_none_iff] at h
  symm
  simpa using h
 |some i=>
  have:bW g ps=i:=by simp [bW,h]
  rw [this]
  obtain ⟨hi,hg,_⟩:=List.findIdx?_eq_some_iff_getElem.1 h
  have:ps.any g=true:=List.any_eq_true.2 ⟨_,List.getElem_mem hi,hg⟩
  rw [this];simp
theorem ym {α:Type} (g:α→Bool) (ps:List α):bW g ps= -1∨(0≤bW g ps∧bW g ps<ps.length):=by
 cases h:ps.findIdx? g with
 |none=>exact .inl (by simp [bW,h])
 |some i=>
  obtain ⟨hi,hg,_⟩:=List.findIdx?_eq_some_iff_getElem.1 h
  exact .inr (by simp [bW,h];omega)
theorem yo (rn:List (Nat × Nat)) (h0:rn= []) {m:List (Nat × AObj)} :∀ {r:List (Nat × AObj)},(∀p∈r,look m p.1=some p.2)→leR m rn r
 | [],_=>trivial
 |p::r,h=>by
  subst h0
  have h1:=h p List.mem_cons_self
  refine ⟨?_,yo [] rfl fun q hq=>h q (List.mem_cons_of_mem _ hq)⟩
  have e:renO [] p.2=p.2:=rfl
  show look m p.1=some (renO [] p.2)
  rw [e];exact h1
theorem eY {m:List (Nat × AObj)} (h:bw m):leR m [] m:=yo [] rfl fun _ hp=>aR h.nd hp
theorem bP {m:List (Nat × AObj)} (hR:bw m) (f:Nat) (caps:List AV) (g:Edge→Bool) (hf:∀p,Spec Tryz.prog f (Args (eE p::caps)) m (eB (g p)) m) (ps:List Edge) (hl:ps.length≤9223372036854775807):
 Spec Tryz.prog 130 (Args [.d (sE ps), .fn f [] caps]) m (eN (bW g ps)) m:=by
 (refine Spec.intro (C:=T.cfg [] []) (rs:= [.t 4]) (T.ai _ _) Tryz.func130 rfl rfl Tryz.ntmps130 Tryz.results130 (fun p hp=>⟨(bw.low hR p hp).1,bw.nest hR p hp⟩) (fun p hp=>⟨(bw.low hR p hp).2,bw.nest hR p hp⟩) (by kernel_rfl) ?_;intro X hX hP hC aG aH vals hA;refine ⟨_,by simp,hA, ?_⟩;have af:X.P.follows .mixedOrders=true:=(by rw [hP];exact T.mixed);clear aG aH)
 repeat' (first|((first|((with_reducible (first|apply oA|apply oB));exact rfl;intro K hK)|(refine hK _ ?_;clear hK K)|((with_reducible (first|apply oG|apply oH));iterate 3 exact rfl)|((with_reducible apply oI);(iterate 2 exact rfl);intro K hK)|(with_reducible (first|apply wI|apply wJ|apply wK)));try simp only [go_sem,simprocAttr])|(with_reducible (first|apply oC|apply oJ|exact oK|apply wA|apply wB|apply wC hX hC|apply wD hX hC|apply wE hX hC af|apply wF hX hC af|apply wG|apply wH|apply And.intro))|((with_reducible refine oD ?_ ?_);kernel_rfl)|((with_reducible (first|apply oE|apply oF));(iterate 3 exact rfl);all_goals (intro h;first|(exact absurd h (by decide))|((try simp only [go_sem,simprocAttr] at h);(try with_reducible intro K hK);simp only [go_sem,simprocAttr])))|((first|((with_reducible apply wL);exact rfl)|((with_reducible apply wM);exact rfl));all_goals (try ((with_reducible intro h);first|(exact absurd h (by decide))|(try simp only [go_sem,simprocAttr] at h))))|omega|((first|(first|(refine bf hX hC hP hR (hf _) rfl rfl rfl ?_ ?_ rfl rfl ?_;(focus (simp only [go_sem,simprocAttr];done));(focus (first|(intro p hp;exact aR (bw.nd hR) hp)|(simp [go_sem,simprocAttr];done))))|(refine bf hX hC hP hR (hf _) rfl rfl rfl ?_ ?_ ?_ rfl ?_;(focus (simp only [go_sem,simprocAttr];done));(focus (first|(intro p hp;exact aR (bw.nd hR) hp)|(simp [go_sem,simprocAttr];done)));(focus (simp [go_sem,simprocAttr];done)))));try simp only [go_sem,simprocAttr])|(intro h))
 refine aj (fun k:Nat=>k≤ps.length∧∀j,j<k→g (ps.getD j (0,0))=false) (fun k=>⟨[(0, .d (sE ps)),(1, .fn f [] caps),(7,eN ps.length),(8,eN k)],m⟩) (fun k=>ps.length - k) 0 (by simp) ?_ ?_
 ·(refine ⟨bQ ?_,fun _ _ h=>h⟩;simp [go_sem,simprocAttr])
 rintro k ⟨hk,hg⟩
 repeat' (first|((first|((with_reducible (first|apply oA|apply oB));exact rfl;intro K hK)|(refine hK _ ?_;clear hK K)|((with_reducible (first|apply oG|apply oH));iterate 3 exact rfl)|((with_reducible apply oI);(iterate 2 exact rfl);intro K hK)|(with_reducible (first|apply wI|apply wJ|apply wK)));try simp only [go_sem,simprocAttr])|(with_reducible (first|apply oC|apply oJ|exact oK|apply wA|apply wB|apply wC hX hC|apply wD hX hC|apply wE hX hC af|apply wF hX hC af|apply wG|apply wH|apply And.intro))|((with_reducible refine oD ?_ ?_);kernel_rfl)|((with_reducible (first|apply oE|apply oF));(iterate 3 exact rfl);all_goals (intro h;first|(exact absurd h (by decide))|((try simp only [go_sem,simprocAttr] at h);(try with_reducible intro K hK);simp only [go_sem,simprocAttr])))|((first|((with_reducible apply wL);exact rfl)|((with_reducible apply wM);exact rfl));all_goals (try ((with_reducible intro h);first|(exact absurd h (by decide))|(try simp only [go_sem,simprocAttr] at h))))|omega|((first|(first|(refine bf hX hC hP hR (hf _) rfl rfl rfl ?_ ?_ rfl rfl ?_;(focus (simp only [go_sem,simprocAttr];done));(focus (first|(intro p hp;exact aR (bw.nd hR) hp)|(simp [go_sem,simprocAttr];done))))|(refine bf hX hC hP hR (hf _) rfl rfl rfl ?_ ?_ ?_ rfl ?_;(focus (simp only [go_sem,simprocAttr];done));(focus (first|(intro p hp;exact aR (bw.nd hR) hp)|(simp [go_sem,simprocAttr];done)));(focus (simp [go_sem,simprocAttr];done)))));try simp only [go_sem,simprocAttr])|(intro h))
 ·exact (dV (by omega) hg h).symm
 ·exact eY hR
 ·refine ⟨k+1,⟨by omega,fun j hj=> ?_⟩, ?_,by omega⟩
  ·by_cases hjk:j=k
   ·subst hjk;exact h
   ·exact hg j (by omega)
  ·(refine ⟨bQ ?_,fun _ _ h=>h⟩;simp [go_sem,simprocAttr])
 ·exact (cM (0,0) fun j hj=>hg j (by omega)).symm
 ·exact eY hR
theorem cV {m:List (Nat × AObj)} (hR:bw m) (f:Nat) (caps:List AV) (g:Int→Bool) (hf:∀p,Spec Tryz.prog f (Args (eN p::caps)) m (eB (g p)) m) (ps:List Int) (hl:ps.length≤9223372036854775807):
 Spec Tryz.prog 177 (Args [.d (sI ps), .fn f [] caps]) m (eN (bW g ps)) m:=by
 (refine Spec.intro (C:=T.cfg [] []) (rs:= [.t 4]) (T.ai _ _) Tryz.func177 rfl rfl Tryz.ntmps177 Tryz.results177 (fun p hp=>⟨(bw.low hR p hp).1,bw.nest hR p hp⟩) (fun p hp=>⟨(bw.low hR p hp).2,bw.nest hR p hp⟩) (by kernel_rfl) ?_;intro X hX hP hC aG aH vals hA;refine ⟨_,by simp,hA, ?_⟩;have af:X.P.follows .mixedOrders=true:=(by rw [hP];exact T.mixed);clear aG aH)
 repeat' (first|((first|((with_reducible (first|apply oA|apply oB));exact rfl;intro K hK)|(refine hK _ ?_;clear hK K)|((with_reducible (first|apply oG|apply oH));iterate 3 exact rfl)|((with_reducible apply oI);(iterate 2 exact rfl);intro K hK)|(with_reducible (first|apply wI|apply wJ|apply wK)));try simp only [go_sem,simprocAttr])|(with_reducible (first|apply oC|apply oJ|exact oK|apply wA|apply wB|apply wC hX hC|apply wD hX hC|apply wE hX hC af|apply wF hX hC af|apply wG|apply wH|apply And.intro))|((with_reducible refine oD ?_ ?_);kernel_rfl)|((with_reducible (first|apply oE|apply oF));(iterate 3 exact rfl);all_goals (intro h;first|(exact absurd h (by decide))|((try simp only [go_sem,simprocAttr] at h);(try with_reducible intro K hK);simp only [go_sem,simprocAttr])))|((first|((with_reducible apply wL);exact rfl)|((with_reducible apply wM);exact rfl));all_goals (try ((with_reducible intro h);first|(exact absurd h (by decide))|(try simp only [go_sem,simprocAttr] at h))))|omega|((first|(first|(refine bf hX hC hP hR (hf _) rfl rfl rfl ?_ ?_ rfl rfl ?_;(focus (simp only [go_sem,simprocAttr];done));(focus (first|(intro p hp;exact aR (bw.nd hR) hp)|(simp [go_sem,simprocAttr];done))))|(refine bf hX hC hP hR (hf _) rfl rfl rfl ?_ ?_ ?_ rfl ?_;(focus (simp only [go_sem,simprocAttr];done));(focus (first|(intro p hp;exact aR (bw.nd hR) hp)|(simp [go_sem,simprocAttr];done)));(focus (simp [go_sem,simprocAttr];done)))));try simp only [go_sem,simprocAttr])|(intro h))
 refine aj (fun k:Nat=>k≤ps.length∧∀j,j<k→g (ps.getD j 0)=false) (fun k=>⟨[(0, .d (sI ps)),(1, .fn f [] caps),(7,eN ps.length),(8,eN k)],m⟩) (fun k=>ps.length - k) 0 (by simp) ?_ ?_
 ·(refine ⟨bQ ?_,fun _ _ h=>h⟩;simp [go_sem,simprocAttr])
 rintro k ⟨hk,hg⟩
 repeat' (first|((first|((with_reducible (first|apply oA|apply oB));exact rfl;intro K hK)|(refine hK _ ?_;clear hK K)|((with_reducible (first|apply oG|apply oH));iterate 3 exact rfl)|((with_reducible apply oI);(iterate 2 exact rfl);intro K hK)|(with_reducible (first|apply wI|apply wJ|apply wK)));try simp only [go_sem,simprocAttr])|(with_reducible (first|apply oC|apply oJ|exact oK|apply wA|apply wB|apply wC hX hC|apply wD hX hC|apply wE hX hC af|apply wF hX hC af|apply wG|apply wH|apply And.intro))|((with_reducible refine oD ?_ ?_);kernel_rfl)|((with_reducible (first|apply oE|apply oF));(iterate 3 exact rfl);all_goals (intro h;first|(exact absurd h (by decide))|((try simp only [go_sem,simprocAttr] at h);(try with_reducible intro K hK);simp only [go_sem,simprocAttr])))|((first|((with_reducible apply wL);exact rfl)|((with_reducible apply wM);exact rfl));all_goals (try ((with_reducible intro h);first|(exact absurd h (by decide))|(try simp only [go_sem,simprocAttr] at h))))|omega|((first|(first|(refine bf hX hC hP hR (hf _) rfl rfl rfl ?_ ?_ rfl rfl ?_;(focus (simp only [go_sem,simprocAttr];done));(focus (first|(intro p hp;exact aR (bw.nd hR) hp)|(simp [go_sem,simprocAttr];done))))|(refine bf hX hC hP hR (hf _) rfl rfl rfl ?_ ?_ ?_ rfl ?_;(focus (simp only [go_sem,simprocAttr];done));(focus (first|(intro p hp;exact aR (bw.nd hR) hp)|(simp [go_sem,simprocAttr];done)));(focus (simp [go_sem,simprocAttr];done)))));try simp only [go_sem,simprocAttr])|(intro h))
 ·exact (dV (by omega) hg h).symm
 ·exact eY hR
 ·refine ⟨k+1,⟨by omega,fun j hj=> ?_⟩, ?_,by omega⟩
  ·by_cases hjk:j=k
   ·subst hjk;exact h
   ·exact hg j (by omega)
  ·(refine ⟨bQ ?_,fun _ _ h=>h⟩;simp [go_sem,simprocAttr])
 ·exact (cM 0 fun j hj=>hg j (by omega)).symm
 ·exact eY hR
theorem nJ {m:List (Nat × AObj)} (hR:bw m) (f:Nat) (caps:List AV) (g:Edge→Bool) (hf:∀p,Spec Tryz.prog f (Args (eE p::caps)) m (eB (g p)) m) (ps:List Edge) (hl:ps.length≤9223372036854775807):
 Spec Tryz.prog 147 (Args [.d (sE ps), .fn f [] caps]) m (eB (ps.any g)) m:=by
 (refine Spec.intro (C:=T.cfg [] []) (rs:= [.t 4]) (T.ai _ _) Tryz.func147 rfl rfl Tryz.ntmps147 Tryz.results147 (fun p hp=>⟨(bw.low hR p hp).1,bw.nest hR p hp⟩) (fun p hp=>⟨(bw.low hR p hp).2,bw.nest hR p hp⟩) (by kernel_rfl) ?_;intro X hX hP hC aG aH vals hA;refine ⟨_,by simp,hA, ?_⟩;have af:X.P.follows .mixedOrders=true:=(by rw [hP];exact T.mixed);clear aG aH)
 repeat' (first|((first|((with_reducible (first|apply oA|apply oB));exact rfl;intro K hK)|(refine hK _ ?_;clear hK K)|((with_reducible (first|apply oG|apply oH));iterate 3 exact rfl)|((with_reducible apply oI);(iterate 2 exact rfl);intro K hK)|(with_reducible (first|apply wI|apply wJ|apply wK)));try simp only [go_sem,simprocAttr])|(with_reducible (first|apply oC|apply oJ|exact oK|apply wA|apply wB|apply wC hX hC|apply wD hX hC|apply wE hX hC af|apply wF hX hC af|apply wG|apply wH|apply And.intro))|((with_reducible refine oD ?_ ?_);kernel_rfl)|((with_reducible (first|apply oE|apply oF));(iterate 3 exact rfl);all_goals (intro h;first|(exact absurd h (by decide))|((try simp only [go_sem,simprocAttr] at h);(try with_reducible intro K hK);simp only [go_sem,simprocAttr])))|((first|((with_reducible apply wL);exact rfl)|((with_reducible apply wM);exact rfl));all_goals (try ((with_reducible intro h);first|(exact absurd h (by decide))|(try simp only [go_sem,simprocAttr] at h))))|omega|((first|(first|(refine bf hX hC hP hR (bP hR _ _ g hf ps hl) rfl rfl rfl ?_ ?_ rfl rfl ?_;(focus (simp only [go_sem,simprocAttr];done));(focus (first|(intro p hp;exact aR (bw.nd hR) hp)|(simp [go_sem,simprocAttr];done))))|(refine bf hX hC hP hR (bP hR _ _ g hf ps hl) rfl rfl rfl ?_ ?_ ?_ rfl ?_;(focus (simp only [go_sem,simprocAttr];done));(focus (first|(intro p hp;exact aR (bw.nd hR) hp)|(simp [go_sem,simprocAttr];done)));(focus (simp [go_sem,simprocAttr];done)))));try simp only [go_sem,simprocAttr])|(intro h))
 ·exact iN g ps
 ·exact eY hR
def uu (g:Gr) (x:Int):Bool:=decide (x<0)||decide (g.n≤x)
def oT (g:Gr) (e:Edge):Bool:=uu g e.1||uu g e.2
def aN (g:Gr):Bool:=decide (0<g.n)&&decide (g.n≤64)&&decide ((g.es.length:Int)≤128)&& !g.es.any (oT g)
def rG (g:Gr):AObj:= .rob [eN g.n, .d (sE g.es)]
theorem uS (g:Gr) (x:Int):Spec Tryz.prog 146 (Args [eN x, .ptr 10000 0]) [(10000,rG g)] (eB (uu g x)) [(10000,rG g)]:=by
 unfold rG
 (refine Spec.intro (C:=T.cfg [] []) (rs:= [.t 3]) (T.ai _ _) Tryz.func146 rfl rfl Tryz.ntmps146 Tryz.results146 (by simp [AObj.isNest]) (by simp [AObj.isNest]) (by kernel_rfl) ?_;intro X hX hP hC aG aH vals hA;refine ⟨_,by simp,hA, ?_⟩;have af:X.P.follows .mixedOrders=true:=(by rw [hP];exact T.mixed);clear aG aH)
 repeat' (first|((first|((with_reducible (first|apply oA|apply oB));exact rfl;intro K hK)|(refine hK _ ?_;clear hK K)|((with_reducible (first|apply oG|apply oH));iterate 3 exact rfl)|((with_reducible apply oI);(iterate 2 exact rfl);intro K hK)|(with_reducible (first|apply wI|apply wJ|apply wK)));try simp only [go_sem,simprocAttr])|(with_reducible (first|apply oC|apply oJ|exact oK|apply wA|apply wB|apply wC hX hC|apply wD hX hC|apply wE hX hC af|apply wF hX hC af|apply wG|apply wH|apply And.intro))|((with_reducible refine oD ?_ ?_);kernel_rfl)|((with_reducible (first|apply oE|apply oF));(iterate 3 exact rfl);all_goals (intro h;first|(exact absurd h (by decide))|((try simp only [go_sem,simprocAttr] at h);(try with_reducible intro K hK);simp only [go_sem,simprocAttr])))|((first|((with_reducible apply wL);exact rfl)|((with_reducible apply wM);exact rfl));all_goals (try ((with_reducible intro h);first|(exact absurd h (by decide))|(try simp only [go_sem,simprocAttr] at h))))|omega|((first|(first|(refine bf hX hC hP hR (bP hR _ _ g hf ps hl) rfl rfl rfl ?_ ?_ rfl rfl ?_;(focus (simp only [go_sem,simprocAttr];done));(focus (first|(intro p hp;exact aR (bw.nd hR) hp)|(simp [go_sem,simprocAttr];done))))|(refine bf hX hC hP hR (bP hR _ _ g hf ps hl) rfl rfl rfl ?_ ?_ ?_ rfl ?_;(focus (simp only [go_sem,simprocAttr];done));(focus (first|(intro p hp;exact aR (bw.nd hR) hp)|(simp [go_sem,simprocAttr];done)));(focus (simp [go_sem,simprocAttr];done)))));try simp only [go_sem,simprocAttr])|(intro h))
 ·simp [uu, *]
 ·simp [uu, *]
theorem F3 (g:Gr):bw [(10000,rG g)]:=⟨by simp [rG,AObj.ro],by simp [nodupM,look],by simp,by simp [rG,AObj.ids,AV.ids,AV.idss,eN]⟩
def rF:AObj:= .rob [.fn 146 [] [.ptr 10000 0]]
attribute [go_sem] rG rF
theorem BX (g:Gr) (e:Edge):Spec Tryz.prog 148 (Args [eE e, .ptr 10001 0]) [(10001,rF),(10000,rG g)] (eB (oT g e)) [(10001,rF),(10000,rG g)]:=by
 unfold rF rG
 (refine Spec.intro (C:=T.cfg [] []) (rs:= [.t 3]) (T.ai _ _) Tryz.func148 rfl rfl Tryz.ntmps148 Tryz.results148 (by simp [AObj.isNest]) (by simp [AObj.isNest]) (by kernel_rfl) ?_;intro X hX hP hC aG aH vals hA;refine ⟨_,by simp,hA, ?_⟩;have af:X.P.follows .mixedOrders=true:=(by rw [hP];exact T.mixed);clear aG aH)
 repeat' (first|((first|((with_reducible (first|apply oA|apply oB));exact rfl;intro K hK)|(refine hK _ ?_;clear hK K)|((with_reducible (first|apply oG|apply oH));iterate 3 exact rfl)|((with_reducible apply oI);(iterate 2 exact rfl);intro K hK)|(with_reducible (first|apply wI|apply wJ|apply wK)));try simp only [go_sem,simprocAttr])|(with_reducible (first|apply oC|apply oJ|exact oK|apply wA|apply wB|apply wC hX hC|apply wD hX hC|apply wE hX hC af|apply wF hX hC af|apply wG|apply wH|apply And.intro))|((with_reducible refine oD ?_ ?_);kernel_rfl)|((with_reducible (first|apply oE|apply oF));(iterate 3 exact rfl);all_goals (intro h;first|(exact absurd h (by decide))|((try simp only [go_sem,simprocAttr] at h);(try with_reducible intro K hK);simp only [go_sem,simprocAttr])))|((first|((with_reducible apply wL);exact rfl)|((with_reducible apply wM);exact rfl));all_goals (try ((with_reducible intro h);first|(exact absurd h (by decide))|(try simp only [go_sem,simprocAttr] at h))))|omega|((first|(first|(refine bf hX hC hP (F3 g) (uS g _) rfl rfl rfl ?_ ?_ rfl rfl ?_;(focus (simp only [go_sem,simprocAttr];done));(focus (first|(intro p hp;exact aR (bw.nd (F3 g)) hp)|(simp [go_sem,simprocAttr];done))))|(refine bf hX hC hP (F3 g) (uS g _) rfl rfl rfl ?_ ?_ ?_ rfl ?_;(focus (simp only [go_sem,simprocAttr];done));(focus (first|(intro p hp;exact aR (bw.nd (F3 g)) hp)|(simp [go_sem,simprocAttr];done)));(focus (simp [go_sem,simprocAttr];done)))));try simp only [go_sem,simprocAttr])|(intro h))
 ·simp [oT, *]
 ·simp [oT, *]
theorem L0 (g:Gr):bw [(10001,rF),(10000,rG g)]:=⟨by simp [rG,rF,AObj.ro],by simp [nodupM,look],by simp,by simp [rG,rF,AObj.ids,AV.ids,AV.idss,eN,look]⟩
theorem gh (g:Gr) (hl:g.es.length≤9223372036854775807):Spec Tryz.prog 96 (Args [eG g]) [] (eB (aN g)) []:=by
 (refine Spec.intro (C:=T.cfg [] []) (rs:= [.t 2]) (T.ai _ _) Tryz.func96 rfl rfl Tryz.ntmps96 Tryz.results96 (by simp [AObj.isNest]) (by simp [AObj.isNest]) (by kernel_rfl) ?_;intro X hX hP hC aG aH vals hA;refine ⟨_,by simp,hA, ?_⟩;have af:X.P.follows .mixedOrders=true:=(by rw [hP];exact T.mixed);clear aG aH)
 repeat' (first|((first|((with_reducible (first|apply oA|apply oB));exact rfl;intro K hK)|(refine hK _ ?_;clear hK K)|((with_reducible (first|apply oG|apply oH));iterate 3 exact rfl)|((with_reducible apply oI);(iterate 2 exact rfl);intro K hK)|(with_reducible (first|apply wI|apply wJ|apply wK)));try simp only [go_sem,simprocAttr])|(with_reducible (first|apply oC|apply oJ|exact oK|apply wA|apply wB|apply wC hX hC|apply wD hX hC|apply wE hX hC af|apply wF hX hC af|apply wG|apply wH|apply And.intro))|((with_reducible refine oD ?_ ?_);kernel_rfl)|((with_reducible (first|apply oE|apply oF));(iterate 3 exact rfl);all_goals (intro h;first|(exact absurd h (by decide))|((try simp only [go_sem,simprocAttr] at h);(try with_reducible intro K hK);simp only [go_sem,simprocAttr])))|((first|((with_reducible apply wL);exact rfl)|((with_reducible apply wM);exact rfl));all_goals (try ((with_reducible intro h);first|(exact absurd h (by decide))|(try simp only [go_sem,simprocAttr] at h))))|omega|((first|(refine aF hX hC hP [(10000,1),(10001,3)] (nJ (L0 g) _ _ (oT g) (BX g) g.es hl) rfl rfl rfl ?_ ?_ ?_ ?_ ?_ ?_ rfl rfl ?_ ?_;(focus (simp only [go_sem,simprocAttr];done));(iterate 6 (focus (simp [go_sem,simprocAttr];done)));simp only [go_sem,simprocAttr,List.map_cons,List.map_nil]));try simp only [go_sem,simprocAttr])|(intro h))
 all_goals simp [aN, *]
end Go.Ab
end
section
namespace Go.Ab
open Go.Proofs
attribute [local congr] ACall.congr
set_option maxRecDepth 10000
def dL (l:List Int) (x:Int):Int:=bW (fun y=>decide (x=y)) l
def HK (l:List Edge) (x:Edge):Int:=bW (fun y=>decide (x=y)) l
theorem DY (l:List Int) (x:Int):decide (0≤dL l x)=decide (x∈l):=by
 unfold dL;rw [iN,Bool.eq_iff_iff];simp
theorem DZ (l:List Edge) (x:Edge):decide (0≤HK l x)=decide (x∈l):=by
 unfold HK;rw [iN,Bool.eq_iff_iff];simp [-Prod.exists, -Prod.forall]
theorem kJ (x y:Edge):(decide (x.1=y.1)&&decide (x.2=y.2))=decide (x=y):=by
 obtain ⟨a,b⟩:=x;obtain ⟨c,d⟩:=y
 rw [Bool.eq_iff_iff];simp
theorem aT (ps:List Int) (x:Int) (hl:ps.length≤9223372036854775807):
 Spec Tryz.prog 73 (Args [.d (sI ps),eN x]) [] (eN (dL ps x)) []:=by
 (refine Spec.intro (C:=T.cfg [] []) (rs:= [.t 4]) (T.ai _ _) Tryz.func73 rfl rfl Tryz.ntmps73 Tryz.results73 (by simp [AObj.isNest]) (by simp [AObj.isNest]) (by kernel_rfl) ?_;intro X hX hP hC aG aH vals hA;refine ⟨_,by simp,hA, ?_⟩;have af:X.P.follows .mixedOrders=true:=(by rw [hP];exact T.mixed);clear aG aH)
 repeat' (first|((first|((with_reducible (first|apply oA|apply oB));exact rfl;intro K hK)|(refine hK _ ?_;clear hK K)|((with_reducible (first|apply oG|apply oH));iterate 3 exact rfl)|((with_reducible apply oI);(iterate 2 exact rfl);intro K hK)|(with_reducible (first|apply wI|apply wJ|apply wK)));try simp only [go_sem,simprocAttr])|(with_reducible (first|apply oC|apply oJ|exact oK|apply wA|apply wB|apply wC hX hC|apply wD hX hC|apply wE hX hC af|apply wF hX hC af|apply wG|apply wH|apply And.intro))|((with_reducible refine oD ?_ ?_);kernel_rfl)|((with_reducible (first|apply oE|apply oF));(iterate 3 exact rfl);all_goals (intro h;first|(exact absurd h (by decide))|((try simp only [go_sem,simprocAttr] at h);(try with_reducible intro K hK);simp only [go_sem,simprocAttr])))|((first|((with_reducible apply wL);exact rfl)|((with_reducible apply wM);exact rfl));all_goals (try ((with_reducible intro h);first|(exact absurd h (by decide))|(try simp only [go_sem,simprocAttr] at h))))|omega|(intro h))
 refine aj (fun k:Nat=>k≤ps.length∧∀j,j<k→decide (x=ps.getD j 0)=false) (fun k=>⟨[(0, .d (sI ps)),(1,eN x),(7,eN ps.length),(8,eN k)], []⟩) (fun k=>ps.length - k) 0 (by simp) ?_ ?_
 ·(refine ⟨bQ ?_,fun _ _ h=>h⟩;simp [go_sem,simprocAttr])
 rintro k ⟨hk,hg⟩
 repeat' (first|((first|((with_reducible (first|apply oA|apply oB));exact rfl;intro K hK)|(refine hK _ ?_;clear hK K)|((with_reducible (first|apply oG|apply oH));iterate 3 exact rfl)|((with_reducible apply oI);(iterate 2 exact rfl);intro K hK)|(with_reducible (first|apply wI|apply wJ|apply wK)));try simp only [go_sem,simprocAttr])|(with_reducible (first|apply oC|apply oJ|exact oK|apply wA|apply wB|apply wC hX hC|apply wD hX hC|apply wE hX hC af|apply wF hX hC af|apply wG|apply wH|apply And.intro))|((with_reducible refine oD ?_ ?_);kernel_rfl)|((with_reducible (first|apply oE|apply oF));(iterate 3 exact rfl);all_goals (intro h;first|(exact absurd h (by decide))|((try simp only [go_sem,simprocAttr] at h);(try with_reducible intro K hK);simp only [go_sem,simprocAttr])))|((first|((with_reducible apply wL);exact rfl)|((with_reducible apply wM);exact rfl));all_goals (try ((with_reducible intro h);first|(exact absurd h (by decide))|(try simp only [go_sem,simprocAttr] at h))))|omega|(intro h))
 ·exact (dV (by omega) hg (by simpa using h)).symm
 ·refine ⟨k+1,⟨by omega,fun j hj=> ?_⟩, ?_,by omega⟩
  ·by_cases hjk:j=k
   ·subst hjk;simpa using h
   ·simpa using hg j (by omega)
  ·(refine ⟨bQ ?_,fun _ _ h=>h⟩;simp [go_sem,simprocAttr])
 ·exact (cM 0 fun j hj=>hg j (by omega)).symm
theorem aY (ps:List Int) (x:Int) (hl:ps.length≤9223372036854775807):
 Spec Tryz.prog 166 (Args [.d (sI ps),eN x]) [] (eB (decide (x∈ps))) []:=by
 rw [← DY]
 (refine Spec.intro (C:=T.cfg [] []) (rs:= [.t 4]) (T.ai _ _) Tryz.func166 rfl rfl Tryz.ntmps166 Tryz.results166 (by simp [AObj.isNest]) (by simp [AObj.isNest]) (by kernel_rfl) ?_;intro X hX hP hC aG aH vals hA;refine ⟨_,by simp,hA, ?_⟩;have af:X.P.follows .mixedOrders=true:=(by rw [hP];exact T.mixed);clear aG aH)
 repeat' (first|((first|((with_reducible (first|apply oA|apply oB));exact rfl;intro K hK)|(refine hK _ ?_;clear hK K)|((with_reducible (first|apply oG|apply oH));iterate 3 exact rfl)|((with_reducible apply oI);(iterate 2 exact rfl);intro K hK)|(with_reducible (first|apply wI|apply wJ|apply wK)));try simp only [go_sem,simprocAttr])|(with_reducible (first|apply oC|apply oJ|exact oK|apply wA|apply wB|apply wC hX hC|apply wD hX hC|apply wE hX hC af|apply wF hX hC af|apply wG|apply wH|apply And.intro))|((with_reducible refine oD ?_ ?_);kernel_rfl)|((with_reducible (first|apply oE|apply oF));(iterate 3 exact rfl);all_goals (intro h;first|(exact absurd h (by decide))|((try simp only [go_sem,simprocAttr] at h);(try with_reducible intro K hK);simp only [go_sem,simprocAttr])))|((first|((with_reducible apply wL);exact rfl)|((with_reducible apply wM);exact rfl));all_goals (try ((with_reducible intro h);first|(exact absurd h (by decide))|(try simp only [go_sem,simprocAttr] at h))))|omega|((first|refine aa hX hC hP (aT ps x hl) rfl rfl rfl (by simp only [go_sem,simprocAttr]) rfl ?_);try simp only [go_sem,simprocAttr])|(intro h))
theorem yp (ps:List Edge) (x:Edge) (hl:ps.length≤9223372036854775807):
 Spec Tryz.prog 175 (Args [.d (sE ps),eE x]) [] (eN (HK ps x)) []:=by
 (refine Spec.intro (C:=T.cfg [] []) (rs:= [.t 4]) (T.ai _ _) Tryz.func175 rfl rfl Tryz.ntmps175 Tryz.results175 (by simp [AObj.isNest]) (by simp [AObj.isNest]) (by kernel_rfl) ?_;intro X hX hP hC aG aH vals hA;refine ⟨_,by simp,hA, ?_⟩;have af:X.P.follows .mixedOrders=true:=(by rw [hP];exact T.mixed);clear aG aH)
 repeat' (first|((first|((with_reducible (first|apply oA|apply oB));exact rfl;intro K hK)|(refine hK _ ?_;clear hK K)|((with_reducible (first|apply oG|apply oH));iterate 3 exact rfl)|((with_reducible apply oI);(iterate 2 exact rfl);intro K hK)|(with_reducible (first|apply wI|apply wJ|apply wK)));try simp only [go_sem,simprocAttr])|(with_reducible (first|apply oC|apply oJ|exact oK|apply wA|apply wB|apply wC hX hC|apply wD hX hC|apply wE hX hC af|apply wF hX hC af|apply wG|apply wH|apply And.intro))|((with_reducible refine oD ?_ ?_);kernel_rfl)|((with_reducible (first|apply oE|apply oF));(iterate 3 exact rfl);all_goals (intro h;first|(exact absurd h (by decide))|((try simp only [go_sem,simprocAttr] at h);(try with_reducible intro K hK);simp only [go_sem,simprocAttr])))|((first|((with_reducible apply wL);exact rfl)|((with_reducible apply wM);exact rfl));all_goals (try ((with_reducible intro h);first|(exact absurd h (by decide))|(try simp only [go_sem,simprocAttr] at h))))|omega|(intro h))
 refine aj (fun k:Nat=>k≤ps.length∧∀j,j<k→decide (x=ps.getD j (0,0))=false) (fun k=>⟨[(0, .d (sE ps)),(3, .ptr 3 0),(7,eN ps.length),(8,eN k)], [(3, .box [eN x.1,eN x.2])]⟩) (fun k=>ps.length - k) 0 (by simp) ?_ ?_
 ·(refine Le.of ?_ ?_<;>simp [go_sem,simprocAttr])
 rintro k ⟨hk,hg⟩
 repeat' (first|((first|((with_reducible (first|apply oA|apply oB));exact rfl;intro K hK)|(refine hK _ ?_;clear hK K)|((with_reducible (first|apply oG|apply oH));iterate 3 exact rfl)|((with_reducible apply oI);(iterate 2 exact rfl);intro K hK)|(with_reducible (first|apply wI|apply wJ|apply wK)));try simp only [go_sem,simprocAttr,kJ])|(with_reducible (first|apply oC|apply oJ|exact oK|apply wA|apply wB|apply wC hX hC|apply wD hX hC|apply wE hX hC af|apply wF hX hC af|apply wG|apply wH|apply And.intro))|((with_reducible refine oD ?_ ?_);kernel_rfl)|((with_reducible (first|apply oE|apply oF));(iterate 3 exact rfl);all_goals (intro h;first|(exact absurd h (by decide))|((try simp only [go_sem,simprocAttr,kJ] at h);(try with_reducible intro K hK);simp only [go_sem,simprocAttr,kJ])))|((first|((with_reducible apply wL);exact rfl)|((with_reducible apply wM);exact rfl));all_goals (try ((with_reducible intro h);first|(exact absurd h (by decide))|(try simp only [go_sem,simprocAttr,kJ] at h))))|omega|(intro h))
 ·exact (dV (d:=(0,0)) (by omega) hg (by simpa using h)).symm
 ·refine ⟨k+1,⟨by omega,fun j hj=> ?_⟩, ?_,by omega⟩
  ·by_cases hjk:j=k
   ·subst hjk;exact h
   ·simpa using hg j (by omega)
  ·(refine Le.of ?_ ?_<;>simp [go_sem,simprocAttr,kJ])
 ·exact (cM (0,0) fun j hj=>hg j (by omega)).symm
theorem er (ps:List Edge) (x:Edge) (hl:ps.length≤9223372036854775807):
 Spec Tryz.prog 132 (Args [.d (sE ps),eE x]) [] (eB (decide (x∈ps))) []:=by
 rw [← DZ]
 (refine Spec.intro (C:=T.cfg [] []) (rs:= [.t 4]) (T.ai _ _) Tryz.func132 rfl rfl Tryz.ntmps132 Tryz.results132 (by simp [AObj.isNest]) (by simp [AObj.isNest]) (by kernel_rfl) ?_;intro X hX hP hC aG aH vals hA;refine ⟨_,by simp,hA, ?_⟩;have af:X.P.follows .mixedOrders=true:=(by rw [hP];exact T.mixed);clear aG aH)
 repeat' (first|((first|((with_reducible (first|apply oA|apply oB));exact rfl;intro K hK)|(refine hK _ ?_;clear hK K)|((with_reducible (first|apply oG|apply oH));iterate 3 exact rfl)|((with_reducible apply oI);(iterate 2 exact rfl);intro K hK)|(with_reducible (first|apply wI|apply wJ|apply wK)));try simp only [go_sem,simprocAttr,kJ])|(with_reducible (first|apply oC|apply oJ|exact oK|apply wA|apply wB|apply wC hX hC|apply wD hX hC|apply wE hX hC af|apply wF hX hC af|apply wG|apply wH|apply And.intro))|((with_reducible refine oD ?_ ?_);kernel_rfl)|((with_reducible (first|apply oE|apply oF));(iterate 3 exact rfl);all_goals (intro h;first|(exact absurd h (by decide))|((try simp only [go_sem,simprocAttr,kJ] at h);(try with_reducible intro K hK);simp only [go_sem,simprocAttr,kJ])))|((first|((with_reducible apply wL);exact rfl)|((with_reducible apply wM);exact rfl));all_goals (try ((with_reducible intro h);first|(exact absurd h (by decide))|(try simp only [go_sem,simprocAttr,kJ] at h))))|omega|((first|refine aa hX hC hP (yp ps x hl) rfl rfl rfl (by simp only [go_sem,simprocAttr,kJ]) rfl ?_);try simp only [go_sem,simprocAttr,kJ])|(intro h))
theorem lQ (ps:List Edge) (hl:ps.length≤1000000):
 Spec Tryz.prog 97 (Args [.d (sE ps)]) [] (.d (sE ps)) []:=by
 (refine Spec.intro (C:=T.cfg [] []) (rs:= [.t 2]) (T.ai _ _) Tryz.func97 rfl rfl Tryz.ntmps97 Tryz.results97 (by simp [AObj.isNest]) (by simp [AObj.isNest]) (by kernel_rfl) ?_;intro X hX hP hC aG aH vals hA;refine ⟨_,by simp,hA, ?_⟩;have af:X.P.follows .mixedOrders=true:=(by rw [hP];exact T.mixed);clear aG aH)
 repeat' (first|((first|((with_reducible (first|apply oA|apply oB));exact rfl;intro K hK)|(refine hK _ ?_;clear hK K)|((with_reducible (first|apply oG|apply oH));iterate 3 exact rfl)|((with_reducible apply oI);(iterate 2 exact rfl);intro K hK)|(with_reducible (first|apply wI|apply wJ|apply wK)));try simp only [go_sem,simprocAttr])|(with_reducible (first|apply oC|apply oJ|exact oK|apply wA|apply wB|apply wC hX hC|apply wD hX hC|apply wE hX hC af|apply wF hX hC af|apply wG|apply wH|apply And.intro))|((with_reducible refine oD ?_ ?_);kernel_rfl)|((with_reducible (first|apply oE|apply oF));(iterate 3 exact rfl);all_goals (intro h;first|(exact absurd h (by decide))|((try simp only [go_sem,simprocAttr] at h);(try with_reducible intro K hK);simp only [go_sem,simprocAttr])))|((first|((with_reducible apply wL);exact rfl)|((with_reducible apply wM);exact rfl));all_goals (try ((with_reducible intro h);first|(exact absurd h (by decide))|(try simp only [go_sem,simprocAttr] at h))))|omega|(intro h))
 exact h.symm
theorem lR (ps:List Int) (hl:ps.length≤1000000):
 Spec Tryz.prog 71 (Args [.d (sI ps)]) [] (.d (sI ps)) []:=by
 (refine Spec.intro (C:=T.cfg [] []) (rs:= [.t 2]) (T.ai _ _) Tryz.func71 rfl rfl Tryz.ntmps71 Tryz.results71 (by simp [AObj.isNest]) (by simp [AObj.isNest]) (by kernel_rfl) ?_;intro X hX hP hC aG aH vals hA;refine ⟨_,by simp,hA, ?_⟩;have af:X.P.follows .mixedOrders=true:=(by rw [hP];exact T.mixed);clear aG aH)
 repeat' (first|((first|((with_reducible (first|apply oA|apply oB));exact rfl;intro K hK)|(refine hK _ ?_;clear hK K)|((with_reducible (first|apply oG|apply oH));iterate 3 exact rfl)|((with_reducible apply oI);(iterate 2 exact rfl);intro K hK)|(with_reducible (first|apply wI|apply wJ|apply wK)));try simp only [go_sem,simprocAttr])|(with_reducible (first|apply oC|apply oJ|exact oK|apply wA|apply wB|apply wC hX hC|apply wD hX hC|apply wE hX hC af|apply wF hX hC af|apply wG|apply wH|apply And.intro))|((with_reducible refine oD ?_ ?_);kernel_rfl)|((with_reducible (first|apply oE|apply oF));(iterate 3 exact rfl);all_goals (intro h;first|(exact absurd h (by decide))|((try simp only [go_sem,simprocAttr] at h);(try with_reducible intro K hK);simp only [go_sem,simprocAttr])))|((first|((with_reducible apply wL);exact rfl)|((with_reducible apply wM);exact rfl));all_goals (try ((with_reducible intro h);first|(exact absurd h (by decide))|(try simp only [go_sem,simprocAttr] at h))))|omega|(intro h))
 exact h.symm
theorem uT {α:Type} {xs ys:List α} (d:α) {k:Nat} (h1:k<xs.length) (h2:k<ys.length) (h:xs.take k=ys.take k) (he:xs.getD k d=ys.getD k d):xs.take (k+1)=ys.take (k+1):=by
 rw [List.take_add_one,List.take_add_one,h,List.getElem?_eq_getElem h1,List.getElem?_eq_getElem h2]
 simp only [List.getD_eq_getElem?_getD,List.getElem?_eq_getElem h1,List.getElem?_eq_getElem h2,Option.getD_some] at he
 rw [he]
theorem mZ (xs ys:List Int) (hlen:xs.length≤9223372036854775807):Spec Tryz.prog 59 (Args [.d (sI xs), .d (sI ys)]) [] (eB (decide (xs=ys))) []:=by
 (refine Spec.intro (C:=T.cfg [] []) (rs:= [.t 4]) (T.ai _ _) Tryz.func59 rfl rfl Tryz.ntmps59 Tryz.results59 (by simp [AObj.isNest]) (by simp [AObj.isNest]) (by kernel_rfl) ?_;intro X hX hP hC aG aH vals hA;refine ⟨_,by simp,hA, ?_⟩;have af:X.P.follows .mixedOrders=true:=(by rw [hP];exact T.mixed);clear aG aH)
 repeat' (first|((first|((with_reducible (first|apply oA|apply oB));exact rfl;intro K hK)|(refine hK _ ?_;clear hK K)|((with_reducible (first|apply oG|apply oH));iterate 3 exact rfl)|((with_reducible apply oI);(iterate 2 exact rfl);intro K hK)|(with_reducible (first|apply wI|apply wJ|apply wK)));try simp only [go_sem,simprocAttr])|(with_reducible (first|apply oC|apply oJ|exact oK|apply wA|apply wB|apply wC hX hC|apply wD hX hC|apply wE hX hC af|apply wF hX hC af|apply wG|apply wH|apply And.intro))|((with_reducible refine oD ?_ ?_);kernel_rfl)|((with_reducible (first|apply oE|apply oF));(iterate 3 exact rfl);all_goals (intro h;first|(exact absurd h (by decide))|((try simp only [go_sem,simprocAttr] at h);(try with_reducible intro K hK);simp only [go_sem,simprocAttr])))|((first|((with_reducible apply wL);exact rfl)|((with_reducible apply wM);exact rfl));all_goals (try ((with_reducible intro h);first|(exact absurd h (by decide))|(try simp only [go_sem,simprocAttr] at h))))|omega|(intro h))
 ·have:xs≠ys:=fun e=>h (by rw [e])
  simp [this]
 refine aj (fun k:Nat=>k≤xs.length∧xs.take k=ys.take k) (fun k=>⟨[(0, .d (sI xs)),(1, .d (sI ys)),(5,eN k)], []⟩) (fun k=>xs.length - k) 0 (by simp) ?_ ?_
 ·(refine ⟨bQ ?_,fun _ _ h=>h⟩;simp [go_sem,simprocAttr])
 rintro k ⟨hk,hp⟩
 have BA:xs.length=ys.length:=by omega
 repeat' (first|((first|((with_reducible (first|apply oA|apply oB));exact rfl;intro K hK)|(refine hK _ ?_;clear hK K)|((with_reducible (first|apply oG|apply oH));iterate 3 exact rfl)|((with_reducible apply oI);(iterate 2 exact rfl);intro K hK)|(with_reducible (first|apply wI|apply wJ|apply wK)));try simp only [go_sem,simprocAttr])|(with_reducible (first|apply oC|apply oJ|exact oK|apply wA|apply wB|apply wC hX hC|apply wD hX hC|apply wE hX hC af|apply wF hX hC af|apply wG|apply wH|apply And.intro))|((with_reducible refine oD ?_ ?_);kernel_rfl)|((with_reducible (first|apply oE|apply oF));(iterate 3 exact rfl);all_goals (intro h;first|(exact absurd h (by decide))|((try simp only [go_sem,simprocAttr] at h);(try with_reducible intro K hK);simp only [go_sem,simprocAttr])))|((first|((with_reducible apply wL);exact rfl)|((with_reducible apply wM);exact rfl));all_goals (try ((with_reducible intro h);first|(exact absurd h (by decide))|(try simp only [go_sem,simprocAttr] at h))))|omega|(intro h))
 ·have:xs≠ys:=fun e=>h (by rw [e])
  simp [this]
 ·refine ⟨k+1,⟨by omega,uT 0 (by omega) (by omega) hp h⟩, ?_,by omega⟩
  (refine ⟨bQ ?_,fun _ _ h=>h⟩;simp [go_sem,simprocAttr])
 ·have:k=xs.length:=by omega
  subst this
  rw [List.take_of_length_le (Nat.le_refl _),List.take_of_length_le (by omega)] at hp
  simp [hp]
theorem D2 {α:Type} {f:α→Bool} {xs:List α} (d:α) {k:Nat} (h1:k<xs.length) (h:(xs.take k).any f=false) (he:f (xs.getD k d)=false):(xs.take (k+1)).any f=false:=by
 rw [List.take_add_one,List.any_append,h,List.getElem?_eq_getElem h1]
 simp only [List.getD_eq_getElem?_getD,List.getElem?_eq_getElem h1,Option.getD_some] at he
 simp [he]
theorem HL {α:Type} {f:α→Bool} {xs:List α} {d:α} {k:Nat} (h1:k<xs.length) (he:f (xs.getD k d)=true):xs.any f=true:=by
 rw [List.any_eq_true]
 refine ⟨_,List.getElem_mem h1, ?_⟩
 simpa only [List.getD_eq_getElem?_getD,List.getElem?_eq_getElem h1,Option.getD_some] using he
theorem yq {g:Gr} {k:Nat} (h1:k<g.es.length) (he:oT g (g.es.getD k (0,0))=true):false=aN g:=by
 simp [aN,HL h1 he]
theorem c8 (g:Gr) (hl:g.es.length≤9223372036854775807):Spec Tryz.prog 80 (Args [eG g]) [] (eB (aN g)) []:=by
 (refine Spec.intro (C:=T.cfg [] []) (rs:= [.t 2]) (T.ai _ _) Tryz.func80 rfl rfl Tryz.ntmps80 Tryz.results80 (by simp [AObj.isNest]) (by simp [AObj.isNest]) (by kernel_rfl) ?_;intro X hX hP hC aG aH vals hA;refine ⟨_,by simp,hA, ?_⟩;have af:X.P.follows .mixedOrders=true:=(by rw [hP];exact T.mixed);clear aG aH)
 repeat' (first|((first|((with_reducible (first|apply oA|apply oB));exact rfl;intro K hK)|(refine hK _ ?_;clear hK K)|((with_reducible (first|apply oG|apply oH));iterate 3 exact rfl)|((with_reducible apply oI);(iterate 2 exact rfl);intro K hK)|(with_reducible (first|apply wI|apply wJ|apply wK)));try simp only [go_sem,simprocAttr])|(with_reducible (first|apply oC|apply oJ|exact oK|apply wA|apply wB|apply wC hX hC|apply wD hX hC|apply wE hX hC af|apply wF hX hC af|apply wG|apply wH|apply And.intro))|((with_reducible refine oD ?_ ?_);kernel_rfl)|((with_reducible (first|apply oE|apply oF));(iterate 3 exact rfl);all_goals (intro h;first|(exact absurd h (by decide))|((try simp only [go_sem,simprocAttr] at h);(try with_reducible intro K hK);simp only [go_sem,simprocAttr])))|((first|((with_reducible apply wL);exact rfl)|((with_reducible apply wM);exact rfl));all_goals (try ((with_reducible intro h);first|(exact absurd h (by decide))|(try simp only [go_sem,simprocAttr] at h))))|omega|(intro h))
 any_goals (simp [aN];omega)
 refine aj (fun k:Nat=>k≤g.es.length∧(g.es.take k).any (oT g)=false) (fun k=>⟨[(1, .ptr 1 0),(3,eN k)], [(1, .box [eN g.n, .d (sE g.es)])]⟩) (fun k=>g.es.length - k) 0 (by simp) ?_ ?_
 ·(refine Le.of ?_ ?_<;>simp [go_sem,simprocAttr])
 rintro k ⟨hk,hp⟩
 repeat' (first|((first|((with_reducible (first|apply oA|apply oB));exact rfl;intro K hK)|(refine hK _ ?_;clear hK K)|((with_reducible (first|apply oG|apply oH));iterate 3 exact rfl)|((with_reducible apply oI);(iterate 2 exact rfl);intro K hK)|(with_reducible (first|apply wI|apply wJ|apply wK)));try simp only [go_sem,simprocAttr])|(with_reducible (first|apply oC|apply oJ|exact oK|apply wA|apply wB|apply wC hX hC|apply wD hX hC|apply wE hX hC af|apply wF hX hC af|apply wG|apply wH|apply And.intro))|((with_reducible refine oD ?_ ?_);kernel_rfl)|((with_reducible (first|apply oE|apply oF));(iterate 3 exact rfl);all_goals (intro h;first|(exact absurd h (by decide))|((try simp only [go_sem,simprocAttr] at h);(try with_reducible intro K hK);simp only [go_sem,simprocAttr])))|((first|((with_reducible apply wL);exact rfl)|((with_reducible apply wM);exact rfl));all_goals (try ((with_reducible intro h);first|(exact absurd h (by decide))|(try simp only [go_sem,simprocAttr] at h))))|omega|(intro h))
 any_goals (refine yq (k:=k) (by omega) ?_;simp only [oT,uu,Bool.or_eq_true,decide_eq_true_eq];omega)
 ·refine ⟨k+1,⟨by omega,D2 (0,0) (by omega) hp ?_⟩, ?_,by omega⟩
  ·simp only [oT,uu,Bool.or_eq_false_iff,decide_eq_false_iff_not];omega
  ·(refine Le.of ?_ ?_<;>simp [go_sem,simprocAttr])
 ·rw [List.take_of_length_le (by omega)] at hp
  simp [aN,hp];omega
end Go.Ab
end
