/- A part of the proof. -/
import Derived.Test.YtchjjbfhlchpfaaGreatProg
import Derived.Test.YtchjjbfhlchpfaaGreatL9P9
set_option linter.unusedSimpArgs false
set_option linter.unusedVariables false
section
set_option maxHeartbeats 8000000
namespace Go.Ab.T
open Go.Proofs
def T:Nat→Option TI
 |2=>some ⟨(.int .i64),1,8, [(.d (.sc (.int .i64 0)))]⟩
 |3=>some ⟨(.int .i64),1,8, [(.d (.sc (.int .i64 0)))]⟩
 |4=>some ⟨.bool,1,1, [(.d (.sc (.bool false)))]⟩
 |5=>some ⟨(.int .u8),1,1, [(.d (.sc (.int .u8 0)))]⟩
 |9=>some ⟨.sc,1,16, [(.d (.sc (.string ⟨#[]⟩)))]⟩
 |12=>some ⟨(.int .u64),1,8, [(.d (.sc (.int .u64 0)))]⟩
 |21=>some ⟨(.int .i32),1,4, [(.d (.sc (.int .i32 0)))]⟩
 |22=>some ⟨(.sl 73),1,24, [(.nil 73)]⟩
 |24=>some ⟨(.st [(0,3),(1,22)]),2,32, [(.d (.sc (.int .i64 0))),(.nil 73)]⟩
 |25=>some ⟨(.sl 71),1,24, [(.nil 71)]⟩
 |26=>some ⟨(.sl 25),1,24, [(.nil 25)]⟩
 |28=>some ⟨(.st [(0,25),(1,26)]),2,48, [(.nil 71),(.nil 25)]⟩
 |31=>some ⟨(.sl 3),1,24, [(.nil 3)]⟩
 |32=>some ⟨(.sl 31),1,24, [(.nil 31)]⟩
 |34=>some ⟨(.st [(0,31),(1,32)]),2,48, [(.nil 3),(.nil 31)]⟩
 |35=>some ⟨(.int .i64),1,8, [(.d (.sc (.int .i64 0)))]⟩
 |46=>some ⟨(.sl 49),1,24, [(.nil 49)]⟩
 |48=>some ⟨(.int .u64),1,8, [(.d (.sc (.int .u64 0)))]⟩
 |49=>some ⟨(.int .u64),1,8, [(.d (.sc (.int .u64 0)))]⟩
 |50=>some ⟨.sc,1,8, [(.d (.sc .nilFunc))]⟩
 |53=>some ⟨(.st [(0,31),(1,31),(2,31),(3,31)]),4,96, [(.nil 3),(.nil 3),(.nil 3),(.nil 3)]⟩
 |63=>some ⟨(.sl 64),1,24, [(.nil 64)]⟩
 |64=>some ⟨(.sl 100),1,24, [(.nil 100)]⟩
 |66=>some ⟨(.st [(0,35),(1,3),(2,31)]),3,40, [(.d (.sc (.int .i64 0))),(.d (.sc (.int .i64 0))),(.nil 3)]⟩
 |69=>some ⟨(.mp 3 3),1,8, [(.d (.sc (.map none)))]⟩
 |71=>some ⟨(.st [(0,3),(1,3)]),2,16, [(.d (.sc (.int .i64 0))),(.d (.sc (.int .i64 0)))]⟩
 |73=>some ⟨(.st [(0,3),(1,3)]),2,16, [(.d (.sc (.int .i64 0))),(.d (.sc (.int .i64 0)))]⟩
 |82=>some ⟨(.pt 137),1,8, [(.d (.sc (.pointer none)))]⟩
 |92=>some ⟨(.sl 4),1,24, [(.nil 4)]⟩
 |100=>some ⟨(.st [(0,3),(1,3),(2,3)]),3,24, [(.d (.sc (.int .i64 0))),(.d (.sc (.int .i64 0))),(.d (.sc (.int .i64 0)))]⟩
 |103=>some ⟨(.pt 105),1,8, [(.d (.sc (.pointer none)))]⟩
 |105=>some ⟨(.st [(0,31),(1,31),(2,53)]),6,144, [(.nil 3),(.nil 3),(.nil 3),(.nil 3),(.nil 3),(.nil 3)]⟩
 |111=>some ⟨(.pt 115),1,8, [(.d (.sc (.pointer none)))]⟩
 |115=>some ⟨(.st [(0,24),(2,34),(4,69)]),5,88, [(.d (.sc (.int .i64 0))),(.nil 73),(.nil 3),(.nil 31),(.d (.sc (.map none)))]⟩
 |119=>some ⟨(.pt 129),1,8, [(.d (.sc (.pointer none)))]⟩
 |127=>some ⟨(.st [(0,64)]),1,24, [(.nil 100)]⟩
 |129=>some ⟨(.st [(0,127),(1,82),(2,31)]),3,56, [(.nil 100),(.d (.sc (.pointer none))),(.nil 3)]⟩
 |131=>some ⟨(.pt 133),1,8, [(.d (.sc (.pointer none)))]⟩
 |133=>some ⟨(.st [(0,24),(2,28)]),4,80, [(.d (.sc (.int .i64 0))),(.nil 73),(.nil 71),(.nil 25)]⟩
 |137=>some ⟨(.st [(0,24),(2,32),(3,32)]),4,80, [(.d (.sc (.int .i64 0))),(.nil 73),(.nil 31),(.nil 31)]⟩
 |142=>some ⟨(.int .u64),1,8, [(.d (.sc (.int .u64 0)))]⟩
 |150=>some ⟨(.pt 152),1,8, [(.d (.sc (.pointer none)))]⟩
 |152=>some ⟨(.st [(0,24),(2,64),(3,31)]),4,80, [(.d (.sc (.int .i64 0))),(.nil 73),(.nil 100),(.nil 3)]⟩
 |159=>some ⟨(.pt 161),1,8, [(.d (.sc (.pointer none)))]⟩
 |161=>some ⟨(.st [(0,24),(2,34)]),4,80, [(.d (.sc (.int .i64 0))),(.nil 73),(.nil 3),(.nil 31)]⟩
 |173=>some ⟨(.pt 127),1,8, [(.d (.sc (.pointer none)))]⟩
 |183=>some ⟨(.sl 185),1,24, [(.nil 185)]⟩
 |185=>some ⟨(.st [(0,71),(2,71)]),4,32, [(.d (.sc (.int .i64 0))),(.d (.sc (.int .i64 0))),(.d (.sc (.int .i64 0))),(.d (.sc (.int .i64 0)))]⟩
 |192=>some ⟨(.int .i64),1,8, [(.d (.sc (.int .i64 0)))]⟩
 |199=>some ⟨(.int .u32),1,4, [(.d (.sc (.int .u32 0)))]⟩
 |214=>some ⟨(.ar 2 3),2,16, [(.d (.sc (.int .i64 0))),(.d (.sc (.int .i64 0)))]⟩
 |215=>some ⟨(.mp 71 3),1,8, [(.d (.sc (.map none)))]⟩
 |216=>some ⟨(.ar 2 71),4,32, [(.d (.sc (.int .i64 0))),(.d (.sc (.int .i64 0))),(.d (.sc (.int .i64 0))),(.d (.sc (.int .i64 0)))]⟩
 |218=>some ⟨(.int .u64),1,8, [(.d (.sc (.int .u64 0)))]⟩
 |222=>some ⟨(.pt 3),1,8, [(.d (.sc (.pointer none)))]⟩
 |230=>some ⟨(.pt 218),1,8, [(.d (.sc (.pointer none)))]⟩
 |251=>some ⟨(.pt 5),1,8, [(.d (.sc (.pointer none)))]⟩
 |_=>none
theorem T2:T 2=some ⟨(.int .i64),1,8, [(.d (.sc (.int .i64 0)))]⟩:=rfl
theorem T3:T 3=some ⟨(.int .i64),1,8, [(.d (.sc (.int .i64 0)))]⟩:=rfl
theorem T4:T 4=some ⟨.bool,1,1, [(.d (.sc (.bool false)))]⟩:=rfl
theorem T5:T 5=some ⟨(.int .u8),1,1, [(.d (.sc (.int .u8 0)))]⟩:=rfl
theorem T9:T 9=some ⟨.sc,1,16, [(.d (.sc (.string ⟨#[]⟩)))]⟩:=rfl
theorem T12:T 12=some ⟨(.int .u64),1,8, [(.d (.sc (.int .u64 0)))]⟩:=rfl
theorem T21:T 21=some ⟨(.int .i32),1,4, [(.d (.sc (.int .i32 0)))]⟩:=rfl
theorem T22:T 22=some ⟨(.sl 73),1,24, [(.nil 73)]⟩:=rfl
theorem T24:T 24=some ⟨(.st [(0,3),(1,22)]),2,32, [(.d (.sc (.int .i64 0))),(.nil 73)]⟩:=rfl
theorem T25:T 25=some ⟨(.sl 71),1,24, [(.nil 71)]⟩:=rfl
theorem T26:T 26=some ⟨(.sl 25),1,24, [(.nil 25)]⟩:=rfl
theorem T28:T 28=some ⟨(.st [(0,25),(1,26)]),2,48, [(.nil 71),(.nil 25)]⟩:=rfl
theorem T31:T 31=some ⟨(.sl 3),1,24, [(.nil 3)]⟩:=rfl
theorem T32:T 32=some ⟨(.sl 31),1,24, [(.nil 31)]⟩:=rfl
theorem T34:T 34=some ⟨(.st [(0,31),(1,32)]),2,48, [(.nil 3),(.nil 31)]⟩:=rfl
theorem T35:T 35=some ⟨(.int .i64),1,8, [(.d (.sc (.int .i64 0)))]⟩:=rfl
theorem T46:T 46=some ⟨(.sl 49),1,24, [(.nil 49)]⟩:=rfl
theorem T48:T 48=some ⟨(.int .u64),1,8, [(.d (.sc (.int .u64 0)))]⟩:=rfl
theorem T49:T 49=some ⟨(.int .u64),1,8, [(.d (.sc (.int .u64 0)))]⟩:=rfl
theorem T50:T 50=some ⟨.sc,1,8, [(.d (.sc .nilFunc))]⟩:=rfl
theorem T53:T 53=some ⟨(.st [(0,31),(1,31),(2,31),(3,31)]),4,96, [(.nil 3),(.nil 3),(.nil 3),(.nil 3)]⟩:=rfl
theorem T63:T 63=some ⟨(.sl 64),1,24, [(.nil 64)]⟩:=rfl
theorem T64:T 64=some ⟨(.sl 100),1,24, [(.nil 100)]⟩:=rfl
theorem T66:T 66=some ⟨(.st [(0,35),(1,3),(2,31)]),3,40, [(.d (.sc (.int .i64 0))),(.d (.sc (.int .i64 0))),(.nil 3)]⟩:=rfl
theorem T69:T 69=some ⟨(.mp 3 3),1,8, [(.d (.sc (.map none)))]⟩:=rfl
theorem T71:T 71=some ⟨(.st [(0,3),(1,3)]),2,16, [(.d (.sc (.int .i64 0))),(.d (.sc (.int .i64 0)))]⟩:=rfl
theorem T73:T 73=some ⟨(.st [(0,3),(1,3)]),2,16, [(.d (.sc (.int .i64 0))),(.d (.sc (.int .i64 0)))]⟩:=rfl
theorem T82:T 82=some ⟨(.pt 137),1,8, [(.d (.sc (.pointer none)))]⟩:=rfl
theorem T92:T 92=some ⟨(.sl 4),1,24, [(.nil 4)]⟩:=rfl
theorem T100:T 100=some ⟨(.st [(0,3),(1,3),(2,3)]),3,24, [(.d (.sc (.int .i64 0))),(.d (.sc (.int .i64 0))),(.d (.sc (.int .i64 0)))]⟩:=rfl
theorem T103:T 103=some ⟨(.pt 105),1,8, [(.d (.sc (.pointer none)))]⟩:=rfl
theorem T105:T 105=some ⟨(.st [(0,31),(1,31),(2,53)]),6,144, [(.nil 3),(.nil 3),(.nil 3),(.nil 3),(.nil 3),(.nil 3)]⟩:=rfl
theorem T111:T 111=some ⟨(.pt 115),1,8, [(.d (.sc (.pointer none)))]⟩:=rfl
theorem T115:T 115=some ⟨(.st [(0,24),(2,34),(4,69)]),5,88, [(.d (.sc (.int .i64 0))),(.nil 73),(.nil 3),(.nil 31),(.d (.sc (.map none)))]⟩:=rfl
theorem T119:T 119=some ⟨(.pt 129),1,8, [(.d (.sc (.pointer none)))]⟩:=rfl
theorem T127:T 127=some ⟨(.st [(0,64)]),1,24, [(.nil 100)]⟩:=rfl
theorem T129:T 129=some ⟨(.st [(0,127),(1,82),(2,31)]),3,56, [(.nil 100),(.d (.sc (.pointer none))),(.nil 3)]⟩:=rfl
theorem T131:T 131=some ⟨(.pt 133),1,8, [(.d (.sc (.pointer none)))]⟩:=rfl
theorem T133:T 133=some ⟨(.st [(0,24),(2,28)]),4,80, [(.d (.sc (.int .i64 0))),(.nil 73),(.nil 71),(.nil 25)]⟩:=rfl
theorem T137:T 137=some ⟨(.st [(0,24),(2,32),(3,32)]),4,80, [(.d (.sc (.int .i64 0))),(.nil 73),(.nil 31),(.nil 31)]⟩:=rfl
theorem T142:T 142=some ⟨(.int .u64),1,8, [(.d (.sc (.int .u64 0)))]⟩:=rfl
theorem T150:T 150=some ⟨(.pt 152),1,8, [(.d (.sc (.pointer none)))]⟩:=rfl
theorem T152:T 152=some ⟨(.st [(0,24),(2,64),(3,31)]),4,80, [(.d (.sc (.int .i64 0))),(.nil 73),(.nil 100),(.nil 3)]⟩:=rfl
theorem T159:T 159=some ⟨(.pt 161),1,8, [(.d (.sc (.pointer none)))]⟩:=rfl
theorem T161:T 161=some ⟨(.st [(0,24),(2,34)]),4,80, [(.d (.sc (.int .i64 0))),(.nil 73),(.nil 3),(.nil 31)]⟩:=rfl
theorem T173:T 173=some ⟨(.pt 127),1,8, [(.d (.sc (.pointer none)))]⟩:=rfl
theorem T183:T 183=some ⟨(.sl 185),1,24, [(.nil 185)]⟩:=rfl
theorem T185:T 185=some ⟨(.st [(0,71),(2,71)]),4,32, [(.d (.sc (.int .i64 0))),(.d (.sc (.int .i64 0))),(.d (.sc (.int .i64 0))),(.d (.sc (.int .i64 0)))]⟩:=rfl
theorem T192:T 192=some ⟨(.int .i64),1,8, [(.d (.sc (.int .i64 0)))]⟩:=rfl
theorem T199:T 199=some ⟨(.int .u32),1,4, [(.d (.sc (.int .u32 0)))]⟩:=rfl
theorem T214:T 214=some ⟨(.ar 2 3),2,16, [(.d (.sc (.int .i64 0))),(.d (.sc (.int .i64 0)))]⟩:=rfl
theorem T215:T 215=some ⟨(.mp 71 3),1,8, [(.d (.sc (.map none)))]⟩:=rfl
theorem T216:T 216=some ⟨(.ar 2 71),4,32, [(.d (.sc (.int .i64 0))),(.d (.sc (.int .i64 0))),(.d (.sc (.int .i64 0))),(.d (.sc (.int .i64 0)))]⟩:=rfl
theorem T218:T 218=some ⟨(.int .u64),1,8, [(.d (.sc (.int .u64 0)))]⟩:=rfl
theorem T222:T 222=some ⟨(.pt 3),1,8, [(.d (.sc (.pointer none)))]⟩:=rfl
theorem T230:T 230=some ⟨(.pt 218),1,8, [(.d (.sc (.pointer none)))]⟩:=rfl
theorem T251:T 251=some ⟨(.pt 5),1,8, [(.d (.sc (.pointer none)))]⟩:=rfl
def xq:Nat→Option Nat
 |71=>some 2
 |73=>some 2
 |100=>some 3
 |_=>none
theorem eqn71:xq 71=some 2:=rfl
theorem eqn73:xq 73=some 2:=rfl
theorem eqn100:xq 100=some 3:=rfl
theorem Ni:aC Tryz.prog 2 ⟨(.int .i64),1,8, [(.d (.sc (.int .i64 0)))]⟩:=aC.mk' (by kernel_rfl) (by kernel_rfl) rfl Tryz.underlying2
theorem Nj:aC Tryz.prog 3 ⟨(.int .i64),1,8, [(.d (.sc (.int .i64 0)))]⟩:=aC.mk' (by kernel_rfl) (by kernel_rfl) rfl Tryz.underlying3
theorem Nk:aC Tryz.prog 4 ⟨.bool,1,1, [(.d (.sc (.bool false)))]⟩:=aC.mk' (by kernel_rfl) (by kernel_rfl) rfl Tryz.underlying4
theorem Nl:aC Tryz.prog 5 ⟨(.int .u8),1,1, [(.d (.sc (.int .u8 0)))]⟩:=aC.mk' (by kernel_rfl) (by kernel_rfl) rfl Tryz.underlying5
theorem Nn:aC Tryz.prog 9 ⟨.sc,1,16, [(.d (.sc (.string ⟨#[]⟩)))]⟩:=aC.mk' (by kernel_rfl) (by kernel_rfl) rfl ⟨_,Tryz.underlying9,trivial⟩
theorem Ku:aC Tryz.prog 12 ⟨(.int .u64),1,8, [(.d (.sc (.int .u64 0)))]⟩:=aC.mk' (by kernel_rfl) (by kernel_rfl) rfl Tryz.underlying12
theorem Kv:aC Tryz.prog 21 ⟨(.int .i32),1,4, [(.d (.sc (.int .i32 0)))]⟩:=aC.mk' (by kernel_rfl) (by kernel_rfl) rfl Tryz.underlying21
theorem Kw:aC Tryz.prog 22 ⟨(.sl 73),1,24, [(.nil 73)]⟩:=aC.mk' (by kernel_rfl) (by kernel_rfl) rfl Tryz.underlying22
theorem Kx:aC Tryz.prog 24 ⟨(.st [(0,3),(1,22)]),2,32, [(.d (.sc (.int .i64 0))),(.nil 73)]⟩:=aC.mk' (by kernel_rfl) (by kernel_rfl) rfl ⟨_,Tryz.underlying24,rfl⟩
theorem Ky:aC Tryz.prog 25 ⟨(.sl 71),1,24, [(.nil 71)]⟩:=aC.mk' (by kernel_rfl) (by kernel_rfl) rfl Tryz.underlying25
theorem Kz:aC Tryz.prog 26 ⟨(.sl 25),1,24, [(.nil 25)]⟩:=aC.mk' (by kernel_rfl) (by kernel_rfl) rfl Tryz.underlying26
theorem KA:aC Tryz.prog 28 ⟨(.st [(0,25),(1,26)]),2,48, [(.nil 71),(.nil 25)]⟩:=aC.mk' (by kernel_rfl) (by kernel_rfl) rfl ⟨_,Tryz.underlying28,rfl⟩
theorem KB:aC Tryz.prog 31 ⟨(.sl 3),1,24, [(.nil 3)]⟩:=aC.mk' (by kernel_rfl) (by kernel_rfl) rfl Tryz.underlying31
theorem KC:aC Tryz.prog 32 ⟨(.sl 31),1,24, [(.nil 31)]⟩:=aC.mk' (by kernel_rfl) (by kernel_rfl) rfl Tryz.underlying32
theorem KE:aC Tryz.prog 34 ⟨(.st [(0,31),(1,32)]),2,48, [(.nil 3),(.nil 31)]⟩:=aC.mk' (by kernel_rfl) (by kernel_rfl) rfl ⟨_,Tryz.underlying34,rfl⟩
theorem KF:aC Tryz.prog 35 ⟨(.int .i64),1,8, [(.d (.sc (.int .i64 0)))]⟩:=aC.mk' (by kernel_rfl) (by kernel_rfl) rfl Tryz.underlying35
theorem KG:aC Tryz.prog 46 ⟨(.sl 49),1,24, [(.nil 49)]⟩:=aC.mk' (by kernel_rfl) (by kernel_rfl) rfl Tryz.underlying46
theorem KH:aC Tryz.prog 48 ⟨(.int .u64),1,8, [(.d (.sc (.int .u64 0)))]⟩:=aC.mk' (by kernel_rfl) (by kernel_rfl) rfl Tryz.underlying48
theorem KI:aC Tryz.prog 49 ⟨(.int .u64),1,8, [(.d (.sc (.int .u64 0)))]⟩:=aC.mk' (by kernel_rfl) (by kernel_rfl) rfl Tryz.underlying49
theorem KJ:aC Tryz.prog 50 ⟨.sc,1,8, [(.d (.sc .nilFunc))]⟩:=aC.mk' (by kernel_rfl) (by kernel_rfl) rfl ⟨_,Tryz.underlying50,trivial⟩
theorem KK:aC Tryz.prog 53 ⟨(.st [(0,31),(1,31),(2,31),(3,31)]),4,96, [(.nil 3),(.nil 3),(.nil 3),(.nil 3)]⟩:=aC.mk' (by kernel_rfl) (by kernel_rfl) rfl ⟨_,Tryz.underlying53,rfl⟩
theorem KL:aC Tryz.prog 63 ⟨(.sl 64),1,24, [(.nil 64)]⟩:=aC.mk' (by kernel_rfl) (by kernel_rfl) rfl Tryz.underlying63
theorem KM:aC Tryz.prog 64 ⟨(.sl 100),1,24, [(.nil 100)]⟩:=aC.mk' (by kernel_rfl) (by kernel_rfl) rfl Tryz.underlying64
theorem KN:aC Tryz.prog 66 ⟨(.st [(0,35),(1,3),(2,31)]),3,40, [(.d (.sc (.int .i64 0))),(.d (.sc (.int .i64 0))),(.nil 3)]⟩:=aC.mk' (by kernel_rfl) (by kernel_rfl) rfl ⟨_,Tryz.underlying66,rfl⟩
theorem KO:aC Tryz.prog 69 ⟨(.mp 3 3),1,8, [(.d (.sc (.map none)))]⟩:=aC.mk' (by kernel_rfl) (by kernel_rfl) rfl ⟨Tryz.underlying69,fun w=>by kernel_rfl⟩
theorem KP:aC Tryz.prog 71 ⟨(.st [(0,3),(1,3)]),2,16, [(.d (.sc (.int .i64 0))),(.d (.sc (.int .i64 0)))]⟩:=aC.mk' (by kernel_rfl) (by kernel_rfl) rfl ⟨_,Tryz.underlying71,rfl⟩
theorem KQ:aC Tryz.prog 73 ⟨(.st [(0,3),(1,3)]),2,16, [(.d (.sc (.int .i64 0))),(.d (.sc (.int .i64 0)))]⟩:=aC.mk' (by kernel_rfl) (by kernel_rfl) rfl ⟨_,Tryz.underlying73,rfl⟩
theorem KR:aC Tryz.prog 82 ⟨(.pt 137),1,8, [(.d (.sc (.pointer none)))]⟩:=aC.mk' (by kernel_rfl) (by kernel_rfl) rfl Tryz.underlying82
theorem KS:aC Tryz.prog 92 ⟨(.sl 4),1,24, [(.nil 4)]⟩:=aC.mk' (by kernel_rfl) (by kernel_rfl) rfl Tryz.underlying92
theorem HP:aC Tryz.prog 100 ⟨(.st [(0,3),(1,3),(2,3)]),3,24, [(.d (.sc (.int .i64 0))),(.d (.sc (.int .i64 0))),(.d (.sc (.int .i64 0)))]⟩:=aC.mk' (by kernel_rfl) (by kernel_rfl) rfl ⟨_,Tryz.underlying100,rfl⟩
theorem HQ:aC Tryz.prog 103 ⟨(.pt 105),1,8, [(.d (.sc (.pointer none)))]⟩:=aC.mk' (by kernel_rfl) (by kernel_rfl) rfl Tryz.underlying103
theorem HR:aC Tryz.prog 105 ⟨(.st [(0,31),(1,31),(2,53)]),6,144, [(.nil 3),(.nil 3),(.nil 3),(.nil 3),(.nil 3),(.nil 3)]⟩:=aC.mk' (by kernel_rfl) (by kernel_rfl) rfl ⟨_,Tryz.underlying105,rfl⟩
theorem HS:aC Tryz.prog 111 ⟨(.pt 115),1,8, [(.d (.sc (.pointer none)))]⟩:=aC.mk' (by kernel_rfl) (by kernel_rfl) rfl Tryz.underlying111
theorem HT:aC Tryz.prog 115 ⟨(.st [(0,24),(2,34),(4,69)]),5,88, [(.d (.sc (.int .i64 0))),(.nil 73),(.nil 3),(.nil 31),(.d (.sc (.map none)))]⟩:=aC.mk' (by kernel_rfl) (by kernel_rfl) rfl ⟨_,Tryz.underlying115,rfl⟩
theorem HU:aC Tryz.prog 119 ⟨(.pt 129),1,8, [(.d (.sc (.pointer none)))]⟩:=aC.mk' (by kernel_rfl) (by kernel_rfl) rfl Tryz.underlying119
theorem HV:aC Tryz.prog 127 ⟨(.st [(0,64)]),1,24, [(.nil 100)]⟩:=aC.mk' (by kernel_rfl) (by kernel_rfl) rfl ⟨_,Tryz.underlying127,rfl⟩
theorem HW:aC Tryz.prog 129 ⟨(.st [(0,127),(1,82),(2,31)]),3,56, [(.nil 100),(.d (.sc (.pointer none))),(.nil 3)]⟩:=aC.mk' (by kernel_rfl) (by kernel_rfl) rfl ⟨_,Tryz.underlying129,rfl⟩
theorem HX:aC Tryz.prog 131 ⟨(.pt 133),1,8, [(.d (.sc (.pointer none)))]⟩:=aC.mk' (by kernel_rfl) (by kernel_rfl) rfl Tryz.underlying131
theorem HY:aC Tryz.prog 133 ⟨(.st [(0,24),(2,28)]),4,80, [(.d (.sc (.int .i64 0))),(.nil 73),(.nil 71),(.nil 25)]⟩:=aC.mk' (by kernel_rfl) (by kernel_rfl) rfl ⟨_,Tryz.underlying133,rfl⟩
theorem HZ:aC Tryz.prog 137 ⟨(.st [(0,24),(2,32),(3,32)]),4,80, [(.d (.sc (.int .i64 0))),(.nil 73),(.nil 31),(.nil 31)]⟩:=aC.mk' (by kernel_rfl) (by kernel_rfl) rfl ⟨_,Tryz.underlying137,rfl⟩
theorem H6:aC Tryz.prog 142 ⟨(.int .u64),1,8, [(.d (.sc (.int .u64 0)))]⟩:=aC.mk' (by kernel_rfl) (by kernel_rfl) rfl Tryz.underlying142
theorem H7:aC Tryz.prog 150 ⟨(.pt 152),1,8, [(.d (.sc (.pointer none)))]⟩:=aC.mk' (by kernel_rfl) (by kernel_rfl) rfl Tryz.underlying150
theorem H8:aC Tryz.prog 152 ⟨(.st [(0,24),(2,64),(3,31)]),4,80, [(.d (.sc (.int .i64 0))),(.nil 73),(.nil 100),(.nil 3)]⟩:=aC.mk' (by kernel_rfl) (by kernel_rfl) rfl ⟨_,Tryz.underlying152,rfl⟩
theorem H9:aC Tryz.prog 159 ⟨(.pt 161),1,8, [(.d (.sc (.pointer none)))]⟩:=aC.mk' (by kernel_rfl) (by kernel_rfl) rfl Tryz.underlying159
theorem Ia:aC Tryz.prog 161 ⟨(.st [(0,24),(2,34)]),4,80, [(.d (.sc (.int .i64 0))),(.nil 73),(.nil 3),(.nil 31)]⟩:=aC.mk' (by kernel_rfl) (by kernel_rfl) rfl ⟨_,Tryz.underlying161,rfl⟩
theorem Ib:aC Tryz.prog 173 ⟨(.pt 127),1,8, [(.d (.sc (.pointer none)))]⟩:=aC.mk' (by kernel_rfl) (by kernel_rfl) rfl Tryz.underlying173
theorem Ic:aC Tryz.prog 183 ⟨(.sl 185),1,24, [(.nil 185)]⟩:=aC.mk' (by kernel_rfl) (by kernel_rfl) rfl Tryz.underlying183
theorem Ie:aC Tryz.prog 185 ⟨(.st [(0,71),(2,71)]),4,32, [(.d (.sc (.int .i64 0))),(.d (.sc (.int .i64 0))),(.d (.sc (.int .i64 0))),(.d (.sc (.int .i64 0)))]⟩:=aC.mk' (by kernel_rfl) (by kernel_rfl) rfl ⟨_,Tryz.underlying185,rfl⟩
theorem Ig:aC Tryz.prog 192 ⟨(.int .i64),1,8, [(.d (.sc (.int .i64 0)))]⟩:=aC.mk' (by kernel_rfl) (by kernel_rfl) rfl Tryz.underlying192
theorem Ih:aC Tryz.prog 199 ⟨(.int .u32),1,4, [(.d (.sc (.int .u32 0)))]⟩:=aC.mk' (by kernel_rfl) (by kernel_rfl) rfl Tryz.underlying199
theorem Ii:aC Tryz.prog 214 ⟨(.ar 2 3),2,16, [(.d (.sc (.int .i64 0))),(.d (.sc (.int .i64 0)))]⟩:=aC.mk' (by kernel_rfl) (by kernel_rfl) rfl Tryz.underlying214
theorem Ij:aC Tryz.prog 215 ⟨(.mp 71 3),1,8, [(.d (.sc (.map none)))]⟩:=aC.mk' (by kernel_rfl) (by kernel_rfl) rfl ⟨Tryz.underlying215,fun w=>by kernel_rfl⟩
theorem Ik:aC Tryz.prog 216 ⟨(.ar 2 71),4,32, [(.d (.sc (.int .i64 0))),(.d (.sc (.int .i64 0))),(.d (.sc (.int .i64 0))),(.d (.sc (.int .i64 0)))]⟩:=aC.mk' (by kernel_rfl) (by kernel_rfl) rfl Tryz.underlying216
theorem Il:aC Tryz.prog 218 ⟨(.int .u64),1,8, [(.d (.sc (.int .u64 0)))]⟩:=aC.mk' (by kernel_rfl) (by kernel_rfl) rfl Tryz.underlying218
theorem Im:aC Tryz.prog 222 ⟨(.pt 3),1,8, [(.d (.sc (.pointer none)))]⟩:=aC.mk' (by kernel_rfl) (by kernel_rfl) rfl Tryz.underlying222
theorem Io:aC Tryz.prog 230 ⟨(.pt 218),1,8, [(.d (.sc (.pointer none)))]⟩:=aC.mk' (by kernel_rfl) (by kernel_rfl) rfl Tryz.underlying230
theorem Ip:aC Tryz.prog 251 ⟨(.pt 5),1,8, [(.d (.sc (.pointer none)))]⟩:=aC.mk' (by kernel_rfl) (by kernel_rfl) rfl Tryz.underlying251
theorem KT:mN Tryz.prog 71 2:=mN.two (by kernel_rfl) (by kernel_rfl) Tryz.underlying71 (by decide) rfl Tryz.underlying3 (by decide) rfl Tryz.underlying3
theorem KU:mN Tryz.prog 73 2:=mN.two (by kernel_rfl) (by kernel_rfl) Tryz.underlying73 (by decide) rfl Tryz.underlying3 (by decide) rfl Tryz.underlying3
theorem Iq:mN Tryz.prog 100 3:=mN.three (by kernel_rfl) (by kernel_rfl) Tryz.underlying100 (by decide) rfl Tryz.underlying3 (by decide) rfl Tryz.underlying3 (by decide) rfl Tryz.underlying3
set_option maxHeartbeats 4000000 in
theorem No:∀t ti,T t=some ti→aC Tryz.prog t ti:=by
 intro t ti h
 unfold T at h
 split at h
 ·cases h;exact Ni
 ·cases h;exact Nj
 ·cases h;exact Nk
 ·cases h;exact Nl
 ·cases h;exact Nn
 ·cases h;exact Ku
 ·cases h;exact Kv
 ·cases h;exact Kw
 ·cases h;exact Kx
 ·cases h;exact Ky
 ·cases h;exact Kz
 ·cases h;exact KA
 ·cases h;exact KB
 ·cases h;exact KC
 ·cases h;exact KE
 ·cases h;exact KF
 ·cases h;exact KG
 ·cases h;exact KH
 ·cases h;exact KI
 ·cases h;exact KJ
 ·cases h;exact KK
 ·cases h;exact KL
 ·cases h;exact KM
 ·cases h;exact KN
 ·cases h;exact KO
 ·cases h;exact KP
 ·cases h;exact KQ
 ·cases h;exact KR
 ·cases h;exact KS
 ·cases h;exact HP
 ·cases h;exact HQ
 ·cases h;exact HR
 ·cases h;exact HS
 ·cases h;exact HT
 ·cases h;exact HU
 ·cases h;exact HV
 ·cases h;exact HW
 ·cases h;exact HX
 ·cases h;exact HY
 ·cases h;exact HZ
 ·cases h;exact H6
 ·cases h;exact H7
 ·cases h;exact H8
 ·cases h;exact H9
 ·cases h;exact Ia
 ·cases h;exact Ib
 ·cases h;exact Ic
 ·cases h;exact Ie
 ·cases h;exact Ig
 ·cases h;exact Ih
 ·cases h;exact Ii
 ·cases h;exact Ij
 ·cases h;exact Ik
 ·cases h;exact Il
 ·cases h;exact Im
 ·cases h;exact Io
 ·cases h;exact Ip
 ·cases h
theorem Np:∀t n,xq t=some n→mN Tryz.prog t n:=by
 intro t n h
 unfold xq at h
 split at h
 ·cases h;exact KT
 ·cases h;exact KU
 ·cases h;exact Iq
 ·cases h
def cfg (own xb:List Nat):Cfg:=⟨T,own,xq,xb⟩
theorem cfg_T (own xb:List Nat):(cfg own xb).T=T:=rfl
theorem cfg_own (own xb:List Nat):(cfg own xb).own=own:=rfl
theorem cfg_nst (own xb:List Nat):(cfg own xb).xb=xb:=rfl
theorem cfg_eqn (own xb:List Nat):(cfg own xb).xq=xq:=rfl
theorem ai (own xb:List Nat):(cfg own xb).Ok Tryz.prog:=⟨No,Np⟩
theorem mixed:Tryz.prog.follows .mixedOrders=true:=by kernel_rfl
attribute [go_sem] T2 T3 T4 T5 T9 T12 T21 T22 T24 T25 T26 T28 T31 T32 T34 T35 T46 T48 T49 T50 T53 T63 T64 T66 T69 T71 T73 T82 T92 T100 T103 T105 T111 T115 T119 T127 T129 T131 T133 T137 T142 T150 T152 T159 T161 T173 T183 T185 T192 T199 T214 T215 T216 T218 T222 T230 T251 eqn71 eqn73 eqn100 cfg_T cfg_own cfg_nst cfg_eqn
end Go.Ab.T
end
section
namespace Go.Ab
open Go.Proofs
attribute [local congr] ACall.congr gd.congr Nx.congr
set_option maxRecDepth 10000
def eN (n:Int):AV:= .d (.sc (.int .i64 n))
def eB (b:Bool):AV:= .d (.sc (.bool b))
abbrev Edge:=Int × Int
structure Gr where
 n:Int
 es:List Edge
def rE (e:Edge):List D:= [.sc (.int .i64 e.1), .sc (.int .i64 e.2)]
def rI (n:Int):List D:= [.sc (.int .i64 n)]
def eE (e:Edge):AV:= .agg [.d (.sc (.int .i64 e.1)), .d (.sc (.int .i64 e.2))]
def sE (es:List Edge):D:= .sl 2 (es.map rE)
def sI (l:List Int):D:= .sl 1 (l.map rI)
def eG (g:Gr):AV:= .agg [eN g.n, .d (sE g.es)]
attribute [go_sem] eN eB eE sE sI eG Args AVrs
theorem getD_rE (ps:List Edge) (i:Nat):(ps.map rE).getD i [.sc (.int .i64 0), .sc (.int .i64 0)]= [.sc (.int .i64 (ps.getD i (0,0)).1), .sc (.int .i64 (ps.getD i (0,0)).2)]:=by
 simp only [List.getD_eq_getElem?_getD,List.getElem?_map]
 cases ps[i]? <;>rfl
theorem getD_rI (ps:List Int) (i:Nat):(ps.map rI).getD i [.sc (.int .i64 0)]= [.sc (.int .i64 (ps.getD i 0))]:=by
 simp only [List.getD_eq_getElem?_getD,List.getElem?_map]
 cases ps[i]? <;>rfl
theorem n0 (l:List Int) (k:Nat) (v:Int):(l.map rI).set k [.sc (.int .i64 v)]=(l.set k v).map rI:=by
 rw [List.map_set];rfl
attribute [go_sem] getD_rE getD_rI Int.toNat_natCast List.length_set
def O5 (n:Int):Prop:= -9223372036854775808≤n∧n≤9223372036854775807
def Len (n:Nat):Prop:=n≤9223372036854775807
end Go.Ab
end
section
namespace Go.Ab
open Go.Proofs
attribute [local congr] ACall.congr gd.congr Nx.congr
set_option maxRecDepth 10000
def bG {α:Type} (g:α→Bool) (ps:List α):Int:=match ps.findIdx? g with|some i=>i|none=> -1
theorem bq {α:Type} {g:α→Bool} {ps:List α} (d:α) (h:∀j,j<ps.length→g (ps.getD j d)=false):bG g ps= -1:=by
 have:ps.findIdx? g=none:=by
  rw [List.findIdx?_eq_none_iff]
  intro x hx
  obtain ⟨j,hj,rfl⟩:=List.getElem_of_mem hx
  simpa [List.getD_eq_getElem?_getD,List.getElem?_eq_getElem hj] using h j hj
 simp [bG,this]
theorem bQ {α:Type} {g:α→Bool} {ps:List α} {d:α} {k:Nat} (hk:k<ps.length) (h:∀j,j<k→g (ps.getD j d)=false) (hg:g (ps.getD k d)=true):bG g ps=k:=by
 have:ps.findIdx? g=some k:=by
  rw [List.findIdx?_eq_some_iff_getElem]
  refine ⟨hk,by simpa [List.getD_eq_getElem?_getD,List.getElem?_eq_getElem hk] using hg,fun j hj=> ?_⟩
  have:=h j hj
  simpa [List.getD_eq_getElem?_getD,List.getElem?_eq_getElem (Nat.lt_trans hj hk)] using this
 simp [bG,this]
theorem c7 {α:Type} (g:α→Bool) (ps:List α):decide (0≤bG g ps)=ps.any g:=by
 cases h:ps.findIdx? g with
 |none=>
  have:bG g ps= -1:=by simp [bG,h]
  rw [this]
  rw [List.findIdx?_eq_none_iff] at h
  symm
  simpa using h
 |some i=>
  have:bG g ps=i:=by simp [bG,h]
  rw [this]
  obtain ⟨hi,hg,_⟩:=List.findIdx?_eq_some_iff_getElem.1 h
  have:ps.any g=true:=List.any_eq_true.2 ⟨_,List.getElem_mem hi,hg⟩
  rw [this];simp
theorem vJ {α:Type} (g:α→Bool) (ps:List α):bG g ps= -1∨(0≤bG g ps∧bG g ps<ps.length):=by
 cases h:ps.findIdx? g with
 |none=>exact .inl (by simp [bG,h])
 |some i=>
  obtain ⟨hi,hg,_⟩:=List.findIdx?_eq_some_iff_getElem.1 h
  exact .inr (by simp [bG,h];omega)
theorem vK (rn:List (Nat × Nat)) (h0:rn= []) {m:List (Nat × AObj)} :∀ {r:List (Nat × AObj)},(∀p∈r,look m p.1=some p.2)→leR m rn r
 | [],_=>trivial
 |p::r,h=>by
  subst h0
  have h1:=h p List.mem_cons_self
  refine ⟨?_,vK [] rfl fun q hq=>h q (List.mem_cons_of_mem _ hq)⟩
  have e:renO [] p.2=p.2:=rfl
  show look m p.1=some (renO [] p.2)
  rw [e];exact h1
theorem bZ {m:List (Nat × AObj)} (h:aF m):leR m [] m:=vK [] rfl fun _ hp=>az h.nd hp
theorem bE {m:List (Nat × AObj)} (hR:aF m) (f:Nat) (caps:List AV) (g:Edge→Bool) (hf:∀p,Spec Tryz.prog f (Args (eE p::caps)) m (eB (g p)) m) (ps:List Edge) (hl:ps.length≤9223372036854775807):
 Spec Tryz.prog 130 (Args [.d (sE ps), .fn f [] caps]) m (eN (bG g ps)) m:=by
 (refine Spec.hd (C:=T.cfg [] []) (rs:= [.t 4]) (T.ai _ _) Tryz.func130 rfl rfl Tryz.ntmps130 Tryz.results130 (fun p hp=>⟨(aF.low hR p hp).1,aF.nest hR p hp⟩) (fun p hp=>⟨(aF.low hR p hp).2,aF.nest hR p hp⟩) (by kernel_rfl) T.mixed fun X hX hP hC aG b9=> ?_)
 repeat' (first|refine Rn.p ?_|(with_reducible apply And.intro)|((first|(refine hK _ ?_;clear hK K)|with_reducible intro K hK|refine Rs.p ?_|((with_reducible first|apply oP|apply oQ);exact rfl)|(first|(refine aA hX hC hP hR (hf _) rfl rfl rfl ?_ ?_ rfl rfl ?_;(focus (simp only [go_sem,simprocAttr];done));(focus (first|(intro p hp;exact az (aF.nd hR) hp)|(simp [go_sem,simprocAttr];done))))|(refine aA hX hC hP hR (hf _) rfl rfl rfl ?_ ?_ ?_ rfl ?_;(focus (simp only [go_sem,simprocAttr];done));(focus (first|(intro p hp;exact az (aF.nd hR) hp)|(simp [go_sem,simprocAttr];done)));(focus (simp [go_sem,simprocAttr];done)))));try simp only [go_sem,simprocAttr])|((with_reducible refine oD ?_ ?_);kernel_rfl)|((with_reducible intro h);try simp only [go_sem,simprocAttr] at h)|omega|intro h)
 refine ag (fun k:Nat=>k≤ps.length∧∀j,j<k→g (ps.getD j (0,0))=false) (fun k=>⟨[(0, .d (sE ps)),(1, .fn f [] caps),(7,eN ps.length),(8,eN k)],m⟩) (fun k=>ps.length - k) 0 (by simp) ?_ ?_
 ·(refine ⟨bI ?_,fun _ _ h=>h⟩;simp [go_sem,simprocAttr])
 rintro k ⟨hk,hg⟩
 repeat' (first|refine Rn.p ?_|(with_reducible apply And.intro)|((first|(refine hK _ ?_;clear hK K)|with_reducible intro K hK|refine Rs.p ?_|((with_reducible first|apply oP|apply oQ);exact rfl)|(first|(refine aA hX hC hP hR (hf _) rfl rfl rfl ?_ ?_ rfl rfl ?_;(focus (simp only [go_sem,simprocAttr];done));(focus (first|(intro p hp;exact az (aF.nd hR) hp)|(simp [go_sem,simprocAttr];done))))|(refine aA hX hC hP hR (hf _) rfl rfl rfl ?_ ?_ ?_ rfl ?_;(focus (simp only [go_sem,simprocAttr];done));(focus (first|(intro p hp;exact az (aF.nd hR) hp)|(simp [go_sem,simprocAttr];done)));(focus (simp [go_sem,simprocAttr];done)))));try simp only [go_sem,simprocAttr])|((with_reducible refine oD ?_ ?_);kernel_rfl)|((with_reducible intro h);try simp only [go_sem,simprocAttr] at h)|omega|intro h)
 ·exact (bQ (by omega) hg h).symm
 ·exact bZ hR
 ·refine ⟨k+1,⟨by omega,fun j hj=> ?_⟩, ?_,by omega⟩
  ·by_cases hjk:j=k
   ·subst hjk;exact h
   ·exact hg j (by omega)
  ·(refine ⟨bI ?_,fun _ _ h=>h⟩;simp [go_sem,simprocAttr])
 ·exact (bq (0,0) fun j hj=>hg j (by omega)).symm
 ·exact bZ hR
theorem cE {m:List (Nat × AObj)} (hR:aF m) (f:Nat) (caps:List AV) (g:Int→Bool) (hf:∀p,Spec Tryz.prog f (Args (eN p::caps)) m (eB (g p)) m) (ps:List Int) (hl:ps.length≤9223372036854775807):
 Spec Tryz.prog 177 (Args [.d (sI ps), .fn f [] caps]) m (eN (bG g ps)) m:=by
 (refine Spec.hd (C:=T.cfg [] []) (rs:= [.t 4]) (T.ai _ _) Tryz.func177 rfl rfl Tryz.ntmps177 Tryz.results177 (fun p hp=>⟨(aF.low hR p hp).1,aF.nest hR p hp⟩) (fun p hp=>⟨(aF.low hR p hp).2,aF.nest hR p hp⟩) (by kernel_rfl) T.mixed fun X hX hP hC aG b9=> ?_)
 repeat' (first|refine Rn.p ?_|(with_reducible apply And.intro)|((first|(refine hK _ ?_;clear hK K)|with_reducible intro K hK|refine Rs.p ?_|((with_reducible first|apply oP|apply oQ);exact rfl)|(first|(refine aA hX hC hP hR (hf _) rfl rfl rfl ?_ ?_ rfl rfl ?_;(focus (simp only [go_sem,simprocAttr];done));(focus (first|(intro p hp;exact az (aF.nd hR) hp)|(simp [go_sem,simprocAttr];done))))|(refine aA hX hC hP hR (hf _) rfl rfl rfl ?_ ?_ ?_ rfl ?_;(focus (simp only [go_sem,simprocAttr];done));(focus (first|(intro p hp;exact az (aF.nd hR) hp)|(simp [go_sem,simprocAttr];done)));(focus (simp [go_sem,simprocAttr];done)))));try simp only [go_sem,simprocAttr])|((with_reducible refine oD ?_ ?_);kernel_rfl)|((with_reducible intro h);try simp only [go_sem,simprocAttr] at h)|omega|intro h)
 refine ag (fun k:Nat=>k≤ps.length∧∀j,j<k→g (ps.getD j 0)=false) (fun k=>⟨[(0, .d (sI ps)),(1, .fn f [] caps),(7,eN ps.length),(8,eN k)],m⟩) (fun k=>ps.length - k) 0 (by simp) ?_ ?_
 ·(refine ⟨bI ?_,fun _ _ h=>h⟩;simp [go_sem,simprocAttr])
 rintro k ⟨hk,hg⟩
 repeat' (first|refine Rn.p ?_|(with_reducible apply And.intro)|((first|(refine hK _ ?_;clear hK K)|with_reducible intro K hK|refine Rs.p ?_|((with_reducible first|apply oP|apply oQ);exact rfl)|(first|(refine aA hX hC hP hR (hf _) rfl rfl rfl ?_ ?_ rfl rfl ?_;(focus (simp only [go_sem,simprocAttr];done));(focus (first|(intro p hp;exact az (aF.nd hR) hp)|(simp [go_sem,simprocAttr];done))))|(refine aA hX hC hP hR (hf _) rfl rfl rfl ?_ ?_ ?_ rfl ?_;(focus (simp only [go_sem,simprocAttr];done));(focus (first|(intro p hp;exact az (aF.nd hR) hp)|(simp [go_sem,simprocAttr];done)));(focus (simp [go_sem,simprocAttr];done)))));try simp only [go_sem,simprocAttr])|((with_reducible refine oD ?_ ?_);kernel_rfl)|((with_reducible intro h);try simp only [go_sem,simprocAttr] at h)|omega|intro h)
 ·exact (bQ (by omega) hg h).symm
 ·exact bZ hR
 ·refine ⟨k+1,⟨by omega,fun j hj=> ?_⟩, ?_,by omega⟩
  ·by_cases hjk:j=k
   ·subst hjk;exact h
   ·exact hg j (by omega)
  ·(refine ⟨bI ?_,fun _ _ h=>h⟩;simp [go_sem,simprocAttr])
 ·exact (bq 0 fun j hj=>hg j (by omega)).symm
 ·exact bZ hR
theorem mA {m:List (Nat × AObj)} (hR:aF m) (f:Nat) (caps:List AV) (g:Edge→Bool) (hf:∀p,Spec Tryz.prog f (Args (eE p::caps)) m (eB (g p)) m) (ps:List Edge) (hl:ps.length≤9223372036854775807):
 Spec Tryz.prog 147 (Args [.d (sE ps), .fn f [] caps]) m (eB (ps.any g)) m:=by
 (refine Spec.hd (C:=T.cfg [] []) (rs:= [.t 4]) (T.ai _ _) Tryz.func147 rfl rfl Tryz.ntmps147 Tryz.results147 (fun p hp=>⟨(aF.low hR p hp).1,aF.nest hR p hp⟩) (fun p hp=>⟨(aF.low hR p hp).2,aF.nest hR p hp⟩) (by kernel_rfl) T.mixed fun X hX hP hC aG b9=> ?_)
 repeat' (first|refine Rn.p ?_|(with_reducible apply And.intro)|((first|(refine hK _ ?_;clear hK K)|with_reducible intro K hK|refine Rs.p ?_|((with_reducible first|apply oP|apply oQ);exact rfl)|(first|(refine aA hX hC hP hR (bE hR _ _ g hf ps hl) rfl rfl rfl ?_ ?_ rfl rfl ?_;(focus (simp only [go_sem,simprocAttr];done));(focus (first|(intro p hp;exact az (aF.nd hR) hp)|(simp [go_sem,simprocAttr];done))))|(refine aA hX hC hP hR (bE hR _ _ g hf ps hl) rfl rfl rfl ?_ ?_ ?_ rfl ?_;(focus (simp only [go_sem,simprocAttr];done));(focus (first|(intro p hp;exact az (aF.nd hR) hp)|(simp [go_sem,simprocAttr];done)));(focus (simp [go_sem,simprocAttr];done)))));try simp only [go_sem,simprocAttr])|((with_reducible refine oD ?_ ?_);kernel_rfl)|((with_reducible intro h);try simp only [go_sem,simprocAttr] at h)|omega|intro h)
 ·exact c7 g ps
 ·exact bZ hR
def tX (g:Gr) (x:Int):Bool:=decide (x<0)||decide (g.n≤x)
def oe (g:Gr) (e:Edge):Bool:=tX g e.1||tX g e.2
def aV (g:Gr):Bool:=decide (0<g.n)&&decide (g.n≤64)&&decide ((g.es.length:Int)≤128)&& !g.es.any (oe g)
def rG (g:Gr):AObj:= .rob [eN g.n, .d (sE g.es)]
theorem sR (g:Gr) (x:Int):Spec Tryz.prog 146 (Args [eN x, .ptr 10000 0]) [(10000,rG g)] (eB (tX g x)) [(10000,rG g)]:=by
 unfold rG
 (refine Spec.hd (C:=T.cfg [] []) (rs:= [.t 3]) (T.ai _ _) Tryz.func146 rfl rfl Tryz.ntmps146 Tryz.results146 (by simp [AObj.isNest]) (by simp [AObj.isNest]) (by kernel_rfl) T.mixed fun X hX hP hC aG b9=> ?_)
 repeat' (first|refine Rn.p ?_|(with_reducible apply And.intro)|((first|(refine hK _ ?_;clear hK K)|with_reducible intro K hK|refine Rs.p ?_|((with_reducible first|apply oP|apply oQ);exact rfl)|(first|(refine aA hX hC hP hR (bE hR _ _ g hf ps hl) rfl rfl rfl ?_ ?_ rfl rfl ?_;(focus (simp only [go_sem,simprocAttr];done));(focus (first|(intro p hp;exact az (aF.nd hR) hp)|(simp [go_sem,simprocAttr];done))))|(refine aA hX hC hP hR (bE hR _ _ g hf ps hl) rfl rfl rfl ?_ ?_ ?_ rfl ?_;(focus (simp only [go_sem,simprocAttr];done));(focus (first|(intro p hp;exact az (aF.nd hR) hp)|(simp [go_sem,simprocAttr];done)));(focus (simp [go_sem,simprocAttr];done)))));try simp only [go_sem,simprocAttr])|((with_reducible refine oD ?_ ?_);kernel_rfl)|((with_reducible intro h);try simp only [go_sem,simprocAttr] at h)|omega|intro h)
 ·simp [tX, *]
 ·simp [tX, *]
theorem Eg (g:Gr):aF [(10000,rG g)]:=⟨by simp [rG,AObj.ro],by simp [nodupM,look],by simp,by simp [rG,AObj.ids,AV.ids,AV.idss,eN]⟩
def rF:AObj:= .rob [.fn 146 [] [.ptr 10000 0]]
attribute [go_sem] rG rF
theorem Ai (g:Gr) (e:Edge):Spec Tryz.prog 148 (Args [eE e, .ptr 10001 0]) [(10001,rF),(10000,rG g)] (eB (oe g e)) [(10001,rF),(10000,rG g)]:=by
 unfold rF rG
 (refine Spec.hd (C:=T.cfg [] []) (rs:= [.t 3]) (T.ai _ _) Tryz.func148 rfl rfl Tryz.ntmps148 Tryz.results148 (by simp [AObj.isNest]) (by simp [AObj.isNest]) (by kernel_rfl) T.mixed fun X hX hP hC aG b9=> ?_)
 repeat' (first|refine Rn.p ?_|(with_reducible apply And.intro)|((first|(refine hK _ ?_;clear hK K)|with_reducible intro K hK|refine Rs.p ?_|((with_reducible first|apply oP|apply oQ);exact rfl)|(first|(refine aA hX hC hP (Eg g) (sR g _) rfl rfl rfl ?_ ?_ rfl rfl ?_;(focus (simp only [go_sem,simprocAttr];done));(focus (first|(intro p hp;exact az (aF.nd (Eg g)) hp)|(simp [go_sem,simprocAttr];done))))|(refine aA hX hC hP (Eg g) (sR g _) rfl rfl rfl ?_ ?_ ?_ rfl ?_;(focus (simp only [go_sem,simprocAttr];done));(focus (first|(intro p hp;exact az (aF.nd (Eg g)) hp)|(simp [go_sem,simprocAttr];done)));(focus (simp [go_sem,simprocAttr];done)))));try simp only [go_sem,simprocAttr])|((with_reducible refine oD ?_ ?_);kernel_rfl)|((with_reducible intro h);try simp only [go_sem,simprocAttr] at h)|omega|intro h)
 ·simp [oe, *]
 ·simp [oe, *]
theorem KW (g:Gr):aF [(10001,rF),(10000,rG g)]:=⟨by simp [rG,rF,AObj.ro],by simp [nodupM,look],by simp,by simp [rG,rF,AObj.ids,AV.ids,AV.idss,eN,look]⟩
theorem fN (g:Gr) (hl:g.es.length≤9223372036854775807):Spec Tryz.prog 96 (Args [eG g]) [] (eB (aV g)) []:=by
 (refine Spec.hd (C:=T.cfg [] []) (rs:= [.t 2]) (T.ai _ _) Tryz.func96 rfl rfl Tryz.ntmps96 Tryz.results96 (by simp [AObj.isNest]) (by simp [AObj.isNest]) (by kernel_rfl) T.mixed fun X hX hP hC aG b9=> ?_)
 repeat' (first|refine Rn.p ?_|(with_reducible apply And.intro)|((first|(refine hK _ ?_;clear hK K)|with_reducible intro K hK|refine Rs.p ?_|((with_reducible first|apply oP|apply oQ);exact rfl)|(refine dz hX hC hP [(10000,1),(10001,3)] (mA (KW g) _ _ (oe g) (Ai g) g.es hl) rfl rfl rfl ?_ ?_ ?_ ?_ ?_ ?_ rfl rfl ?_ ?_;(focus (simp only [go_sem,simprocAttr];done));(iterate 6 (focus (simp [go_sem,simprocAttr];done)));try simp only [List.map_cons,List.map_nil]));try simp only [go_sem,simprocAttr])|((with_reducible refine oD ?_ ?_);kernel_rfl)|((with_reducible intro h);try simp only [go_sem,simprocAttr] at h)|omega|intro h)
 all_goals simp [aV, *]
end Go.Ab
end
section
namespace Go.Ab
open Go.Proofs
attribute [local congr] ACall.congr gd.congr Nx.congr
set_option maxRecDepth 10000
def eY (l:List Int) (x:Int):Int:=bG (fun y=>decide (x=y)) l
def FW (l:List Edge) (x:Edge):Int:=bG (fun y=>decide (x=y)) l
theorem Co (l:List Int) (x:Int):decide (0≤eY l x)=decide (x∈l):=by
 unfold eY;rw [c7,Bool.eq_iff_iff];simp
theorem Cp (l:List Edge) (x:Edge):decide (0≤FW l x)=decide (x∈l):=by
 unfold FW;rw [c7,Bool.eq_iff_iff];simp [-Prod.exists, -Prod.forall]
theorem iw (x y:Edge):(decide (x.1=y.1)&&decide (x.2=y.2))=decide (x=y):=by
 obtain ⟨a,b⟩:=x;obtain ⟨c,d⟩:=y
 rw [Bool.eq_iff_iff];simp
theorem aO (ps:List Int) (x:Int) (hl:ps.length≤9223372036854775807):
 Spec Tryz.prog 73 (Args [.d (sI ps),eN x]) [] (eN (eY ps x)) []:=by
 (refine Spec.hd (C:=T.cfg [] []) (rs:= [.t 4]) (T.ai _ _) Tryz.func73 rfl rfl Tryz.ntmps73 Tryz.results73 (by simp [AObj.isNest]) (by simp [AObj.isNest]) (by kernel_rfl) T.mixed fun X hX hP hC aG b9=> ?_)
 repeat' (first|refine Rn.p ?_|(with_reducible apply And.intro)|((first|(refine hK _ ?_;clear hK K)|with_reducible intro K hK|refine Rs.p ?_|((with_reducible first|apply oP|apply oQ);exact rfl));try simp only [go_sem,simprocAttr])|((with_reducible refine oD ?_ ?_);kernel_rfl)|((with_reducible intro h);try simp only [go_sem,simprocAttr] at h)|omega|intro h)
 refine ag (fun k:Nat=>k≤ps.length∧∀j,j<k→decide (x=ps.getD j 0)=false) (fun k=>⟨[(0, .d (sI ps)),(1,eN x),(7,eN ps.length),(8,eN k)], []⟩) (fun k=>ps.length - k) 0 (by simp) ?_ ?_
 ·(refine ⟨bI ?_,fun _ _ h=>h⟩;simp [go_sem,simprocAttr])
 rintro k ⟨hk,hg⟩
 repeat' (first|refine Rn.p ?_|(with_reducible apply And.intro)|((first|(refine hK _ ?_;clear hK K)|with_reducible intro K hK|refine Rs.p ?_|((with_reducible first|apply oP|apply oQ);exact rfl));try simp only [go_sem,simprocAttr])|((with_reducible refine oD ?_ ?_);kernel_rfl)|((with_reducible intro h);try simp only [go_sem,simprocAttr] at h)|omega|intro h)
 ·exact (bQ (by omega) hg (by simpa using h)).symm
 ·refine ⟨k+1,⟨by omega,fun j hj=> ?_⟩, ?_,by omega⟩
  ·by_cases hjk:j=k
   ·subst hjk;simpa using h
   ·simpa using hg j (by omega)
  ·(refine ⟨bI ?_,fun _ _ h=>h⟩;simp [go_sem,simprocAttr])
 ·exact (bq 0 fun j hj=>hg j (by omega)).symm
theorem c8 (ps:List Int) (x:Int) (hl:ps.length≤9223372036854775807):
 Spec Tryz.prog 166 (Args [.d (sI ps),eN x]) [] (eB (decide (x∈ps))) []:=by
 rw [← Co]
 (refine Spec.hd (C:=T.cfg [] []) (rs:= [.t 4]) (T.ai _ _) Tryz.func166 rfl rfl Tryz.ntmps166 Tryz.results166 (by simp [AObj.isNest]) (by simp [AObj.isNest]) (by kernel_rfl) T.mixed fun X hX hP hC aG b9=> ?_)
 repeat' (first|refine Rn.p ?_|(with_reducible apply And.intro)|((first|(refine hK _ ?_;clear hK K)|with_reducible intro K hK|refine Rs.p ?_|((with_reducible first|apply oP|apply oQ);exact rfl)|refine aa hX hC hP (aO ps x hl) rfl rfl rfl (by simp only [go_sem,simprocAttr]) rfl ?_);try simp only [go_sem,simprocAttr])|((with_reducible refine oD ?_ ?_);kernel_rfl)|((with_reducible intro h);try simp only [go_sem,simprocAttr] at h)|omega|intro h)
theorem vM (ps:List Edge) (x:Edge) (hl:ps.length≤9223372036854775807):
 Spec Tryz.prog 175 (Args [.d (sE ps),eE x]) [] (eN (FW ps x)) []:=by
 (refine Spec.hd (C:=T.cfg [] []) (rs:= [.t 4]) (T.ai _ _) Tryz.func175 rfl rfl Tryz.ntmps175 Tryz.results175 (by simp [AObj.isNest]) (by simp [AObj.isNest]) (by kernel_rfl) T.mixed fun X hX hP hC aG b9=> ?_)
 repeat' (first|refine Rn.p ?_|(with_reducible apply And.intro)|((first|(refine hK _ ?_;clear hK K)|with_reducible intro K hK|refine Rs.p ?_|((with_reducible first|apply oP|apply oQ);exact rfl));try simp only [go_sem,simprocAttr])|((with_reducible refine oD ?_ ?_);kernel_rfl)|((with_reducible intro h);try simp only [go_sem,simprocAttr] at h)|omega|intro h)
 refine ag (fun k:Nat=>k≤ps.length∧∀j,j<k→decide (x=ps.getD j (0,0))=false) (fun k=>⟨[(0, .d (sE ps)),(3, .ptr 3 0),(7,eN ps.length),(8,eN k)], [(3, .box [eN x.1,eN x.2])]⟩) (fun k=>ps.length - k) 0 (by simp) ?_ ?_
 ·(refine Le.of ?_ ?_<;>simp [go_sem,simprocAttr])
 rintro k ⟨hk,hg⟩
 repeat' (first|refine Rn.p ?_|(with_reducible apply And.intro)|((first|(refine hK _ ?_;clear hK K)|with_reducible intro K hK|refine Rs.p ?_|((with_reducible first|apply oP|apply oQ);exact rfl));try simp only [go_sem,simprocAttr,iw])|((with_reducible refine oD ?_ ?_);kernel_rfl)|((with_reducible intro h);try simp only [go_sem,simprocAttr,iw] at h)|omega|intro h)
 ·exact (bQ (d:=(0,0)) (by omega) hg (by simpa using h)).symm
 ·refine ⟨k+1,⟨by omega,fun j hj=> ?_⟩, ?_,by omega⟩
  ·by_cases hjk:j=k
   ·subst hjk;exact h
   ·simpa using hg j (by omega)
  ·(refine Le.of ?_ ?_<;>simp [go_sem,simprocAttr,iw])
 ·exact (bq (0,0) fun j hj=>hg j (by omega)).symm
theorem dG (ps:List Edge) (x:Edge) (hl:ps.length≤9223372036854775807):
 Spec Tryz.prog 132 (Args [.d (sE ps),eE x]) [] (eB (decide (x∈ps))) []:=by
 rw [← Cp]
 (refine Spec.hd (C:=T.cfg [] []) (rs:= [.t 4]) (T.ai _ _) Tryz.func132 rfl rfl Tryz.ntmps132 Tryz.results132 (by simp [AObj.isNest]) (by simp [AObj.isNest]) (by kernel_rfl) T.mixed fun X hX hP hC aG b9=> ?_)
 repeat' (first|refine Rn.p ?_|(with_reducible apply And.intro)|((first|(refine hK _ ?_;clear hK K)|with_reducible intro K hK|refine Rs.p ?_|((with_reducible first|apply oP|apply oQ);exact rfl)|refine aa hX hC hP (vM ps x hl) rfl rfl rfl (by simp only [go_sem,simprocAttr,iw]) rfl ?_);try simp only [go_sem,simprocAttr,iw])|((with_reducible refine oD ?_ ?_);kernel_rfl)|((with_reducible intro h);try simp only [go_sem,simprocAttr,iw] at h)|omega|intro h)
theorem kF (ps:List Edge) (hl:ps.length≤1000000):
 Spec Tryz.prog 97 (Args [.d (sE ps)]) [] (.d (sE ps)) []:=by
 (refine Spec.hd (C:=T.cfg [] []) (rs:= [.t 2]) (T.ai _ _) Tryz.func97 rfl rfl Tryz.ntmps97 Tryz.results97 (by simp [AObj.isNest]) (by simp [AObj.isNest]) (by kernel_rfl) T.mixed fun X hX hP hC aG b9=> ?_)
 repeat' (first|refine Rn.p ?_|(with_reducible apply And.intro)|((first|(refine hK _ ?_;clear hK K)|with_reducible intro K hK|refine Rs.p ?_|((with_reducible first|apply oP|apply oQ);exact rfl));try simp only [go_sem,simprocAttr])|((with_reducible refine oD ?_ ?_);kernel_rfl)|((with_reducible intro h);try simp only [go_sem,simprocAttr] at h)|omega|intro h)
 exact h.symm
theorem gM {α:Type} {f:α→Bool} {xs:List α} (d:α) {k:Nat} (h1:k<xs.length) (h:(xs.take k).any f=false) (he:f (xs.getD k d)=false):(xs.take (k+1)).any f=false:=by
 rw [List.take_add_one,List.any_append,h,List.getElem?_eq_getElem h1]
 simp only [List.getD_eq_getElem?_getD,List.getElem?_eq_getElem h1,Option.getD_some] at he
 simp [he]
theorem kG {α:Type} {f:α→Bool} {xs:List α} {d:α} {k:Nat} (h1:k<xs.length) (he:f (xs.getD k d)=true):xs.any f=true:=by
 rw [List.any_eq_true]
 refine ⟨_,List.getElem_mem h1, ?_⟩
 simpa only [List.getD_eq_getElem?_getD,List.getElem?_eq_getElem h1,Option.getD_some] using he
theorem vN {g:Gr} {k:Nat} (h1:k<g.es.length) (he:oe g (g.es.getD k (0,0))=true):false=aV g:=by
 simp [aV,kG h1 he]
theorem di (g:Gr) (hl:g.es.length≤9223372036854775807):Spec Tryz.prog 80 (Args [eG g]) [] (eB (aV g)) []:=by
 (refine Spec.hd (C:=T.cfg [] []) (rs:= [.t 2]) (T.ai _ _) Tryz.func80 rfl rfl Tryz.ntmps80 Tryz.results80 (by simp [AObj.isNest]) (by simp [AObj.isNest]) (by kernel_rfl) T.mixed fun X hX hP hC aG b9=> ?_)
 repeat' (first|refine Rn.p ?_|(with_reducible apply And.intro)|((first|(refine hK _ ?_;clear hK K)|with_reducible intro K hK|refine Rs.p ?_|((with_reducible first|apply oP|apply oQ);exact rfl));try simp only [go_sem,simprocAttr])|((with_reducible refine oD ?_ ?_);kernel_rfl)|((with_reducible intro h);try simp only [go_sem,simprocAttr] at h)|omega|intro h)
 any_goals (simp [aV];omega)
 refine ag (fun k:Nat=>k≤g.es.length∧(g.es.take k).any (oe g)=false) (fun k=>⟨[(1, .ptr 1 0),(3,eN k)], [(1, .box [eN g.n, .d (sE g.es)])]⟩) (fun k=>g.es.length - k) 0 (by simp) ?_ ?_
 ·(refine Le.of ?_ ?_<;>simp [go_sem,simprocAttr])
 rintro k ⟨hk,hp⟩
 repeat' (first|refine Rn.p ?_|(with_reducible apply And.intro)|((first|(refine hK _ ?_;clear hK K)|with_reducible intro K hK|refine Rs.p ?_|((with_reducible first|apply oP|apply oQ);exact rfl));try simp only [go_sem,simprocAttr])|((with_reducible refine oD ?_ ?_);kernel_rfl)|((with_reducible intro h);try simp only [go_sem,simprocAttr] at h)|omega|intro h)
 any_goals (refine vN (k:=k) (by omega) ?_;simp only [oe,tX,Bool.or_eq_true,decide_eq_true_eq];omega)
 ·refine ⟨k+1,⟨by omega,gM (0,0) (by omega) hp ?_⟩, ?_,by omega⟩
  ·simp only [oe,tX,Bool.or_eq_false_iff,decide_eq_false_iff_not];omega
  ·(refine Le.of ?_ ?_<;>simp [go_sem,simprocAttr])
 ·rw [List.take_of_length_le (by omega)] at hp
  simp [aV,hp];omega
end Go.Ab
end
section
namespace Go.Ab
open Go.Proofs
attribute [local congr] ACall.congr gd.congr Nx.congr
set_option maxRecDepth 10000
set_option maxHeartbeats 8000000
def eL (f:Edge→Int) (es:List Edge) (k:Nat) (x:Nat):List Int:=((List.range k).filter fun i=>decide (f (es.getD i (0,0))=(x:Int))).map Int.ofNat
def l7 (f:Edge→Int) (es:List Edge) (n k:Nat):List (List (List D)):=(List.range n).map fun x=>(eL f es k x).map rI
def sL (ls:List (List Int)):D:= .sl 1 (ls.map fun l=> [sI l])
def dH (f:Edge→Int) (g:Gr):List (List Int):=(List.range g.n.toNat).map (eL f g.es g.es.length)
def vw (g:Gr):D:= .pt [.sc (.int .i64 g.n),sE g.es,sL (dH (·.1) g),sL (dH (·.2) g)]
theorem bL {g:Gr} (h:aV g=true):0<g.n∧g.n≤64∧g.es.length≤128:=by
 simp [aV] at h;omega
theorem dX {g:Gr} (h:aV g=true) {k:Nat} (hk:k<g.es.length):(0≤(g.es.getD k (0,0)).1∧(g.es.getD k (0,0)).1<g.n)∧(0≤(g.es.getD k (0,0)).2∧(g.es.getD k (0,0)).2<g.n):=by
 have h2:=vN (g:=g) hk
 rw [h] at h2
 have h3:¬oe g (g.es.getD k (0,0))=true:=fun e=>by simpa using h2 e
 simp only [oe,tX,Bool.or_eq_true,decide_eq_true_eq] at h3
 omega
theorem bS {f:Edge→Int} {es:List Edge} {n k:Nat} :(l7 f es n k).length=n:=by simp [l7]
theorem jb {f:Edge→Int} {es:List Edge} {n k x:Nat} (hx:x<n):(l7 f es n k)[x]? =some ((eL f es k x).map rI):=by
 simp [l7,List.getElem?_range hx]
theorem gy {f:Edge→Int} {es:List Edge} {k x:Nat} :(eL f es k x).length≤k:=by
 simpa [eL] using List.length_filter_le (fun i=>decide (f (es.getD i (0,0))=(x:Int))) (List.range k)
theorem xK {f:Edge→Int} {es:List Edge} {k x:Nat} :eL f es (k+1) x=eL f es k x++if f (es.getD k (0,0))=(x:Int) then [(k:Int)] else []:=by
 simp only [eL,List.range_succ,List.filter_append,List.map_append,List.filter_cons,List.filter_nil]
 split<;>simp_all
theorem qF {f:Edge→Int} {es:List Edge} {n k:Nat} (h0:0≤f (es.getD k (0,0))):
 (l7 f es n k).set (f (es.getD k (0,0))).toNat ((eL f es k (f (es.getD k (0,0))).toNat).map rI++ [[.sc (.int .i64 k)]])=l7 f es n (k+1):=by
 refine List.ext_getElem? fun i=> ?_
 rw [List.getElem?_set,bS]
 by_cases hi:i<n
 ·rw [jb hi,jb hi,xK]
  generalize f (es.getD k (0,0))=e at*
  by_cases hq:e=(i:Int)
  ·subst hq;simp [hi,rI]
  ·have:¬e.toNat=i:=by omega
   simp [hq,this]
 ·rw [List.getElem?_eq_none (by rw [bS];omega),List.getElem?_eq_none (by rw [bS];omega)]
  generalize f (es.getD k (0,0))=e at*
  split
  ·rename_i hq;rw [if_neg (by omega)]
  ·rfl
theorem qG {f:Edge→Int} {es:List Edge} {n:Nat} :List.replicate n []=l7 f es n 0:=by
 refine List.ext_getElem? fun i=> ?_
 by_cases hi:i<n
 ·rw [jb hi];simp [hi,eL]
 ·rw [List.getElem?_eq_none (by simp;omega),List.getElem?_eq_none (by rw [bS];omega)]
theorem lE (g:Gr) (hm:aV g=true):Spec Tryz.prog 44 (Args [eG g]) [] (.d (vw g)) []:=by
 have hn:=bL hm
 have hl:g.es.length≤9223372036854775807:=by omega
 have hl':g.es.length≤1000000:=by omega
 (refine Spec.hd (C:=T.cfg [] [13,16]) (rs:= [.t 2]) (T.ai _ _) Tryz.func44 rfl rfl Tryz.ntmps44 Tryz.results44 (by simp [AObj.isNest]) (by simp [AObj.isNest]) (by kernel_rfl) T.mixed fun X hX hP hC aG b9=> ?_)
 repeat' (first|refine Rn.p ?_|(with_reducible apply And.intro)|((first|(refine hK _ ?_;clear hK K)|with_reducible intro K hK|refine Rs.p ?_|((with_reducible first|apply oP|apply oQ);exact rfl)|refine aa hX hC hP (fN g hl) rfl rfl rfl (by simp only [go_sem,simprocAttr,hm]) rfl ?_|refine aa hX hC hP (kF g.es hl') rfl rfl rfl (by simp only [go_sem,simprocAttr,hm]) rfl ?_);try simp only [go_sem,simprocAttr,hm])|((with_reducible refine oD ?_ ?_);kernel_rfl)|((with_reducible intro h);try simp only [go_sem,simprocAttr,hm] at h)|omega|intro h)
 refine vH hX 13 (by simp [go_sem,simprocAttr,hm];exact ⟨rfl,rfl,rfl,rfl⟩) (by decide) (by simp [go_sem,simprocAttr,hm]) (by simp [go_sem,simprocAttr,hm]) ?_
 refine vH hX 16 (by simp [go_sem,simprocAttr,hm];exact ⟨rfl,rfl,rfl,rfl⟩) (by decide) (by simp [go_sem,simprocAttr,hm]) (by simp [go_sem,simprocAttr,hm]) ?_
 simp only [go_sem,simprocAttr,hm]
 refine ag (fun k:Nat=>k≤g.es.length) (fun k=>⟨[(29,eN k),(28,eN g.es.length),(27, .d (sE g.es)),(3, .ptr 18 0)], [(18, .box [eN g.n, .d (sE g.es), .ref 13, .ref 16]),(16, .nest 31 3 1 (l7 (·.2) g.es g.n.toNat k) none),(13, .nest 31 3 1 (l7 (·.1) g.es g.n.toNat k) none)]⟩) (fun k=>g.es.length - k) 0 (by simp) ?_ ?_
 ·refine Le.of ?_ ?_<;>simp [go_sem,simprocAttr,hm]
  exact ⟨qG,qG⟩
 rintro k hk
 rcases Nat.lt_or_ge k g.es.length with hlt|hge
 ·have hb:decide ((k:Int)<(g.es.length:Int))=true:=decide_eq_true (by omega)
  obtain ⟨rZ,vi⟩:=dX hm hlt
  have hg1:=jb (f:=(·.1)) (es:=g.es) (k:=k) (show (g.es.getD k (0,0)).1.toNat<g.n.toNat by omega)
  have hg2:=jb (f:=(·.2)) (es:=g.es) (k:=k) (show (g.es.getD k (0,0)).2.toNat<g.n.toNat by omega)
  have KX:=gy (f:=(·.1)) (es:=g.es) (k:=k) (x:=(g.es.getD k (0,0)).1.toNat)
  have Nq:=gy (f:=(·.2)) (es:=g.es) (k:=k) (x:=(g.es.getD k (0,0)).2.toNat)
  repeat' (first|refine Rn.p ?_|(with_reducible apply And.intro)|((first|(refine hK _ ?_;clear hK K)|with_reducible intro K hK|refine Rs.p ?_|((with_reducible first|apply oP|apply oQ);exact rfl)|refine aa hX hC hP (fN g hl) rfl rfl rfl (by simp only [go_sem,simprocAttr,hm,hb,hg1,hg2,bS]) rfl ?_|refine aa hX hC hP (kF g.es hl') rfl rfl rfl (by simp only [go_sem,simprocAttr,hm,hb,hg1,hg2,bS]) rfl ?_);try simp only [go_sem,simprocAttr,hm,hb,hg1,hg2,bS])|((with_reducible refine oD ?_ ?_);first|(focus (simp only [qj,lC,gb,meets,qt,mw,z8,dh,nh,l6,Rec.rs,Rec.nS,Rec.EX,eX,Rec.cW,Rec.names,KV.ids,Ci,Cj,Ck,Cl,Cm,Cn,List.zip_cons_cons,List.zip_nil_right,List.zipIdx_cons,List.zipIdx_nil,List.all_cons,List.all_nil,List.contains_cons,List.contains_nil,List.any_cons,List.any_nil,List.flatMap_nil,List.reverse_cons,List.reverse_nil,iQ,z6,Region.binds,go_sem,simprocAttr,hm,hb,hg1,hg2,bS];done))|kernel_rfl)|((with_reducible intro h);try simp only [go_sem,simprocAttr,hm,hb,hg1,hg2,bS] at h)|omega|intro h)
  refine ⟨k+1,by omega, ?_,by omega⟩
  refine Le.of ?_ ?_<;>simp [go_sem,simprocAttr,hm,hb,hg1,hg2,bS]
  exact ⟨qF (f:=(·.2)) vi.1,qF (f:=(·.1)) rZ.1⟩
 ·repeat' (first|refine Rn.p ?_|(with_reducible apply And.intro)|((first|(refine hK _ ?_;clear hK K)|with_reducible intro K hK|refine Rs.p ?_|((with_reducible first|apply oP|apply oQ);exact rfl)|refine aa hX hC hP (fN g hl) rfl rfl rfl (by simp only [go_sem,simprocAttr]) rfl ?_|refine aa hX hC hP (kF g.es hl') rfl rfl rfl (by simp only [go_sem,simprocAttr]) rfl ?_);try simp only [go_sem,simprocAttr])|((with_reducible refine oD ?_ ?_);first|(focus (simp only [qj,lC,gb,meets,qt,mw,z8,dh,nh,l6,Rec.rs,Rec.nS,Rec.EX,eX,Rec.cW,Rec.names,KV.ids,Ci,Cj,Ck,Cl,Cm,Cn,List.zip_cons_cons,List.zip_nil_right,List.zipIdx_cons,List.zipIdx_nil,List.all_cons,List.all_nil,List.contains_cons,List.contains_nil,List.any_cons,List.any_nil,List.flatMap_nil,List.reverse_cons,List.reverse_nil,iQ,z6,Region.binds,go_sem,simprocAttr];done))|kernel_rfl)|((with_reducible intro h);try simp only [go_sem,simprocAttr] at h)|omega|intro h)
  have:k=g.es.length:=by omega
  subst this
  simp only [vw,sE,sL,dH,l7,List.map_map]
  rfl
end Go.Ab
end
section
namespace Go.Ab
open Go.Proofs
attribute [local congr] ACall.congr gd.congr Nx.congr
set_option maxRecDepth 10000
def tl (g:Gr) (i:Nat):Int:=(g.es.getD i (0,0)).1
def hd (g:Gr) (i:Nat):Int:=(g.es.getD i (0,0)).2
def wt (g:Gr) (out:List Int) (y:Nat):Int:=
 if (y:Int)∈out then -1 else (((List.range g.es.length).countP fun i=>decide (hd g i=(y:Int))&& !decide (tl g i∈out):Nat):Int)
def cw (g:Gr) (out:List Int):List Int:=(List.range g.n.toNat).map (wt g out)
def sq (g:Gr):Nat→List Int→List Int
 |0,out=>out
 |f+1,out=>if eY (cw g out) 0<0 then out else sq g f (out++ [eY (cw g out) 0])
def aI (g:Gr):List Int:=sq g g.n.toNat []
structure dY (g:Gr) (out:List Int):Prop where
 lo:∀x∈out,0≤x∧x<g.n
 back:∀i,i<g.es.length→hd g i∈out→tl g i∈out
 fuel:out.length+(List.range g.n.toNat).countP (fun y:Nat=> !decide ((y:Int)∈out))=g.n.toNat
theorem fA {α:Type} {f:α→Bool} {l:List α} (d:α):bG f l= -1∧(∀x∈l,f x=false)∨∃k:Nat,bG f l=k∧k<l.length∧f (l.getD k d)=true∧∀j,j<k→f (l.getD j d)=false:=by
 cases h:l.findIdx? f with
 |none=>
  rw [List.findIdx?_eq_none_iff] at h
  exact .inl ⟨by simp [bG,List.findIdx?_eq_none_iff.2 h],h⟩
 |some i=>
  obtain ⟨hi,hg,hb⟩:=List.findIdx?_eq_some_iff_getElem.1 h
  refine .inr ⟨i,by simp [bG,h],hi,by simpa [List.getD_eq_getElem?_getD,List.getElem?_eq_getElem hi] using hg,fun j hj=> ?_⟩
  have hjl:j<l.length:=by omega
  have:=hb j hj
  simpa [List.getD_eq_getElem?_getD,List.getElem?_eq_getElem hjl] using this
theorem wts_length {g:Gr} {out:List Int} :(cw g out).length=g.n.toNat:=by simp [cw]
theorem kH {g:Gr} {out:List Int} {y:Nat} (h:y<g.n.toNat) (d:Int):(cw g out).getD y d=wt g out y:=by
 simp [cw,List.getD_eq_getElem?_getD,List.getElem?_range h]
theorem kI {p:Nat→Bool} {x:Nat} (hx:p x=true):∀ {n:Nat},x<n→(List.range n).countP (fun y=>p y&& !decide (y=x))+1=(List.range n).countP p
 |0,h=>by omega
 |n+1,h=>by
  rw [List.range_succ,List.countP_append,List.countP_append]
  by_cases FX:x=n
  ·subst FX
   have:(List.range x).countP (fun y=>p y&& !decide (y=x))=(List.range x).countP p:=by
    refine List.countP_congr fun y hy=> ?_
    have:y≠x:=by have:=List.mem_range.1 hy;omega
    simp [this]
   rw [this]
   simp [List.countP_cons,hx]
  ·have:=kI hx (n:=n) (by omega)
   have hn:n≠x:=fun e=>FX e.symm
   simp only [List.countP_cons,List.countP_nil,hn,decide_false,Bool.not_false,Bool.and_true]
   omega
theorem dY.nil (g:Gr):dY g []:=⟨by simp,by simp,by rw [List.countP_eq_length_filter,List.filter_eq_self.2 (by simp)];simp⟩
theorem dY.next {g:Gr} (hm:aV g=true) {out:List Int} (h:dY g out) {x:Nat} (hx:x<g.n.toNat) (hw:wt g out x=0):dY g (out++ [(x:Int)])∧(x:Int)∉out∧(∀i,i<g.es.length→hd g i=x→tl g i∈out):=by
 have z7:(x:Int)∉out:=fun hi=>by simp [wt,hi] at hw
 have hb:∀i,i<g.es.length→hd g i=x→tl g i∈out:=by
  intro i hi he
  simp only [wt,z7,if_false] at hw
  have:=List.countP_eq_zero.1 (Int.ofNat.inj hw) i (List.mem_range.2 hi)
  simpa [he] using this
 refine ⟨⟨?_, ?_, ?_⟩,z7,hb⟩
 ·intro y hy
  rcases List.mem_append.1 hy with hy|hy
  ·exact h.lo y hy
  ·simp at hy;omega
 ·intro i hi hh
  rcases List.mem_append.1 hh with hh|hh
  ·exact List.mem_append_left _ (h.back i hi hh)
  ·simp at hh
   exact List.mem_append_left _ (hb i hi hh)
 ·have h1:=h.fuel
  have h2:=kI (p:=fun y:Nat=> !decide ((y:Int)∈out)) (x:=x) (by simp [z7]) hx
  have h3:(List.range g.n.toNat).countP (fun y:Nat=> !decide ((y:Int)∈out++ [(x:Int)]))=(List.range g.n.toNat).countP (fun y:Nat=>(!decide ((y:Int)∈out))&& !decide (y=x)):=by
   refine List.countP_congr fun y _=> ?_
   simp;omega
  rw [h3,List.length_append,List.length_singleton]
  omega
def iy (g:Gr) (x:Nat):List Int:=eL (·.1) g.es g.es.length x
def kJ (g:Gr) (x:Nat):List Int:=eL (·.2) g.es g.es.length x
theorem Cq {g:Gr} {x:Nat} {e:Int} (h:e∈iy g x):∃i:Nat,e=i∧i<g.es.length∧tl g i=x:=by
 simp only [iy,eL,List.mem_map,List.mem_filter,List.mem_range,decide_eq_true_eq] at h
 obtain ⟨i,⟨h1,h2⟩,rfl⟩:=h
 exact ⟨i,rfl,h1,h2⟩
def Bj (g:Gr) (out:List Int) (x j y:Nat):Int:=
 if (y:Int)∈out++ [(x:Int)] then -1 else (((List.range g.es.length).countP fun i=>decide (hd g i=(y:Int))&& !decide (tl g i∈out):Nat):Int) - (((iy g x).take j).countP fun e=>decide (hd g e.toNat=(y:Int)):Nat)
def sr (g:Gr) (out:List Int) (x j:Nat):List Int:=(List.range g.n.toNat).map (Bj g out x j)
theorem wtps_length {g:Gr} {out:List Int} {x j:Nat} :(sr g out x j).length=g.n.toNat:=by simp [sr]
theorem nq {g:Gr} {out:List Int} {x j y:Nat} (h:y<g.n.toNat):(sr g out x j)[y]? =some (Bj g out x j y):=by
 simp [sr,List.getElem?_range h]
theorem jP {g:Gr} {out:List Int} {y:Nat} (h:y<g.n.toNat):(cw g out)[y]? =some (wt g out y):=by
 simp [cw,List.getElem?_range h]
theorem Aj {g:Gr} {out:List Int} {x:Nat} :(cw g out).set x (-1)=sr g out x 0:=by
 refine List.ext_getElem? fun i=> ?_
 rw [List.getElem?_set,wts_length]
 by_cases hi:i<g.n.toNat
 ·rw [jP hi,nq hi]
  by_cases hx:x=i
  ·subst hx;simp [hi,Bj]
  ·have:¬i=x:=fun e=>hx e.symm
   simp only [hx,if_false,Bj,wt,List.mem_append,List.mem_singleton,List.take_zero,List.countP_nil]
   have h2:¬(i:Int)=(x:Int):=by omega
   simp [h2]
 ·rw [List.getElem?_eq_none (by rw [wts_length];omega),List.getElem?_eq_none (by rw [wtps_length];omega)]
  split
  ·rw [if_neg (by omega)]
  ·rfl
theorem jQ {α:Type} {p q r:α→Bool} :∀ {l:List α},(∀a∈l,p a=(q a||r a)∧(q a&&r a)=false)→l.countP p=l.countP q+l.countP r
 | [],_=>rfl
 |a::l,h=>by
  obtain ⟨h1,h2⟩:=h a List.mem_cons_self
  have:=jQ (l:=l) fun b hb=>h b (List.mem_cons_of_mem _ hb)
  simp only [List.countP_cons,this,h1]
  cases hq:q a<;>cases hr:r a<;>simp [hq,hr] at h2 ⊢ <;>omega
theorem Cr {g:Gr} {out:List Int} {x j:Nat} (hx:(x:Int)∉out) (hj:(iy g x).length≤j):sr g out x j=cw g (out++ [(x:Int)]):=by
 refine List.map_congr_left fun y _=> ?_
 simp only [Bj,wt]
 split
 ·rfl
 ·rw [List.take_of_length_le hj]
  have h1:(iy g x).countP (fun e=>decide (hd g e.toNat=(y:Int)))=(List.range g.es.length).countP (fun i=>decide (hd g i=(y:Int))&&decide (tl g i=(x:Int))):=by
   simp only [iy,eL,List.countP_map,List.countP_filter]
   exact List.countP_congr fun i _=>by simp [tl]
  have h2:=jQ (p:=fun i=>decide (hd g i=(y:Int))&& !decide (tl g i∈out)) (q:=fun i=>decide (hd g i=(y:Int))&& !decide (tl g i∈out++ [(x:Int)])) (r:=fun i=>decide (hd g i=(y:Int))&&decide (tl g i=(x:Int))) (l:=List.range g.es.length) (fun i _=>by
   by_cases h3:tl g i=x
   ·simp [h3,hx]
   ·simp [h3])
  rw [h1,h2];omega
theorem FY {g:Gr} {out:List Int} {x:Nat} (hP:dY g out) (z7:(x:Int)∉out) (hb:∀i,i<g.es.length→hd g i=x→tl g i∈out) {i:Nat} (hi:i<g.es.length) (ht:tl g i=x):hd g i∉out++ [(x:Int)]:=by
 intro h
 rcases List.mem_append.1 h with h|h
 ·exact z7 (ht ▸ hP.back i hi h)
 ·simp at h
  exact z7 (ht ▸ hb i hi h)
theorem Ak {g:Gr} {out:List Int} {x j i:Nat} (hj:(iy g x)[j]? =some (i:Int)) (h0:0≤hd g i) (hn:hd g i∉out++ [(x:Int)]):
 (sr g out x j).set (hd g i).toNat (Bj g out x j (hd g i).toNat - 1)=sr g out x (j+1):=by
 refine List.ext_getElem? fun y=> ?_
 rw [List.getElem?_set,wtps_length]
 by_cases hy:y<g.n.toNat
 ·rw [nq hy,nq hy]
  have ht:((iy g x).take (j+1)).countP (fun e=>decide (hd g e.toNat=(y:Int)))=((iy g x).take j).countP (fun e=>decide (hd g e.toNat=(y:Int)))+if hd g i=(y:Int) then 1 else 0:=by
   rw [List.take_add_one,List.countP_append,hj]
   simp [List.countP_cons]
  by_cases hq:(hd g i).toNat=y
  ·subst hq
   have he:((hd g i).toNat:Int)=hd g i:=by omega
   rw [if_pos rfl,if_pos (by assumption)]
   rw [he,if_pos rfl] at ht
   simp only [Bj,he,hn,if_false,ht]
   congr 1;omega
  ·rw [if_neg hq]
   have kq:¬hd g i=(y:Int):=by omega
   simp only [Bj,ht,kq,if_false,Nat.add_zero]
 ·rw [List.getElem?_eq_none (by rw [wtps_length];omega),List.getElem?_eq_none (by rw [wtps_length];omega)]
  split
  ·rw [if_neg (by omega)]
  ·rfl
def Eh (f:Edge→Int) (g:Gr):List (List D):=(dH f g).map fun l=> [sI l]
theorem nr {f:Edge→Int} {g:Gr} {x:Nat} (h:x<g.n.toNat) (d:List D):(Eh f g).getD x d= [sI (eL f g.es g.es.length x)]:=by
 simp [Eh,dH,List.getD_eq_getElem?_getD,List.getElem?_range h]
theorem vwl_length {f:Edge→Int} {g:Gr} :(Eh f g).length=g.n.toNat:=by simp [Eh,dH]
def GP (g:Gr):D:= .pt [.sc (.int .i64 g.n),sE g.es, .sl 1 (Eh (·.1) g), .sl 1 (Eh (·.2) g)]
theorem eZ (g:Gr):vw g=GP g:=rfl
attribute [go_sem] GP wtps_length wts_length vwl_length
theorem Cs {g:Gr} {k:Nat} (h:k<g.n.toNat):(cw g []).take (k+1)=(cw g []).take k++ [((kJ g k).length:Int)]:=by
 rw [List.take_add_one,jP h]
 simp [wt,kJ,eL,hd,List.countP_eq_length_filter]
theorem Al {g:Gr} (hm:aV g=true) {out:List Int} {x j y:Nat} : -1000≤Bj g out x j y∧Bj g out x j y≤1000:=by
 have hn:=bL hm
 have h1:=List.countP_le_length (p:=fun i=>decide (hd g i=(y:Int))&& !decide (tl g i∈out)) (l:=List.range g.es.length)
 have h2:=List.countP_le_length (p:=fun e:Int=>decide (hd g e.toNat=(y:Int))) (l:=(iy g x).take j)
 have h3:((iy g x).take j).length≤g.es.length:=Nat.le_trans (List.length_take_le' _ _) gy
 simp only [List.length_range] at h1
 unfold Bj
 split<;>omega
theorem vO {g:Gr} {out:List Int} (h:eY (cw g out) 0<0):∀f,sq g f out=out
 |0=>rfl
 |f+1=>by simp [sq,h]
def left (g:Gr) (out:List Int):Nat:=(List.range g.n.toNat).countP (fun y:Nat=> !decide ((y:Int)∈out))
theorem sS {g:Gr} {out:List Int} {x:Nat} (h:dY g out) (h':dY g (out++ [(x:Int)])):left g out=left g (out++ [(x:Int)])+1:=by
 have h1:=h.fuel
 have h2:=h'.fuel
 rw [List.length_append,List.length_singleton] at h2
 unfold left;omega
theorem Ir {g:Gr} (out:List Int):eY (cw g out) 0= -1∨∃x:Nat,eY (cw g out) 0=x∧x<g.n.toNat∧wt g out x=0:=by
 rcases fA (f:=fun y:Int=>decide (0=y)) (l:=cw g out) 0 with ⟨h,_⟩|⟨k,h1,h2,h3,_⟩
 ·exact .inl h
 ·rw [wts_length] at h2
  rw [kH h2] at h3
  exact .inr ⟨k,h1,h2,by simpa using (of_decide_eq_true h3).symm⟩
theorem jc (g:Gr) (hm:aV g=true):Spec Tryz.prog 176 (Args [.d (vw g)]) [] (.tup [.d (sI (aI g)), .d (sI (cw g (aI g)))]) []:=by
 rw [eZ]
 have hn:=bL hm
 (refine Spec.hd (C:=T.cfg [22] []) (rs:= [.t 2, .t 3]) (T.ai _ _) Tryz.func176 rfl rfl Tryz.ntmps176 Tryz.results176 (by simp [AObj.isNest]) (by simp [AObj.isNest]) (by kernel_rfl) T.mixed fun X hX hP hC aG b9=> ?_)
 repeat' (first|refine Rn.p ?_|(with_reducible apply And.intro)|((first|(refine hK _ ?_;clear hK K)|with_reducible intro K hK|refine Rs.p ?_|((with_reducible first|apply oP|apply oQ);exact rfl)|(refine ah hX hC hP (aO (cw g out) 0 yY) rfl rfl rfl ?_ ?_ ?_ ?_;iterate 3 (focus (simp only [go_sem,simprocAttr];done))));try simp only [go_sem,simprocAttr])|((with_reducible refine oD ?_ ?_);kernel_rfl)|((with_reducible intro h);try simp only [go_sem,simprocAttr] at h)|omega|intro h)
 (refine jO hX 3 22 (.own 3 1 []) (by simp only [go_sem,simprocAttr]) (by simp only [go_sem,simprocAttr]) (by decide) ⟨3,1,by decide, .inl rfl⟩ ?_;simp only [go_sem,simprocAttr])
 refine ag (fun k:Nat=>k≤g.n.toNat) (fun k=>⟨[(14,eN k),(13,eN g.n.toNat),(12, .d (.sl 1 (Eh (·.2) g))),(3, .ref 22),(2, .nil 3),(0, .d (GP g))], [(22, .own 3 1 (((cw g []).take k).map rI))]⟩) (fun k=>g.n.toNat - k) 0 (by simp) ?_ ?_
 ·(refine Le.of ?_ ?_<;>simp [go_sem,simprocAttr])
 ·rintro k hk
  rcases Nat.lt_or_ge k g.n.toNat with hlt|hge
  ·have hb:decide ((k:Int)<(g.n.toNat:Int))=true:=decide_eq_true (by omega)
   have hv:=nr (f:=(·.2)) hlt
   have KX:(kJ g k).length≤g.es.length:=gy
   have hlt':((cw g []).take k).length≤64:=by rw [List.length_take,wts_length];omega
   repeat' (first|refine Rn.p ?_|(with_reducible apply And.intro)|((first|(refine hK _ ?_;clear hK K)|with_reducible intro K hK|refine Rs.p ?_|((with_reducible first|apply oP|apply oQ);exact rfl)|(refine ah hX hC hP (aO (cw g out) 0 yY) rfl rfl rfl ?_ ?_ ?_ ?_;iterate 3 (focus (simp only [go_sem,simprocAttr,hb,hv];done))));try simp only [go_sem,simprocAttr,hb,hv])|((with_reducible refine oD ?_ ?_);kernel_rfl)|((with_reducible intro h);try simp only [go_sem,simprocAttr,hb,hv] at h)|omega|intro h)
   refine ⟨k+1,by omega, ?_,by omega⟩
   refine Le.of ?_ ?_<;>simp [go_sem,simprocAttr,hb,hv,Cs hlt]
   rfl
  ·obtain rfl:k=g.n.toNat:=by omega
   have hb:decide ((g.n.toNat:Int)<(g.n.toNat:Int))=false:=decide_eq_false (by omega)
   have ht:(cw g []).take g.n.toNat=cw g []:=List.take_of_length_le (by rw [wts_length];omega)
   repeat' (first|refine Rn.p ?_|(with_reducible apply And.intro)|((first|(refine hK _ ?_;clear hK K)|with_reducible intro K hK|refine Rs.p ?_|((with_reducible first|apply oP|apply oQ);exact rfl)|(refine ah hX hC hP (aO (cw g out) 0 yY) rfl rfl rfl ?_ ?_ ?_ ?_;iterate 3 (focus (simp only [go_sem,simprocAttr,hb,ht];done))));try simp only [go_sem,simprocAttr,hb,ht])|((with_reducible refine oD ?_ ?_);kernel_rfl)|((with_reducible intro h);try simp only [go_sem,simprocAttr,hb,ht] at h)|omega|intro h)
   (refine jO hX 2 33 (.tip 3 1 []) (by simp only [go_sem,simprocAttr,hb,ht]) (by simp only [go_sem,simprocAttr,hb,ht]) (by decide) ⟨3,1,by decide, .inr rfl⟩ ?_;simp only [go_sem,simprocAttr,hb,ht])
   refine ag (fun out:List Int=>dY g out∧sq g (left g out) out=aI g) (fun out=>⟨[(3, .ref 22),(2, .ref 33),(0, .d (GP g))], [(22, .own 3 1 ((cw g out).map rI)),(33, .tip 3 1 (out.map rI))]⟩) (left g) [] ⟨dY.nil g, ?_⟩ ?_ ?_
   ·have:=(dY.nil g).fuel
    simp only [List.length_nil,Nat.zero_add] at this
    unfold left aI
    rw [this]
   ·(refine Le.of ?_ ?_<;>simp [go_sem,simprocAttr,hb,ht])
   rintro out ⟨ij,hrun⟩
   have yY:(cw g out).length≤9223372036854775807:=by rw [wts_length];omega
   have hout:out.length≤64:=by have:=ij.fuel;omega
   rcases Ir (g:=g) out with hx|⟨x,hx,FX,hw0⟩
   ·have hr:=vO (g:=g) (out:=out) (by omega) (left g out)
    rw [hrun] at hr
    repeat' (first|refine Rn.p ?_|(with_reducible apply And.intro)|((first|(refine hK _ ?_;clear hK K)|with_reducible intro K hK|refine Rs.p ?_|((with_reducible first|apply oP|apply oQ);exact rfl)|(refine ah hX hC hP (aO (cw g out) 0 yY) rfl rfl rfl ?_ ?_ ?_ ?_;iterate 3 (focus (simp only [go_sem,simprocAttr,hx];done))));try simp only [go_sem,simprocAttr,hx])|((with_reducible refine oD ?_ ?_);kernel_rfl)|((with_reducible intro h);try simp only [go_sem,simprocAttr,hx] at h)|omega|intro h)
    ·rw [hr]
    ·rw [hr]
   ·obtain ⟨sj,z7,hbk⟩:=ij.next hm FX hw0
    have bC:decide ((x:Int)<0)=false:=decide_eq_false (by omega)
    have hv:=nr (f:=(·.1)) FX
    have KX:(iy g x).length≤g.es.length:=gy
    repeat' (first|refine Rn.p ?_|(with_reducible apply And.intro)|((first|(refine hK _ ?_;clear hK K)|with_reducible intro K hK|refine Rs.p ?_|((with_reducible first|apply oP|apply oQ);exact rfl)|(refine ah hX hC hP (aO (cw g out) 0 yY) rfl rfl rfl ?_ ?_ ?_ ?_;iterate 3 (focus (simp only [go_sem,simprocAttr,hx,bC,hv];done))));try simp only [go_sem,simprocAttr,hx,bC,hv])|((with_reducible refine oD ?_ ?_);kernel_rfl)|((with_reducible intro h);try simp only [go_sem,simprocAttr,hx,bC,hv] at h)|omega|intro h)
    refine ag (fun j:Nat=>j≤(iy g x).length) (fun j=>⟨[(45,eN j),(44,eN (iy g x).length),(43, .d (sI (iy g x))),(3, .ref 22),(2, .ref 33),(0, .d (GP g))], [(22, .own 3 1 ((sr g out x j).map rI)),(33, .tip 3 1 ((out++ [(x:Int)]).map rI))]⟩) (fun j=>(iy g x).length - j) 0 (by simp) ?_ ?_
    ·refine Le.of ?_ ?_<;>simp [go_sem,simprocAttr,hx,bC,hv,iy,rI]
     rw [← Aj,List.map_set];rfl
    rintro j hj
    rcases Nat.lt_or_ge j (iy g x).length with hlt|hge
    ·have bn:decide ((j:Int)<((iy g x).length:Int))=true:=decide_eq_true (by omega)
     obtain ⟨i,hi,hil,hit⟩:=Cq (List.getElem_mem hlt)
     have hi1:(iy g x)[j]? =some (i:Int):=by rw [List.getElem?_eq_getElem hlt,hi]
     have hi2:(iy g x).getD j 0=(i:Int):=by rw [List.getD_eq_getElem?_getD,hi1];rfl
     have hnew:=FY ij z7 hbk hil hit
     obtain ⟨_,Ct,rZ⟩:=dX hm hil
     have hnext:=Ak hi1 Ct hnew
     have hw:(sr g out x j).getD (g.es.getD i (0,0)).2.toNat 0=Bj g out x j (hd g i).toNat:=by
      rw [List.getD_eq_getElem?_getD,nq (by omega)];rfl
     have hbd:=Al hm (out:=out) (x:=x) (j:=j) (y:=(hd g i).toNat)
     repeat' (first|refine Rn.p ?_|(with_reducible apply And.intro)|((first|(refine hK _ ?_;clear hK K)|with_reducible intro K hK|refine Rs.p ?_|((with_reducible first|apply oP|apply oQ);exact rfl)|(refine ah hX hC hP (aO (cw g out) 0 yY) rfl rfl rfl ?_ ?_ ?_ ?_;iterate 3 (focus (simp only [go_sem,simprocAttr,bn,hi2,hw];done))));try simp only [go_sem,simprocAttr,bn,hi2,hw])|((with_reducible refine oD ?_ ?_);kernel_rfl)|((with_reducible intro h);try simp only [go_sem,simprocAttr,bn,hi2,hw] at h)|omega|intro h)
     refine ⟨j+1,by omega, ?_,by omega⟩
     refine Le.of ?_ ?_<;>simp [go_sem,simprocAttr,bn,hi2,hw]
     rw [← hnext,List.map_set];rfl
    ·have bn:decide ((j:Int)<((iy g x).length:Int))=false:=decide_eq_false (by omega)
     repeat' (first|refine Rn.p ?_|(with_reducible apply And.intro)|((first|(refine hK _ ?_;clear hK K)|with_reducible intro K hK|refine Rs.p ?_|((with_reducible first|apply oP|apply oQ);exact rfl)|(refine ah hX hC hP (aO (cw g out) 0 yY) rfl rfl rfl ?_ ?_ ?_ ?_;iterate 3 (focus (simp only [go_sem,simprocAttr,bn];done))));try simp only [go_sem,simprocAttr,bn])|((with_reducible refine oD ?_ ?_);kernel_rfl)|((with_reducible intro h);try simp only [go_sem,simprocAttr,bn] at h)|omega|intro h)
     have Nr:=sS ij sj
     refine ⟨out++ [(x:Int)],⟨sj, ?_⟩, ?_,by omega⟩
     ·rw [← hrun,Nr]
      simp only [sq,hx]
      rw [if_neg (by omega)]
     ·refine Le.of ?_ ?_<;>simp [go_sem,simprocAttr,bn,Cr z7 hge]
end Go.Ab
end
section
namespace Go.Ab
open Go.Proofs
attribute [local congr] ACall.congr gd.congr Nx.congr
set_option maxRecDepth 10000
def j8 (l:List Int) (k:Nat):List Int:=(List.range l.length).map fun p=>if p<k∨l.length - 1<p+k then l.getD (l.length - 1 - p) 0 else l.getD p 0
theorem cI {l:List Int} {k:Nat} :(j8 l k).length=l.length:=by simp [j8]
theorem jd {l:List Int} {k p:Nat} (h:p<l.length):(j8 l k)[p]? =some (if p<k∨l.length - 1<p+k then l.getD (l.length - 1 - p) 0 else l.getD p 0):=by
 simp [j8,List.getElem?_range h]
theorem qH {l:List Int} {k p:Nat} (h:p<l.length) (d:Int):(j8 l k).getD p d=if p<k∨l.length - 1<p+k then l.getD (l.length - 1 - p) 0 else l.getD p 0:=by
 rw [List.getD_eq_getElem?_getD,jd h];rfl
theorem xL {l:List Int} :j8 l 0=l:=by
 refine List.ext_getElem? fun i=> ?_
 by_cases hi:i<l.length
 ·rw [jd hi,if_neg (by omega),List.getD_eq_getElem?_getD,List.getElem?_eq_getElem hi];rfl
 ·rw [List.getElem?_eq_none (by rw [cI];omega),List.getElem?_eq_none (by omega)]
theorem Am {l:List Int} {k:Nat} (h:l.length≤2*k+1):j8 l k=l.reverse:=by
 refine List.ext_getElem? fun i=> ?_
 by_cases hi:i<l.length
 ·rw [jd hi,List.getElem?_reverse hi]
  split
  ·rw [List.getD_eq_getElem?_getD,List.getElem?_eq_getElem (by omega)];rfl
  ·have:i=l.length - 1 - i:=by omega
   rw [← this,List.getD_eq_getElem?_getD,List.getElem?_eq_getElem hi];rfl
 ·rw [List.getElem?_eq_none (by rw [cI];omega),List.getElem?_eq_none (by rw [List.length_reverse];omega)]
theorem xM {l:List Int} {k:Nat} (h:k<l.length - 1 - k):((j8 l k).set k ((j8 l k).getD (l.length - 1 - k) 0)).set (l.length - 1 - k) ((j8 l k).getD k 0)=j8 l (k+1):=by
 refine List.ext_getElem? fun i=> ?_
 rw [List.getElem?_set,List.length_set,cI,List.getElem?_set,cI]
 by_cases hi:i<l.length
 ·rw [jd hi,jd hi,qH (by omega),qH (by omega)]
  by_cases h1:l.length - 1 - k=i
  ·rw [if_pos h1,if_pos (by omega),if_neg (by omega),if_pos (by omega)]
   congr 2;omega
  ·rw [if_neg h1]
   by_cases h2:k=i
   ·rw [if_pos h2,if_pos (by omega),if_neg (by omega),if_pos (by omega)]
    congr 2;omega
   ·rw [if_neg h2]
    congr 1
    by_cases h3:i<k∨l.length - 1<i+k
    ·rw [if_pos h3,if_pos (by omega)]
    ·rw [if_neg h3,if_neg (by omega)]
 ·rw [List.getElem?_eq_none (by rw [cI];omega),List.getElem?_eq_none (by rw [cI];omega),if_neg (by omega),if_neg (by omega)]
theorem dQ (l:List Int) (hl:l.length≤1000000):Spec Tryz.prog 86 (Args [.ref 10000]) [(10000, .part 3 1 (l.map rI))] (.tup []) [(10000, .part 3 1 (l.reverse.map rI))]:=by
 (refine Spec.hd (C:=T.cfg [] []) (rs:= []) (T.ai _ _) Tryz.func86 rfl rfl Tryz.ntmps86 Tryz.results86 (by simp [AObj.isNest]) (by simp [AObj.isNest]) (by kernel_rfl) T.mixed fun X hX hP hC aG b9=> ?_)
 repeat' (first|refine Rn.p ?_|(with_reducible apply And.intro)|((first|(refine hK _ ?_;clear hK K)|with_reducible intro K hK|refine Rs.p ?_|((with_reducible first|apply oP|apply oQ);exact rfl));try simp only [go_sem,simprocAttr])|((with_reducible refine oD ?_ ?_);kernel_rfl)|((with_reducible intro h);try simp only [go_sem,simprocAttr] at h)|omega|intro h)
 refine ag (fun k:Nat=>2*k≤l.length+1) (fun k=>⟨[(0, .ref 10000),(2,eN k),(3,eN ((l.length:Int) - 1 - k))], [(10000, .part 3 1 ((j8 l k).map rI))]⟩) (fun k=>l.length+1 - k) 0 (by omega) ?_ ?_
 ·refine Le.of ?_ ?_<;>simp [go_sem,simprocAttr,xL]
 rintro k hk
 rcases Nat.lt_or_ge (2*k+1) l.length with hlt|hge
 ·have hb:decide ((k:Int)<(l.length:Int) - 1 - (k:Int))=true:=decide_eq_true (by omega)
  have ht:((l.length:Int) - 1 - (k:Int)).toNat=l.length - 1 - k:=by omega
  repeat' (first|refine Rn.p ?_|(with_reducible apply And.intro)|((first|(refine hK _ ?_;clear hK K)|with_reducible intro K hK|refine Rs.p ?_|((with_reducible first|apply oP|apply oQ);exact rfl));try simp only [go_sem,simprocAttr,hb,ht,cI,n0])|((with_reducible refine oD ?_ ?_);kernel_rfl)|((with_reducible intro h);try simp only [go_sem,simprocAttr,hb,ht,cI,n0] at h)|omega|intro h)
  refine ⟨k+1,by omega, ?_,by omega⟩
  refine Le.of ?_ ?_<;>simp [go_sem,simprocAttr]
  ·omega
  ·rw [← xM (by omega),List.map_set,List.map_set]
   simp only [List.getD_eq_getElem?_getD]
 ·have hb:decide ((k:Int)<(l.length:Int) - 1 - (k:Int))=false:=decide_eq_false (by omega)
  repeat' (first|refine Rn.p ?_|(with_reducible apply And.intro)|((first|(refine hK _ ?_;clear hK K)|with_reducible intro K hK|refine Rs.p ?_|((with_reducible first|apply oP|apply oQ);exact rfl));try simp only [go_sem,simprocAttr,hb])|((with_reducible refine oD ?_ ?_);kernel_rfl)|((with_reducible intro h);try simp only [go_sem,simprocAttr,hb] at h)|omega|intro h)
  simp only [go_sem,simprocAttr,hb,Am hge]
def gn:List Int→Int
 | []=>0
 |a::r=>r.foldl min a
theorem An {l:List Int} {k:Nat} (h0:0<k) (h:k<l.length):gn (l.take (k+1))=min (gn (l.take k)) (l.getD k 0):=by
 cases l with
 |nil=>simp at h
 |cons a r=>
  obtain ⟨k,rfl⟩:∃j,k=j+1:=⟨k - 1,by omega⟩
  simp only [List.length_cons] at h
  simp only [List.take_succ_cons,gn,List.getD_cons_succ]
  rw [List.take_add_one,List.foldl_append,List.getElem?_eq_getElem (by omega),List.getD_eq_getElem?_getD,List.getElem?_eq_getElem (by omega)]
  rfl
theorem Cu {l:List Int} (h:0<l.length):gn (l.take 1)=l.getD 0 0:=by
 cases l with
 |nil=>simp at h
 |cons a r=>simp [gn]
theorem je (l:List Int) (h0:0<l.length) (hl:l.length≤1000000):Spec Tryz.prog 179 (Args [.d (sI l)]) [] (eN (gn l)) []:=by
 (refine Spec.hd (C:=T.cfg [] []) (rs:= [.t 2]) (T.ai _ _) Tryz.func179 rfl rfl Tryz.ntmps179 Tryz.results179 (by simp [AObj.isNest]) (by simp [AObj.isNest]) (by kernel_rfl) T.mixed fun X hX hP hC aG b9=> ?_)
 repeat' (first|refine Rn.p ?_|(with_reducible apply And.intro)|((first|(refine hK _ ?_;clear hK K)|with_reducible intro K hK|refine Rs.p ?_|((with_reducible first|apply oP|apply oQ);exact rfl));try simp only [go_sem,simprocAttr])|((with_reducible refine oD ?_ ?_);kernel_rfl)|((with_reducible intro h);try simp only [go_sem,simprocAttr] at h)|omega|intro h)
 refine ag (fun k:Nat=>0<k∧k≤l.length) (fun k=>⟨[(0, .d (sI l)),(3,eN (gn (l.take k))),(4,eN k)], []⟩) (fun k=>l.length - k) 1 (by omega) ?_ ?_
 ·refine Le.of ?_ ?_<;>simp [go_sem,simprocAttr,Cu h0]
 rintro k ⟨DE,hk⟩
 repeat' (first|refine Rn.p ?_|(with_reducible apply And.intro)|((first|(refine hK _ ?_;clear hK K)|with_reducible intro K hK|refine Rs.p ?_|((with_reducible first|apply oP|apply oQ);exact rfl));try simp only [go_sem,simprocAttr])|((with_reducible refine oD ?_ ?_);kernel_rfl)|((with_reducible intro h);try simp only [go_sem,simprocAttr] at h)|omega|intro h)
 ·refine ⟨k+1,by omega, ?_,by omega⟩
  refine Le.of ?_ ?_<;>simp [go_sem,simprocAttr]
  rw [An DE (by omega),List.getD_eq_getElem?_getD]
 ·rw [List.take_of_length_le (by omega)]
theorem eM (n:Int) (h0:0<n) (hl:n≤1000000):Spec Tryz.prog 116 (Args [.nil 3,eN n]) [] (.ref 10000) [(10000, .own 3 1 [])]:=by
 (refine Spec.HL (C:=T.cfg [] []) (rs:= [.t 4]) [(10000,25)] (T.ai _ _) Tryz.func116 rfl rfl Tryz.ntmps116 Tryz.results116 (by simp [AObj.isNest]) (by simp [AObj.isNest]) (by first|(simp [look];done)|(simp [asN];done)|(intro l hl;simp only [asN];repeat (rw [if_neg (fun e=>by subst e;simp [look] at hl)]))) (by first|(simp [look];done)|(simp [asN];done)|(intro l hl;simp only [asN];repeat (rw [if_neg (fun e=>by subst e;simp [look] at hl)]))) (by kernel_rfl) T.mixed fun X hX hP hC aG b9=> ?_)
 repeat' (first|refine Rn.p ?_|(with_reducible apply And.intro)|((first|(refine hK _ ?_;clear hK K)|with_reducible intro K hK|refine Rs.p ?_|((with_reducible first|apply oP|apply oQ);exact rfl));try simp only [go_sem,simprocAttr])|((with_reducible refine oD ?_ ?_);kernel_rfl)|((with_reducible intro h);try simp only [go_sem,simprocAttr] at h)|omega|intro h)
end Go.Ab
end
section
namespace Go.Ab
open Go.Proofs
attribute [local congr] ACall.congr gd.congr Nx.congr
set_option maxRecDepth 10000
def vL (ls:List (List Int)):List (List D):=ls.map fun l=> [sI l]
theorem vL_length {ls:List (List Int)} :(vL ls).length=ls.length:=by simp [vL]
theorem tY {ls:List (List Int)} {k:Nat} (h:k<ls.length) (d:List D):(vL ls).getD k d= [sI (ls.getD k [])]:=by
 simp [vL,List.getD_eq_getElem?_getD,List.getElem?_eq_getElem h]
attribute [go_sem] vL_length
theorem sV {ls:List (List Int)} {k:Nat} (h:k<ls.length):(ls.take (k+1)).flatten=(ls.take k).flatten++ls.getD k []:=by
 rw [List.take_add_one,List.flatten_append,List.getElem?_eq_getElem h,List.getD_eq_getElem?_getD,List.getElem?_eq_getElem h]
 simp
theorem pU {ls:List (List Int)} {k:Nat} :(ls.take k).flatten.length≤ls.flatten.length:=by
 have:=congrArg (fun x=>x.flatten.length) (List.take_append_drop k ls)
 simp only [List.flatten_append,List.length_append] at this
 omega
theorem eO (ls:List (List Int)) (hn:ls.length≤1000) (h0:0<ls.flatten.length) (hl:ls.flatten.length≤1000000):Spec Tryz.prog 72 (Args [.d (.sl 1 (vL ls))]) [] (.d (sI ls.flatten)) []:=by
 (refine Spec.hd (C:=T.cfg [] []) (rs:= [.t 2]) (T.ai _ _) Tryz.func72 rfl rfl Tryz.ntmps72 Tryz.results72 (by simp [AObj.isNest]) (by simp [AObj.isNest]) (by kernel_rfl) T.mixed fun X hX hP hC aG b9=> ?_)
 repeat' (first|refine Rn.p ?_|(with_reducible apply And.intro)|((first|(refine hK _ ?_;clear hK K)|with_reducible intro K hK|refine Rs.p ?_|((with_reducible first|apply oP|apply oQ);exact rfl)|(refine bN hX hC hP [(10000,33)] (eM (ls.flatten.length:Int) (by omega) (by omega)) rfl rfl rfl ?_ ?_ ?_ ?_ ?_ ?_ ?_ ?_ ?_ ?_ ?_ ?_ ?_ ?_;(focus (simp only [go_sem,simprocAttr];done));(iterate 12 (focus (simp [go_sem,simprocAttr];done)));try simp only [List.map_cons,List.map_nil]));try simp only [go_sem,simprocAttr])|((with_reducible refine oD ?_ ?_);kernel_rfl)|((with_reducible intro h);try simp only [go_sem,simprocAttr] at h)|omega|intro h)
 refine ag (fun k:Nat=>k≤ls.length) (fun k=>⟨[(0, .d (.sl 1 (vL ls))),(9, .d (.sl 1 (vL ls))),(10,eN ls.length),(11,eN k),(3,eN ((ls.take k).flatten.length))], []⟩) (fun k=>ls.length - k) 0 (by omega) ?_ ?_
 ·(refine Le.of ?_ ?_<;>simp [go_sem,simprocAttr])
 ·rintro k hk
  rcases Nat.lt_or_ge k ls.length with hlt|hge
  ·have hb:decide ((k:Int)<(ls.length:Int))=true:=decide_eq_true (by omega)
   have hv:=tY hlt
   have hf:=sV hlt
   have Ns:=pU (ls:=ls) (k:=k)
   have FZ:=pU (ls:=ls) (k:=k+1)
   rw [hf,List.length_append] at FZ
   have hneg:decide (((ls.take k).flatten.length:Int)+((ls.getD k []).length:Int)<0)=false:=decide_eq_false (by omega)
   repeat' (first|refine Rn.p ?_|(with_reducible apply And.intro)|((first|(refine hK _ ?_;clear hK K)|with_reducible intro K hK|refine Rs.p ?_|((with_reducible first|apply oP|apply oQ);exact rfl)|(refine bN hX hC hP [(10000,33)] (eM (ls.flatten.length:Int) (by omega) (by omega)) rfl rfl rfl ?_ ?_ ?_ ?_ ?_ ?_ ?_ ?_ ?_ ?_ ?_ ?_ ?_ ?_;(focus (simp only [go_sem,simprocAttr,hb,hv,hneg];done));(iterate 12 (focus (simp [go_sem,simprocAttr,hb,hv,hneg];done)));try simp only [List.map_cons,List.map_nil]));try simp only [go_sem,simprocAttr,hb,hv,hneg])|((with_reducible refine oD ?_ ?_);kernel_rfl)|((with_reducible intro h);try simp only [go_sem,simprocAttr,hb,hv,hneg] at h)|omega|intro h)
   refine ⟨k+1,by omega, ?_,by omega⟩
   simp only [hf]
   refine Le.of ?_ ?_<;>simp [go_sem,simprocAttr,hb,hv,hneg]
  ·have hb:decide ((k:Int)<(ls.length:Int))=false:=decide_eq_false (by omega)
   have ht:ls.take k=ls:=List.take_of_length_le (by omega)
   repeat' (first|refine Rn.p ?_|(with_reducible apply And.intro)|((first|(refine hK _ ?_;clear hK K)|with_reducible intro K hK|refine Rs.p ?_|((with_reducible first|apply oP|apply oQ);exact rfl)|(refine bN hX hC hP [(10000,33)] (eM (ls.flatten.length:Int) (by omega) (by omega)) rfl rfl rfl ?_ ?_ ?_ ?_ ?_ ?_ ?_ ?_ ?_ ?_ ?_ ?_ ?_ ?_;(focus (simp only [go_sem,simprocAttr,hb,ht];done));(iterate 12 (focus (simp [go_sem,simprocAttr,hb,ht];done)));try simp only [List.map_cons,List.map_nil]));try simp only [go_sem,simprocAttr,hb,ht])|((with_reducible refine oD ?_ ?_);kernel_rfl)|((with_reducible intro h);try simp only [go_sem,simprocAttr,hb,ht] at h)|omega|intro h)
   refine ag (fun k:Nat=>k≤ls.length) (fun k=>⟨[(25, .d (.sl 1 (vL ls))),(26,eN ls.length),(27,eN k),(6, .ref 33)], [(33, .own 3 1 ((ls.take k).flatten.map rI))]⟩) (fun k=>ls.length - k) 0 (by omega) ?_ ?_
   ·(refine Le.of ?_ ?_<;>simp [go_sem,simprocAttr,hb,ht])
   ·clear hb ht hk hge
    rintro k hk
    rcases Nat.lt_or_ge k ls.length with hlt|hge
    ·have hb:decide ((k:Int)<(ls.length:Int))=true:=decide_eq_true (by omega)
     have hv:=tY hlt
     have hf:=sV hlt
     have Ns:=pU (ls:=ls) (k:=k)
     have FZ:=pU (ls:=ls) (k:=k+1)
     rw [hf,List.length_append] at FZ
     repeat' (first|refine Rn.p ?_|(with_reducible apply And.intro)|((first|(refine hK _ ?_;clear hK K)|with_reducible intro K hK|refine Rs.p ?_|((with_reducible first|apply oP|apply oQ);exact rfl)|(refine bN hX hC hP [(10000,33)] (eM (ls.flatten.length:Int) (by omega) (by omega)) rfl rfl rfl ?_ ?_ ?_ ?_ ?_ ?_ ?_ ?_ ?_ ?_ ?_ ?_ ?_ ?_;(focus (simp only [go_sem,simprocAttr,hb,hv];done));(iterate 12 (focus (simp [go_sem,simprocAttr,hb,hv];done)));try simp only [List.map_cons,List.map_nil]));try simp only [go_sem,simprocAttr,hb,hv])|((with_reducible refine oD ?_ ?_);kernel_rfl)|((with_reducible intro h);try simp only [go_sem,simprocAttr,hb,hv] at h)|omega|intro h)
     refine ⟨k+1,by omega, ?_,by omega⟩
     simp only [hf]
     refine Le.of ?_ ?_<;>simp [go_sem,simprocAttr,hb,hv]
    ·have hb:decide ((k:Int)<(ls.length:Int))=false:=decide_eq_false (by omega)
     have ht:ls.take k=ls:=List.take_of_length_le (by omega)
     repeat' (first|refine Rn.p ?_|(with_reducible apply And.intro)|((first|(refine hK _ ?_;clear hK K)|with_reducible intro K hK|refine Rs.p ?_|((with_reducible first|apply oP|apply oQ);exact rfl)|(refine bN hX hC hP [(10000,33)] (eM (ls.flatten.length:Int) (by omega) (by omega)) rfl rfl rfl ?_ ?_ ?_ ?_ ?_ ?_ ?_ ?_ ?_ ?_ ?_ ?_ ?_ ?_;(focus (simp only [go_sem,simprocAttr,hb,ht];done));(iterate 12 (focus (simp [go_sem,simprocAttr,hb,ht];done)));try simp only [List.map_cons,List.map_nil]));try simp only [go_sem,simprocAttr,hb,ht])|((with_reducible refine oD ?_ ?_);kernel_rfl)|((with_reducible intro h);try simp only [go_sem,simprocAttr,hb,ht] at h)|omega|intro h)
def iB (ls:List (List Int)) (k:Nat):List Int:=((List.range k).filter fun x=>decide ((ls.getD x []).length=0)).map Int.ofNat
theorem mB {ls:List (List Int)} {k:Nat} :iB ls (k+1)=iB ls k++if (ls.getD k []).length=0 then [(k:Int)] else []:=by
 simp only [iB,List.range_succ,List.filter_append,List.map_append,List.filter_cons,List.filter_nil]
 split<;>simp_all
theorem sW {ls:List (List Int)} {k:Nat} :(iB ls k).length≤k:=by
 simpa [iB] using List.length_filter_le (fun x=>decide ((ls.getD x []).length=0)) (List.range k)
theorem Ao (ls:List (List Int)) (hn:ls.length≤1000):Spec Tryz.prog 115 (Args [.d (.sl 1 (vL ls))]) [] (.d (sI (iB ls ls.length))) []:=by
 (refine Spec.hd (C:=T.cfg [] []) (rs:= [.t 2]) (T.ai _ _) Tryz.func115 rfl rfl Tryz.ntmps115 Tryz.results115 (by simp [AObj.isNest]) (by simp [AObj.isNest]) (by kernel_rfl) T.mixed fun X hX hP hC aG b9=> ?_)
 repeat' (first|refine Rn.p ?_|(with_reducible apply And.intro)|((first|(refine hK _ ?_;clear hK K)|with_reducible intro K hK|refine Rs.p ?_|((with_reducible first|apply oP|apply oQ);exact rfl)|(refine bN hX hC hP [(10000,33)] (eM (ls.flatten.length:Int) (by omega) (by omega)) rfl rfl rfl ?_ ?_ ?_ ?_ ?_ ?_ ?_ ?_ ?_ ?_ ?_ ?_ ?_ ?_;(focus (simp only [go_sem,simprocAttr];done));(iterate 12 (focus (simp [go_sem,simprocAttr];done)));try simp only [List.map_cons,List.map_nil]));try simp only [go_sem,simprocAttr])|((with_reducible refine oD ?_ ?_);kernel_rfl)|((with_reducible intro h);try simp only [go_sem,simprocAttr] at h)|omega|intro h)
 (refine jO hX 2 18 (.tip 3 1 []) (by simp only [go_sem,simprocAttr]) (by simp only [go_sem,simprocAttr]) (by decide) ⟨3,1,by decide, .inr rfl⟩ ?_;simp only [go_sem,simprocAttr])
 refine ag (fun k:Nat=>k≤ls.length) (fun k=>⟨[(5, .d (.sl 1 (vL ls))),(6,eN ls.length),(7,eN k),(2, .ref 18)], [(18, .tip 3 1 ((iB ls k).map rI))]⟩) (fun k=>ls.length - k) 0 (by omega) ?_ ?_
 ·refine Le.of ?_ ?_<;>simp [go_sem,simprocAttr,iB]
 ·rintro k hk
  rcases Nat.lt_or_ge k ls.length with hlt|hge
  ·have hb:decide ((k:Int)<(ls.length:Int))=true:=decide_eq_true (by omega)
   have hv:=tY hlt
   have hlen:=sW (ls:=ls) (k:=k)
   repeat' (first|refine Rn.p ?_|(with_reducible apply And.intro)|((first|(refine hK _ ?_;clear hK K)|with_reducible intro K hK|refine Rs.p ?_|((with_reducible first|apply oP|apply oQ);exact rfl)|(refine bN hX hC hP [(10000,33)] (eM (ls.flatten.length:Int) (by omega) (by omega)) rfl rfl rfl ?_ ?_ ?_ ?_ ?_ ?_ ?_ ?_ ?_ ?_ ?_ ?_ ?_ ?_;(focus (simp only [go_sem,simprocAttr,hb,hv];done));(iterate 12 (focus (simp [go_sem,simprocAttr,hb,hv];done)));try simp only [List.map_cons,List.map_nil]));try simp only [go_sem,simprocAttr,hb,hv])|((with_reducible refine oD ?_ ?_);kernel_rfl)|((with_reducible intro h);try simp only [go_sem,simprocAttr,hb,hv] at h)|omega|intro h)
   ·refine ⟨k+1,by omega, ?_,by omega⟩
    rw [mB,if_pos (by omega)]
    refine Le.of ?_ ?_<;>simp [go_sem,simprocAttr,hb,hv]
    rfl
   ·refine ⟨k+1,by omega, ?_,by omega⟩
    rw [mB,if_neg (by omega),List.append_nil]
    refine Le.of ?_ ?_<;>simp [go_sem,simprocAttr,hb,hv]
  ·have hb:decide ((k:Int)<(ls.length:Int))=false:=decide_eq_false (by omega)
   obtain rfl:k=ls.length:=by omega
   repeat' (first|refine Rn.p ?_|(with_reducible apply And.intro)|((first|(refine hK _ ?_;clear hK K)|with_reducible intro K hK|refine Rs.p ?_|((with_reducible first|apply oP|apply oQ);exact rfl)|(refine bN hX hC hP [(10000,33)] (eM (ls.flatten.length:Int) (by omega) (by omega)) rfl rfl rfl ?_ ?_ ?_ ?_ ?_ ?_ ?_ ?_ ?_ ?_ ?_ ?_ ?_ ?_;(focus (simp only [go_sem,simprocAttr,hb];done));(iterate 12 (focus (simp [go_sem,simprocAttr,hb];done)));try simp only [List.map_cons,List.map_nil]));try simp only [go_sem,simprocAttr,hb])|((with_reducible refine oD ?_ ?_);kernel_rfl)|((with_reducible intro h);try simp only [go_sem,simprocAttr,hb] at h)|omega|intro h)
theorem F0 {f:Edge→Int} {g:Gr} :Eh f g=vL (dH f g):=rfl
theorem nt {f:Edge→Int} {g:Gr} :(dH f g).length=g.n.toNat:=by simp [dH]
def c9 (f:Edge→Int) (g:Gr):List Int:=iB (dH f g) g.n.toNat
theorem e8 (g:Gr) (hm:aV g=true):Spec Tryz.prog 68 (Args [.d (vw g)]) [] (.d (sI (c9 (·.2) g))) []:=by
 rw [eZ]
 have hn:=bL hm
 have hle:(dH (·.2) g).length≤1000:=by rw [nt];omega
 (refine Spec.hd (C:=T.cfg [] []) (rs:= [.t 2]) (T.ai _ _) Tryz.func68 rfl rfl Tryz.ntmps68 Tryz.results68 (by simp [AObj.isNest]) (by simp [AObj.isNest]) (by kernel_rfl) T.mixed fun X hX hP hC aG b9=> ?_)
 repeat' (first|refine Rn.p ?_|(with_reducible apply And.intro)|((first|(refine hK _ ?_;clear hK K)|with_reducible intro K hK|refine Rs.p ?_|((with_reducible first|apply oP|apply oQ);exact rfl)|(rw [F0];refine aa hX hC hP (Ao (dH (·.2) g) hle) rfl rfl rfl (by simp only [go_sem,simprocAttr]) rfl ?_));try simp only [go_sem,simprocAttr])|((with_reducible refine oD ?_ ?_);kernel_rfl)|((with_reducible intro h);try simp only [go_sem,simprocAttr] at h)|omega|intro h)
 rw [nt];rfl
end Go.Ab
end
section
namespace Go.Ab
open Go.Proofs
attribute [local congr] ACall.congr gd.congr Nx.congr
set_option maxRecDepth 10000
def eR (g:Gr) (ws:List Int) (b:Int) (e:Int):Int:=if 0<ws.getD (tl g e.toNat).toNat 0∧(b<0∨tl g e.toNat<b) then tl g e.toNat else b
theorem Cv (g:Gr) (ws:List Int) (b:Int) (i:Nat):eR g ws b (i:Int)=if 0<ws.getD (g.es.getD i (0,0)).1.toNat 0∧(b<0∨(g.es.getD i (0,0)).1<b) then (g.es.getD i (0,0)).1 else b:=rfl
def sX (g:Gr) (ws:List Int) (es:List Int):Int:=es.foldl (eR g ws) (-1)
def iC (g:Gr) (ws:List Int) (at_:Int):Int:=sX g ws (kJ g at_.toNat)
def jR (g:Gr) (ws:List Int):Nat→List Int→Int→List Int × Int
 |0,way,at_=>(way,at_)
 |f+1,way,at_=>if at_<0∨at_∈way then (way,at_) else jR g ws f (way++ [at_]) (iC g ws at_)
def jf (g:Gr):List Int × Int:=jR g (cw g (aI g)) g.n.toNat [] (bG (fun n=>decide (0<n)) (cw g (aI g)))
def j9 (l:List Int):List Int:=l.drop (eY l (gn l)).toNat++l.take (eY l (gn l)).toNat
def jg (g:Gr):List Int:=if (jf g).2<0 then [] else j9 ((jf g).1.drop (eY (jf g).1 (jf g).2).toNat).reverse
theorem gA (n:Int):Spec Tryz.prog 178 (Args [eN n]) [] (eB (decide (0<n))) []:=by
 (refine Spec.hd (C:=T.cfg [] []) (rs:= [.t 2]) (T.ai _ _) Tryz.func178 rfl rfl Tryz.ntmps178 Tryz.results178 (by simp [AObj.isNest]) (by simp [AObj.isNest]) (by kernel_rfl) T.mixed fun X hX hP hC aG b9=> ?_)
 repeat' (first|refine Rn.p ?_|(with_reducible apply And.intro)|((first|(refine hK _ ?_;clear hK K)|with_reducible intro K hK|refine Rs.p ?_|((with_reducible first|apply oP|apply oQ);exact rfl));try simp only [go_sem,simprocAttr])|((with_reducible refine oD ?_ ?_);kernel_rfl)|((with_reducible intro h);try simp only [go_sem,simprocAttr] at h)|omega|intro h)
structure Way (g:Gr) (way:List Int):Prop where
 lo:∀x∈way,0≤x∧x<g.n
 fuel:way.length+left g way=g.n.toNat
theorem nu {g:Gr} :left g []=g.n.toNat:=by
 have:=(dY.nil g).fuel
 rw [List.length_nil,Nat.zero_add] at this
 exact this
theorem gN {g:Gr} {way:List Int} {a:Nat} (ha:a<g.n.toNat) (hn:(a:Int)∉way):left g way=left g (way++ [(a:Int)])+1:=by
 unfold left
 rw [← kI (p:=fun y:Nat=> !decide ((y:Int)∈way)) (x:=a) (by simp [hn]) ha]
 congr 1
 refine List.countP_congr fun y _=> ?_
 simp;omega
theorem Way.nil (g:Gr):Way g []:=⟨by simp,by rw [nu];simp⟩
theorem Way.next {g:Gr} {way:List Int} {a:Nat} (h:Way g way) (ha:a<g.n.toNat) (hn:(a:Int)∉way):Way g (way++ [(a:Int)]):=by
 refine ⟨fun x hx=> ?_, ?_⟩
 ·rcases List.mem_append.1 hx with hx|hx
  ·exact h.lo x hx
  ·simp at hx;omega
 ·have h1:=h.fuel
  have h2:=gN ha hn
  rw [List.length_append,List.length_singleton];omega
theorem tZ {g:Gr} {x:Nat} {e:Int} (h:e∈kJ g x):∃i:Nat,e=i∧i<g.es.length∧hd g i=x:=by
 simp only [kJ,eL,List.mem_map,List.mem_filter,List.mem_range,decide_eq_true_eq] at h
 obtain ⟨i,⟨h1,h2⟩,rfl⟩:=h
 exact ⟨i,rfl,h1,h2⟩
theorem Ap {α β:Type} {f:β→α→β} {b:β} {l:List α} {j:Nat} {x:α} (h:l[j]? =some x):(l.take (j+1)).foldl f b=f ((l.take j).foldl f b) x:=by
 rw [List.take_add_one,List.foldl_append,h];rfl
theorem o8 {g:Gr} (hm:aV g=true) (ws:List Int):∀(l:List Int) (b:Int),(b= -1∨(0≤b∧b<g.n))→(∀e∈l,∃i:Nat,e=i∧i<g.es.length)→l.foldl (eR g ws) b= -1∨(0≤l.foldl (eR g ws) b∧l.foldl (eR g ws) b<g.n)
 | [],b,hb,_=>hb
 |e::l,b,hb,h=>by
  refine o8 hm ws l _ ?_ fun e he=>h e (List.mem_cons_of_mem _ he)
  obtain ⟨i,rfl,hi⟩:=h e List.mem_cons_self
  obtain ⟨⟨h1,h2⟩,_⟩:=dX hm hi
  unfold eR
  split
  ·exact .inr ⟨h1,h2⟩
  ·exact hb
theorem Cw {g:Gr} {x:Nat} :∀e∈kJ g x,∃i:Nat,e=i∧i<g.es.length:=fun e he=>by
 obtain ⟨i,h1,h2,_⟩:=tZ he;exact ⟨i,h1,h2⟩
theorem jh {g:Gr} {ws way:List Int} {a:Int} (h:a<0∨a∈way):∀f,jR g ws f way a=(way,a)
 |0=>rfl
 |f+1=>by simp only [jR];rw [if_pos h]
theorem dI {l:List Int} {x:Int} (h:x∈l):∃k:Nat,eY l x=k∧k<l.length∧l.getD k 0=x:=by
 rcases fA (f:=fun y:Int=>decide (x=y)) (l:=l) 0 with ⟨h1,h2⟩|⟨k,h1,h2,h3,_⟩
 ·exact absurd (h2 x h) (by simp)
 ·exact ⟨k,h1,h2,(of_decide_eq_true h3).symm⟩
theorem gO:∀ {l:List Int},0<l.length→gn l∈l
 |a::r,_=>by
  have:∀(r:List Int) (a:Int),r.foldl min a=a∨r.foldl min a∈r:=by
   intro r
   induction r with
   |nil=>intro a;exact .inl rfl
   |cons b r ih=>
    intro a
    simp only [List.foldl_cons]
    rcases ih (min a b) with h|h
    ·by_cases hab:a≤b
     ·left;rw [h];omega
     ·right;rw [h];simp;omega
    ·right;simp [h]
  rcases this r a with h|h
  ·simp [gn,h]
  ·simp [gn,h]
theorem gP (g:Gr) (hm:aV g=true):Spec Tryz.prog 133 (Args [.d (vw g)]) [] (.d (sI (jg g))) []:=by
 have hn:=bL hm
 have yY:(cw g (aI g)).length≤9223372036854775807:=by rw [wts_length];omega
 (refine Spec.hd (C:=T.cfg [30] []) (rs:= [.t 2]) (T.ai _ _) Tryz.func133 rfl rfl Tryz.ntmps133 Tryz.results133 (by simp [AObj.isNest]) (by simp [AObj.isNest]) (by kernel_rfl) T.mixed fun X hX hP hC aG b9=> ?_)
 repeat' (first|refine Rn.p ?_|(with_reducible apply And.intro)|((first|(refine hK _ ?_;clear hK K)|with_reducible intro K hK|refine Rs.p ?_|((with_reducible first|apply oP|apply oQ);exact rfl)|refine aa hX hC hP (jc g hm) rfl rfl rfl (by simp only [go_sem,simprocAttr]) rfl ?_|refine aa hX hC hP (cE aF.nil _ [] _ gA (cw g (aI g)) yY) rfl rfl rfl (by simp only [go_sem,simprocAttr]) rfl ?_|(refine ah hX hC hP (c8 way a bR) rfl rfl rfl ?_ ?_ ?_ ?_;iterate 3 (focus (simp only [go_sem,simprocAttr];done)))|(refine ah hX hC hP (aO way a bR) rfl rfl rfl ?_ ?_ ?_ ?_;iterate 3 (focus (simp only [go_sem,simprocAttr];done)))|(refine bN hX hC hP [(10000,75)] (dQ (way.drop k) hlr) rfl rfl rfl ?_ ?_ ?_ ?_ ?_ ?_ ?_ ?_ ?_ ?_ ?_ ?_ ?_ ?_;(focus (simp only [go_sem,simprocAttr];done));(iterate 12 (focus (simp [go_sem,simprocAttr];done)));try simp only [List.map_cons,List.map_nil])|(refine ah hX hC hP (je rev qI hrev) rfl rfl rfl ?_ ?_ ?_ ?_;iterate 3 (focus (simp only [go_sem,simprocAttr];done)))|(refine ah hX hC hP (aO rev (gn rev) sY) rfl rfl rfl ?_ ?_ ?_ ?_;iterate 3 (focus (simp only [go_sem,simprocAttr];done)))|(refine ak hX hC hP (eO [rev.drop k2,rev.take k2] hc1 GQ GR) rfl rfl rfl ?_ ?_ rfl ?_;iterate 2 (focus (simp only [go_sem,simprocAttr];done))));try simp only [go_sem,simprocAttr])|((with_reducible refine oD ?_ ?_);kernel_rfl)|((with_reducible intro h);try simp only [go_sem,simprocAttr] at h)|omega|intro h)
 (refine jO hX 6 30 (.own 3 1 []) (by simp only [go_sem,simprocAttr]) (by simp only [go_sem,simprocAttr]) (by decide) ⟨3,1,by decide, .inl rfl⟩ ?_;simp only [go_sem,simprocAttr])
 refine ag (fun i:List Int × Int=>Way g i.1∧(i.2= -1∨(0≤i.2∧i.2<g.n))∧jR g (cw g (aI g)) (left g i.1) i.1 i.2=jf g) (fun i=>⟨[(0, .d (vw g)),(4, .d (sI (cw g (aI g)))),(5,eN i.2),(6, .ref 30)], [(30, .own 3 1 (i.1.map rI))]⟩) (fun i=>left g i.1) ([],bG (fun n=>decide (0<n)) (cw g (aI g))) ⟨Way.nil g, ?_, ?_⟩ ?_ ?_
 ·rcases vJ (fun n:Int=>decide (0<n)) (cw g (aI g)) with h|h
  ·exact .inl h
  ·rw [wts_length] at h;exact .inr (by simp only;omega)
 ·rw [nu];rfl
 ·(refine Le.of ?_ ?_<;>simp [go_sem,simprocAttr])
 rintro ⟨way,at_⟩ ⟨vQ,KY,hrun⟩
 simp only at vQ KY hrun ⊢
 have Nt:way.length≤64:=by have:=vQ.fuel;omega
 have bR:way.length≤9223372036854775807:=by omega
 by_cases h0:at_<0
 ·have bC:decide (0≤at_)=false:=decide_eq_false (by omega)
  have ez:decide (at_<0)=true:=decide_eq_true h0
  have he:jg g= []:=by
   have:=jh (g:=g) (ws:=cw g (aI g)) (way:=way) (.inl h0) (left g way)
   rw [hrun] at this
   simp only [jg,this];rw [if_pos h0]
  repeat' (first|refine Rn.p ?_|(with_reducible apply And.intro)|((first|(refine hK _ ?_;clear hK K)|with_reducible intro K hK|refine Rs.p ?_|((with_reducible first|apply oP|apply oQ);exact rfl)|refine aa hX hC hP (jc g hm) rfl rfl rfl (by simp only [go_sem,simprocAttr,bC,ez]) rfl ?_|refine aa hX hC hP (cE aF.nil _ [] _ gA (cw g (aI g)) yY) rfl rfl rfl (by simp only [go_sem,simprocAttr,bC,ez]) rfl ?_|(refine ah hX hC hP (c8 way a bR) rfl rfl rfl ?_ ?_ ?_ ?_;iterate 3 (focus (simp only [go_sem,simprocAttr,bC,ez];done)))|(refine ah hX hC hP (aO way a bR) rfl rfl rfl ?_ ?_ ?_ ?_;iterate 3 (focus (simp only [go_sem,simprocAttr,bC,ez];done)))|(refine bN hX hC hP [(10000,75)] (dQ (way.drop k) hlr) rfl rfl rfl ?_ ?_ ?_ ?_ ?_ ?_ ?_ ?_ ?_ ?_ ?_ ?_ ?_ ?_;(focus (simp only [go_sem,simprocAttr,bC,ez];done));(iterate 12 (focus (simp [go_sem,simprocAttr,bC,ez];done)));try simp only [List.map_cons,List.map_nil])|(refine ah hX hC hP (je rev qI hrev) rfl rfl rfl ?_ ?_ ?_ ?_;iterate 3 (focus (simp only [go_sem,simprocAttr,bC,ez];done)))|(refine ah hX hC hP (aO rev (gn rev) sY) rfl rfl rfl ?_ ?_ ?_ ?_;iterate 3 (focus (simp only [go_sem,simprocAttr,bC,ez];done)))|(refine ak hX hC hP (eO [rev.drop k2,rev.take k2] hc1 GQ GR) rfl rfl rfl ?_ ?_ rfl ?_;iterate 2 (focus (simp only [go_sem,simprocAttr,bC,ez];done))));try simp only [go_sem,simprocAttr,bC,ez])|((with_reducible refine oD ?_ ?_);kernel_rfl)|((with_reducible intro h);try simp only [go_sem,simprocAttr,bC,ez] at h)|omega|intro h)
  rw [he];rfl
 obtain ⟨a,rfl⟩:∃a:Nat,at_=a:=⟨at_.toNat,by omega⟩
 have E4:a<g.n.toNat:=by omega
 have bC:decide (0≤(a:Int))=true:=decide_eq_true (by omega)
 by_cases hmem:(a:Int)∈way
 ·have bn:decide ((a:Int)∈way)=true:=decide_eq_true hmem
  have ez:decide ((a:Int)<0)=false:=decide_eq_false h0
  have hend:=jh (g:=g) (ws:=cw g (aI g)) (.inr hmem) (left g way)
  rw [hrun] at hend
  obtain ⟨k,hk,b8,_⟩:=dI hmem
  obtain ⟨rev,iD⟩:∃rev,rev=(way.drop k).reverse:=⟨_,rfl⟩
  have hrl:rev.length=way.length - k:=by rw [iD];simp
  have qI:0<rev.length:=by omega
  have hrev:rev.length≤1000000:=by omega
  have sY:rev.length≤9223372036854775807:=by omega
  have hlr:(way.drop k).length≤1000000:=by simp;omega
  obtain ⟨k2,hk2,Nu,_⟩:=dI (gO qI)
  have hc1: [rev.drop k2,rev.take k2].length≤1000:=by simp
  have GQ:0< [rev.drop k2,rev.take k2].flatten.length:=by simp;omega
  have GR: [rev.drop k2,rev.take k2].flatten.length≤1000000:=by simp;omega
  have F1:jg g= [rev.drop k2,rev.take k2].flatten:=by
   simp only [jg,hend]
   rw [if_neg h0,hk]
   simp only [Int.toNat_natCast, ← iD,j9,hk2,List.flatten_cons,List.flatten_nil,List.append_nil]
  repeat' (first|(show cD _ (.seq (.region 20 _ _) _) _ _;(refine cH hX 75 rfl (.inr rfl) ?_;simp only [go_sem,simprocAttr,bC,bn,ez,hk,hk2, ← List.map_take, ← List.map_drop,List.take_length, ← iD,vL]))|refine Rn.p ?_|(with_reducible apply And.intro)|((first|(refine hK _ ?_;clear hK K)|with_reducible intro K hK|refine Rs.p ?_|((with_reducible first|apply oP|apply oQ);exact rfl)|refine aa hX hC hP (jc g hm) rfl rfl rfl (by simp only [go_sem,simprocAttr,bC,bn,ez,hk,hk2, ← List.map_take, ← List.map_drop,List.take_length, ← iD,vL]) rfl ?_|refine aa hX hC hP (cE aF.nil _ [] _ gA (cw g (aI g)) yY) rfl rfl rfl (by simp only [go_sem,simprocAttr,bC,bn,ez,hk,hk2, ← List.map_take, ← List.map_drop,List.take_length, ← iD,vL]) rfl ?_|(refine ah hX hC hP (c8 way a bR) rfl rfl rfl ?_ ?_ ?_ ?_;iterate 3 (focus (simp only [go_sem,simprocAttr,bC,bn,ez,hk,hk2, ← List.map_take, ← List.map_drop,List.take_length, ← iD,vL];done)))|(refine ah hX hC hP (aO way a bR) rfl rfl rfl ?_ ?_ ?_ ?_;iterate 3 (focus (simp only [go_sem,simprocAttr,bC,bn,ez,hk,hk2, ← List.map_take, ← List.map_drop,List.take_length, ← iD,vL];done)))|(refine bN hX hC hP [(10000,75)] (dQ (way.drop k) hlr) rfl rfl rfl ?_ ?_ ?_ ?_ ?_ ?_ ?_ ?_ ?_ ?_ ?_ ?_ ?_ ?_;(focus (simp only [go_sem,simprocAttr,bC,bn,ez,hk,hk2, ← List.map_take, ← List.map_drop,List.take_length, ← iD,vL];done));(iterate 12 (focus (simp [go_sem,simprocAttr,bC,bn,ez,hk,hk2, ← List.map_take, ← List.map_drop,List.take_length, ← iD,vL];done)));try simp only [List.map_cons,List.map_nil])|(refine ah hX hC hP (je rev qI hrev) rfl rfl rfl ?_ ?_ ?_ ?_;iterate 3 (focus (simp only [go_sem,simprocAttr,bC,bn,ez,hk,hk2, ← List.map_take, ← List.map_drop,List.take_length, ← iD,vL];done)))|(refine ah hX hC hP (aO rev (gn rev) sY) rfl rfl rfl ?_ ?_ ?_ ?_;iterate 3 (focus (simp only [go_sem,simprocAttr,bC,bn,ez,hk,hk2, ← List.map_take, ← List.map_drop,List.take_length, ← iD,vL];done)))|(refine ak hX hC hP (eO [rev.drop k2,rev.take k2] hc1 GQ GR) rfl rfl rfl ?_ ?_ rfl ?_;iterate 2 (focus (simp only [go_sem,simprocAttr,bC,bn,ez,hk,hk2, ← List.map_take, ← List.map_drop,List.take_length, ← iD,vL];done))));try simp only [go_sem,simprocAttr,bC,bn,ez,hk,hk2, ← List.map_take, ← List.map_drop,List.take_length, ← iD,vL])|((with_reducible refine oD ?_ ?_);kernel_rfl)|((with_reducible intro h);try simp only [go_sem,simprocAttr,bC,bn,ez,hk,hk2, ← List.map_take, ← List.map_drop,List.take_length, ← iD,vL] at h)|omega|intro h)
  rw [F1]
 ·have bn:decide ((a:Int)∈way)=false:=decide_eq_false hmem
  have hv:=nr (f:=(·.2)) E4
  have KX:(kJ g a).length≤g.es.length:=gy
  repeat' (first|refine Rn.p ?_|(with_reducible apply And.intro)|((first|(refine hK _ ?_;clear hK K)|with_reducible intro K hK|refine Rs.p ?_|((with_reducible first|apply oP|apply oQ);exact rfl)|refine aa hX hC hP (jc g hm) rfl rfl rfl (by simp only [go_sem,simprocAttr,bC,bn,hv,eZ]) rfl ?_|refine aa hX hC hP (cE aF.nil _ [] _ gA (cw g (aI g)) yY) rfl rfl rfl (by simp only [go_sem,simprocAttr,bC,bn,hv,eZ]) rfl ?_|(refine ah hX hC hP (c8 way a bR) rfl rfl rfl ?_ ?_ ?_ ?_;iterate 3 (focus (simp only [go_sem,simprocAttr,bC,bn,hv,eZ];done)))|(refine ah hX hC hP (aO way a bR) rfl rfl rfl ?_ ?_ ?_ ?_;iterate 3 (focus (simp only [go_sem,simprocAttr,bC,bn,hv,eZ];done)))|(refine bN hX hC hP [(10000,75)] (dQ (way.drop k) hlr) rfl rfl rfl ?_ ?_ ?_ ?_ ?_ ?_ ?_ ?_ ?_ ?_ ?_ ?_ ?_ ?_;(focus (simp only [go_sem,simprocAttr,bC,bn,hv,eZ];done));(iterate 12 (focus (simp [go_sem,simprocAttr,bC,bn,hv,eZ];done)));try simp only [List.map_cons,List.map_nil])|(refine ah hX hC hP (je rev qI hrev) rfl rfl rfl ?_ ?_ ?_ ?_;iterate 3 (focus (simp only [go_sem,simprocAttr,bC,bn,hv,eZ];done)))|(refine ah hX hC hP (aO rev (gn rev) sY) rfl rfl rfl ?_ ?_ ?_ ?_;iterate 3 (focus (simp only [go_sem,simprocAttr,bC,bn,hv,eZ];done)))|(refine ak hX hC hP (eO [rev.drop k2,rev.take k2] hc1 GQ GR) rfl rfl rfl ?_ ?_ rfl ?_;iterate 2 (focus (simp only [go_sem,simprocAttr,bC,bn,hv,eZ];done))));try simp only [go_sem,simprocAttr,bC,bn,hv,eZ])|((with_reducible refine oD ?_ ?_);kernel_rfl)|((with_reducible intro h);try simp only [go_sem,simprocAttr,bC,bn,hv,eZ] at h)|omega|intro h)
  refine ag (fun j:Nat=>j≤(kJ g a).length) (fun j=>⟨[(39,eN j),(38,eN (kJ g a).length),(37, .d (sI (kJ g a))),(7,eN (sX g (cw g (aI g)) ((kJ g a).take j))),(0, .d (GP g)),(4, .d (sI (cw g (aI g)))),(6, .ref 30)], [(30, .own 3 1 ((way++ [(a:Int)]).map rI))]⟩) (fun j=>(kJ g a).length - j) 0 (by simp) ?_ ?_
  ·refine Le.of ?_ ?_<;>simp [go_sem,simprocAttr,bC,bn,hv,eZ,kJ,rI,sX]
  rintro j hj
  rcases Nat.lt_or_ge j (kJ g a).length with hlt|hge
  ·have hb4:decide ((j:Int)<((kJ g a).length:Int))=true:=decide_eq_true (by omega)
   obtain ⟨i,hi,hil,hit⟩:=tZ (List.getElem_mem hlt)
   have hi1:(kJ g a)[j]? =some (i:Int):=by rw [List.getElem?_eq_getElem hlt,hi]
   have hi2:(kJ g a).getD j 0=(i:Int):=by rw [List.getD_eq_getElem?_getD,hi1];rfl
   obtain ⟨⟨Ct,rZ⟩,_⟩:=dX hm hil
   have hstep:sX g (cw g (aI g)) ((kJ g a).take (j+1))=eR g (cw g (aI g)) (sX g (cw g (aI g)) ((kJ g a).take j)) i:=Ap hi1
   rw [Cv] at hstep
   repeat' (first|refine Rn.p ?_|(with_reducible apply And.intro)|((first|(refine hK _ ?_;clear hK K)|with_reducible intro K hK|refine Rs.p ?_|((with_reducible first|apply oP|apply oQ);exact rfl)|refine aa hX hC hP (jc g hm) rfl rfl rfl (by simp only [go_sem,simprocAttr,hb4,hi2,wts_length]) rfl ?_|refine aa hX hC hP (cE aF.nil _ [] _ gA (cw g (aI g)) yY) rfl rfl rfl (by simp only [go_sem,simprocAttr,hb4,hi2,wts_length]) rfl ?_|(refine ah hX hC hP (c8 way a bR) rfl rfl rfl ?_ ?_ ?_ ?_;iterate 3 (focus (simp only [go_sem,simprocAttr,hb4,hi2,wts_length];done)))|(refine ah hX hC hP (aO way a bR) rfl rfl rfl ?_ ?_ ?_ ?_;iterate 3 (focus (simp only [go_sem,simprocAttr,hb4,hi2,wts_length];done)))|(refine bN hX hC hP [(10000,75)] (dQ (way.drop k) hlr) rfl rfl rfl ?_ ?_ ?_ ?_ ?_ ?_ ?_ ?_ ?_ ?_ ?_ ?_ ?_ ?_;(focus (simp only [go_sem,simprocAttr,hb4,hi2,wts_length];done));(iterate 12 (focus (simp [go_sem,simprocAttr,hb4,hi2,wts_length];done)));try simp only [List.map_cons,List.map_nil])|(refine ah hX hC hP (je rev qI hrev) rfl rfl rfl ?_ ?_ ?_ ?_;iterate 3 (focus (simp only [go_sem,simprocAttr,hb4,hi2,wts_length];done)))|(refine ah hX hC hP (aO rev (gn rev) sY) rfl rfl rfl ?_ ?_ ?_ ?_;iterate 3 (focus (simp only [go_sem,simprocAttr,hb4,hi2,wts_length];done)))|(refine ak hX hC hP (eO [rev.drop k2,rev.take k2] hc1 GQ GR) rfl rfl rfl ?_ ?_ rfl ?_;iterate 2 (focus (simp only [go_sem,simprocAttr,hb4,hi2,wts_length];done))));try simp only [go_sem,simprocAttr,hb4,hi2,wts_length])|((with_reducible refine oD ?_ ?_);kernel_rfl)|((with_reducible intro h);try simp only [go_sem,simprocAttr,hb4,hi2,wts_length] at h)|omega|intro h)
   all_goals (refine ⟨j+1,by omega, ?_,by omega⟩;first|rw [if_pos (by omega)] at hstep|rw [if_neg (by omega)] at hstep)
   all_goals (refine Le.of ?_ ?_<;>simp [go_sem,simprocAttr,hb4,hi2,wts_length,hstep])
  ·have hb4:decide ((j:Int)<((kJ g a).length:Int))=false:=decide_eq_false (by omega)
   have ht:(kJ g a).take j=kJ g a:=List.take_of_length_le (by omega)
   repeat' (first|refine Rn.p ?_|(with_reducible apply And.intro)|((first|(refine hK _ ?_;clear hK K)|with_reducible intro K hK|refine Rs.p ?_|((with_reducible first|apply oP|apply oQ);exact rfl)|refine aa hX hC hP (jc g hm) rfl rfl rfl (by simp only [go_sem,simprocAttr,hb4,ht]) rfl ?_|refine aa hX hC hP (cE aF.nil _ [] _ gA (cw g (aI g)) yY) rfl rfl rfl (by simp only [go_sem,simprocAttr,hb4,ht]) rfl ?_|(refine ah hX hC hP (c8 way a bR) rfl rfl rfl ?_ ?_ ?_ ?_;iterate 3 (focus (simp only [go_sem,simprocAttr,hb4,ht];done)))|(refine ah hX hC hP (aO way a bR) rfl rfl rfl ?_ ?_ ?_ ?_;iterate 3 (focus (simp only [go_sem,simprocAttr,hb4,ht];done)))|(refine bN hX hC hP [(10000,75)] (dQ (way.drop k) hlr) rfl rfl rfl ?_ ?_ ?_ ?_ ?_ ?_ ?_ ?_ ?_ ?_ ?_ ?_ ?_ ?_;(focus (simp only [go_sem,simprocAttr,hb4,ht];done));(iterate 12 (focus (simp [go_sem,simprocAttr,hb4,ht];done)));try simp only [List.map_cons,List.map_nil])|(refine ah hX hC hP (je rev qI hrev) rfl rfl rfl ?_ ?_ ?_ ?_;iterate 3 (focus (simp only [go_sem,simprocAttr,hb4,ht];done)))|(refine ah hX hC hP (aO rev (gn rev) sY) rfl rfl rfl ?_ ?_ ?_ ?_;iterate 3 (focus (simp only [go_sem,simprocAttr,hb4,ht];done)))|(refine ak hX hC hP (eO [rev.drop k2,rev.take k2] hc1 GQ GR) rfl rfl rfl ?_ ?_ rfl ?_;iterate 2 (focus (simp only [go_sem,simprocAttr,hb4,ht];done))));try simp only [go_sem,simprocAttr,hb4,ht])|((with_reducible refine oD ?_ ?_);kernel_rfl)|((with_reducible intro h);try simp only [go_sem,simprocAttr,hb4,ht] at h)|omega|intro h)
   refine ⟨(way++ [(a:Int)],iC g (cw g (aI g)) a),⟨vQ.next E4 hmem,o8 hm _ _ _ (.inl rfl) Cw, ?_⟩, ?_, ?_⟩
   ·simp only
    rw [← hrun,gN E4 hmem]
    simp only [jR]
    rw [if_neg (by intro h;rcases h with h|h;omega;exact hmem h)]
   ·refine Le.of ?_ ?_<;>simp [go_sem,simprocAttr,hb4,ht,iC]
   ·have:=gN E4 hmem;simp only;omega
end Go.Ab
end
section
namespace Go.Ab
open Go.Proofs
attribute [local congr] ACall.congr gd.congr Nx.congr
set_option maxRecDepth 10000
def eF (f:Int × Int × List Int):AV:= .agg [eN f.1,eN f.2.1, .d (sI f.2.2)]
attribute [go_sem] eF
def ji (g:Gr):Int:=bG (fun e:Edge=>decide (e.1=e.2)) g.es
def mC (g:Gr) (i:Nat):Bool:=decide (g.es.getD i (0,0)∈g.es.take i)
def eA (g:Gr):Int:=bG (mC g) (List.range g.es.length)
def gh (g:Gr) (Ma bare:List Int):Int × Int × List Int:=
 if aV g=false then (1,0, []) else
 if 0≤ji g then (13,ji g, []) else
 if 0≤eA g then (14,eA g, []) else
 if 0<Ma.length then (15,0,Ma) else
 if 1<bare.length then (16,0,bare.take 2) else (0,0, [])
def dR (g:Gr):Int × Int × List Int:=gh g (jg g) (c9 (·.2) g)
theorem jj (e:Edge):Spec Tryz.prog 131 (Args [eE e]) [] (eB (decide (e.1=e.2))) []:=by
 (refine Spec.hd (C:=T.cfg [] []) (rs:= [.t 2]) (T.ai _ _) Tryz.func131 rfl rfl Tryz.ntmps131 Tryz.results131 (by simp [AObj.isNest]) (by simp [AObj.isNest]) (by kernel_rfl) T.mixed fun X hX hP hC aG b9=> ?_)
 repeat' (first|refine Rn.p ?_|(with_reducible apply And.intro)|((first|(refine hK _ ?_;clear hK K)|with_reducible intro K hK|refine Rs.p ?_|((with_reducible first|apply oP|apply oQ);exact rfl));try simp only [go_sem,simprocAttr])|((with_reducible refine oD ?_ ?_);kernel_rfl)|((with_reducible intro h);try simp only [go_sem,simprocAttr] at h)|omega|intro h)
theorem bX {n k:Nat} (h:k<n) (d:Nat):(List.range n).getD k d=k:=by
 simp [List.getD_eq_getElem?_getD,List.getElem?_range h]
theorem mD (g:Gr) (hl:g.es.length≤1000):Spec Tryz.prog 88 (Args [eG g]) [] (eF (dR g)) []:=by
 have hl:g.es.length≤9223372036854775807:=by omega
 (refine Spec.hd (C:=T.cfg [] []) (rs:= [.c 2 66]) (T.ai _ _) Tryz.func88 rfl rfl Tryz.ntmps88 Tryz.results88 (by simp [AObj.isNest]) (by simp [AObj.isNest]) (by kernel_rfl) T.mixed fun X hX hP hC aG b9=> ?_)
 cases hm:aV g with
 |false=>
  repeat' (first|refine Rn.p ?_|(with_reducible apply And.intro)|((first|(refine hK _ ?_;clear hK K)|with_reducible intro K hK|refine Rs.p ?_|((with_reducible first|apply oP|apply oQ);exact rfl)|refine aa hX hC hP (fN g hl) rfl rfl rfl (by simp only [go_sem,simprocAttr,hm]) rfl ?_|refine aa hX hC hP (bE aF.nil _ [] _ jj g.es hl) rfl rfl rfl (by simp only [go_sem,simprocAttr,hm]) rfl ?_|refine aa hX hC hP (lE g hm) rfl rfl rfl (by simp only [go_sem,simprocAttr,hm]) rfl ?_|refine aa hX hC hP (gP g hm) rfl rfl rfl (by simp only [go_sem,simprocAttr,hm]) rfl ?_|refine aa hX hC hP (e8 g hm) rfl rfl rfl (by simp only [go_sem,simprocAttr,hm]) rfl ?_|refine aa hX hC hP (dG (g.es.take k) (g.es.getD k (0,0)) hlk) rfl rfl rfl (by simp only [go_sem,simprocAttr,hm]) rfl ?_);try simp only [go_sem,simprocAttr,hm])|((with_reducible refine oD ?_ ?_);kernel_rfl)|((with_reducible intro h);try simp only [go_sem,simprocAttr,hm] at h)|omega|intro h)
  all_goals simp [dR,gh,hm]
 |true=>
 have hn:=bL hm
 by_cases hlo:0≤ji g
 ·have bC:decide (0≤bG (fun p:Edge=>decide (p.1=p.2)) g.es)=true:=decide_eq_true hlo
  repeat' (first|refine Rn.p ?_|(with_reducible apply And.intro)|((first|(refine hK _ ?_;clear hK K)|with_reducible intro K hK|refine Rs.p ?_|((with_reducible first|apply oP|apply oQ);exact rfl)|refine aa hX hC hP (fN g hl) rfl rfl rfl (by simp only [go_sem,simprocAttr,hm,bC]) rfl ?_|refine aa hX hC hP (bE aF.nil _ [] _ jj g.es hl) rfl rfl rfl (by simp only [go_sem,simprocAttr,hm,bC]) rfl ?_|refine aa hX hC hP (lE g hm) rfl rfl rfl (by simp only [go_sem,simprocAttr,hm,bC]) rfl ?_|refine aa hX hC hP (gP g hm) rfl rfl rfl (by simp only [go_sem,simprocAttr,hm,bC]) rfl ?_|refine aa hX hC hP (e8 g hm) rfl rfl rfl (by simp only [go_sem,simprocAttr,hm,bC]) rfl ?_|refine aa hX hC hP (dG (g.es.take k) (g.es.getD k (0,0)) hlk) rfl rfl rfl (by simp only [go_sem,simprocAttr,hm,bC]) rfl ?_);try simp only [go_sem,simprocAttr,hm,bC])|((with_reducible refine oD ?_ ?_);kernel_rfl)|((with_reducible intro h);try simp only [go_sem,simprocAttr,hm,bC] at h)|omega|intro h)
  all_goals (
   have hc:dR g=(13,ji g, []):=by
    simp only [dR,gh];rw [if_neg (by simp [hm]),if_pos hlo]
   rw [hc]<;>rfl)
 have bC:decide (0≤bG (fun p:Edge=>decide (p.1=p.2)) g.es)=false:=decide_eq_false hlo
 repeat' (first|refine Rn.p ?_|(with_reducible apply And.intro)|((first|(refine hK _ ?_;clear hK K)|with_reducible intro K hK|refine Rs.p ?_|((with_reducible first|apply oP|apply oQ);exact rfl)|refine aa hX hC hP (fN g hl) rfl rfl rfl (by simp only [go_sem,simprocAttr,hm,bC]) rfl ?_|refine aa hX hC hP (bE aF.nil _ [] _ jj g.es hl) rfl rfl rfl (by simp only [go_sem,simprocAttr,hm,bC]) rfl ?_|refine aa hX hC hP (lE g hm) rfl rfl rfl (by simp only [go_sem,simprocAttr,hm,bC]) rfl ?_|refine aa hX hC hP (gP g hm) rfl rfl rfl (by simp only [go_sem,simprocAttr,hm,bC]) rfl ?_|refine aa hX hC hP (e8 g hm) rfl rfl rfl (by simp only [go_sem,simprocAttr,hm,bC]) rfl ?_|refine aa hX hC hP (dG (g.es.take k) (g.es.getD k (0,0)) hlk) rfl rfl rfl (by simp only [go_sem,simprocAttr,hm,bC]) rfl ?_);try simp only [go_sem,simprocAttr,hm,bC])|((with_reducible refine oD ?_ ?_);kernel_rfl)|((with_reducible intro h);try simp only [go_sem,simprocAttr,hm,bC] at h)|omega|intro h)
 refine ag (fun k:Nat=>k≤g.es.length∧∀j,j<k→mC g j=false) (fun k=>⟨[(23,eN k),(22,eN g.es.length),(21, .d (sE g.es)),(1, .ptr 1 0),(2, .ptr 2 0)], [(1, .box [eN g.n, .d (sE g.es)]),(2, .box [eN 0,eN 0, .nil 3])]⟩) (fun k=>g.es.length - k) 0 (by simp) ?_ ?_
 ·(refine Le.of ?_ ?_<;>simp [go_sem,simprocAttr,hm,bC])
 rintro k ⟨hk,F2⟩
 rcases Nat.lt_or_ge k g.es.length with hlt|hge
 ·have bn:decide ((k:Int)<(g.es.length:Int))=true:=decide_eq_true (by omega)
  have hlk:(g.es.take k).length≤9223372036854775807:=by rw [List.length_take];omega
  repeat' (first|refine Rn.p ?_|(with_reducible apply And.intro)|((first|(refine hK _ ?_;clear hK K)|with_reducible intro K hK|refine Rs.p ?_|((with_reducible first|apply oP|apply oQ);exact rfl)|refine aa hX hC hP (fN g hl) rfl rfl rfl (by simp only [go_sem,simprocAttr,hm,bC,bn, ← List.map_take]) rfl ?_|refine aa hX hC hP (bE aF.nil _ [] _ jj g.es hl) rfl rfl rfl (by simp only [go_sem,simprocAttr,hm,bC,bn, ← List.map_take]) rfl ?_|refine aa hX hC hP (lE g hm) rfl rfl rfl (by simp only [go_sem,simprocAttr,hm,bC,bn, ← List.map_take]) rfl ?_|refine aa hX hC hP (gP g hm) rfl rfl rfl (by simp only [go_sem,simprocAttr,hm,bC,bn, ← List.map_take]) rfl ?_|refine aa hX hC hP (e8 g hm) rfl rfl rfl (by simp only [go_sem,simprocAttr,hm,bC,bn, ← List.map_take]) rfl ?_|refine aa hX hC hP (dG (g.es.take k) (g.es.getD k (0,0)) hlk) rfl rfl rfl (by simp only [go_sem,simprocAttr,hm,bC,bn, ← List.map_take]) rfl ?_);try simp only [go_sem,simprocAttr,hm,bC,bn, ← List.map_take])|((with_reducible refine oD ?_ ?_);kernel_rfl)|((with_reducible intro h);try simp only [go_sem,simprocAttr,hm,bC,bn, ← List.map_take] at h)|omega|intro h)
  any_goals (
   have KZ:eA g=(k:Int):=bQ (d:=0) (by simpa using hlt) (fun j hj=>by rw [bX (by omega)];exact F2 j hj) (by rw [bX hlt];exact decide_eq_true h)
   have hc:dR g=(14,eA g, []):=by
    simp only [dR,gh];rw [if_neg (by simp [hm]),if_neg hlo,if_pos (by omega)]
   rw [hc]<;>first|rfl|exact KZ.symm)
  refine ⟨k+1,⟨by omega,fun j hj=> ?_⟩, ?_,by omega⟩
  ·by_cases hjk:j=k
   ·subst hjk;exact decide_eq_false h
   ·exact F2 j (by omega)
  ·(refine Le.of ?_ ?_<;>simp [go_sem,simprocAttr,hm,bC,bn, ← List.map_take])
 ·have bn:decide ((k:Int)<(g.es.length:Int))=false:=decide_eq_false (by omega)
  have Cx:¬0≤eA g:=by
   have:eA g= -1:=bq 0 fun j hj=>by
    rw [List.length_range] at hj
    rw [bX hj];exact F2 j (by omega)
   omega
  repeat' (first|refine Rn.p ?_|(with_reducible apply And.intro)|((first|(refine hK _ ?_;clear hK K)|with_reducible intro K hK|refine Rs.p ?_|((with_reducible first|apply oP|apply oQ);exact rfl)|refine aa hX hC hP (fN g hl) rfl rfl rfl (by simp only [go_sem,simprocAttr,hm,bC,bn]) rfl ?_|refine aa hX hC hP (bE aF.nil _ [] _ jj g.es hl) rfl rfl rfl (by simp only [go_sem,simprocAttr,hm,bC,bn]) rfl ?_|refine aa hX hC hP (lE g hm) rfl rfl rfl (by simp only [go_sem,simprocAttr,hm,bC,bn]) rfl ?_|refine aa hX hC hP (gP g hm) rfl rfl rfl (by simp only [go_sem,simprocAttr,hm,bC,bn]) rfl ?_|refine aa hX hC hP (e8 g hm) rfl rfl rfl (by simp only [go_sem,simprocAttr,hm,bC,bn]) rfl ?_|refine aa hX hC hP (dG (g.es.take k) (g.es.getD k (0,0)) hlk) rfl rfl rfl (by simp only [go_sem,simprocAttr,hm,bC,bn]) rfl ?_);try simp only [go_sem,simprocAttr,hm,bC,bn])|((with_reducible refine oD ?_ ?_);kernel_rfl)|((with_reducible intro h);try simp only [go_sem,simprocAttr,hm,bC,bn] at h)|omega|intro h)
  all_goals (
   have hc:dR g=if 0<(jg g).length then (15,0,jg g) else if 1<(c9 (·.2) g).length then (16,0,(c9 (·.2) g).take 2) else (0,0, []):=by
    simp only [dR,gh];rw [if_neg (by simp [hm]),if_neg hlo,if_neg Cx]
   first|rw [if_pos (by omega)] at hc|(rw [if_neg (by omega)] at hc;first|rw [if_pos (by omega)] at hc|rw [if_neg (by omega)] at hc)
   rw [hc]<;>first|rfl|simp only [List.map_take])
end Go.Ab
end
section
namespace Go.Ab
open Go.Proofs
attribute [local congr] ACall.congr gd.congr Nx.congr
set_option maxRecDepth 10000
theorem bh (ps:List Int) (x:Int) (hl:ps.length≤9223372036854775807):
 Spec Tryz.prog 192 (Args [.d (sI ps),eN x]) [] (eN (eY ps x)) []:=by
 (refine Spec.hd (C:=T.cfg [] []) (rs:= [.t 4]) (T.ai _ _) Tryz.func192 rfl rfl Tryz.ntmps192 Tryz.results192 (by simp [AObj.isNest]) (by simp [AObj.isNest]) (by kernel_rfl) T.mixed fun X hX hP hC aG b9=> ?_)
 repeat' (first|refine Rn.p ?_|(with_reducible apply And.intro)|((first|(refine hK _ ?_;clear hK K)|with_reducible intro K hK|refine Rs.p ?_|((with_reducible first|apply oP|apply oQ);exact rfl));try simp only [go_sem,simprocAttr])|((with_reducible refine oD ?_ ?_);kernel_rfl)|((with_reducible intro h);try simp only [go_sem,simprocAttr] at h)|omega|intro h)
 refine ag (fun k:Nat=>k≤ps.length∧∀j,j<k→decide (x=ps.getD j 0)=false) (fun k=>⟨[(0, .d (sI ps)),(1,eN x),(5,eN k)], []⟩) (fun k=>ps.length - k) 0 (by simp) ?_ ?_
 ·(refine ⟨bI ?_,fun _ _ h=>h⟩;simp [go_sem,simprocAttr])
 rintro k ⟨hk,hg⟩
 repeat' (first|refine Rn.p ?_|(with_reducible apply And.intro)|((first|(refine hK _ ?_;clear hK K)|with_reducible intro K hK|refine Rs.p ?_|((with_reducible first|apply oP|apply oQ);exact rfl));try simp only [go_sem,simprocAttr])|((with_reducible refine oD ?_ ?_);kernel_rfl)|((with_reducible intro h);try simp only [go_sem,simprocAttr] at h)|omega|intro h)
 ·exact (bQ (by omega) hg (by simpa using h.symm)).symm
 ·refine ⟨k+1,⟨by omega,fun j hj=> ?_⟩, ?_,by omega⟩
  ·by_cases hjk:j=k
   ·subst hjk;exact fun e=>h (Eq.symm e)
   ·simpa using hg j (by omega)
  ·(refine ⟨bI ?_,fun _ _ h=>h⟩;simp [go_sem,simprocAttr])
 ·exact (bq 0 fun j hj=>hg j (by omega)).symm
def aU (f:Edge→Int) (es:List Edge) (k:Nat) (x:Int):List Int:=((List.range k).filter fun i=>decide (f (es.getD i (0,0))=x)).map Int.ofNat
theorem nv (f:Edge→Int) (es:List Edge) (k x:Nat):eL f es k x=aU f es k (x:Int):=rfl
theorem gB {f:Edge→Int} {es:List Edge} {k:Nat} {x:Int} :(aU f es k x).length≤k:=by
 simpa [aU] using List.length_filter_le (fun i=>decide (f (es.getD i (0,0))=x)) (List.range k)
theorem mE {f:Edge→Int} {es:List Edge} {k:Nat} {x:Int} :aU f es (k+1) x=aU f es k x++if f (es.getD k (0,0))=x then [(k:Int)] else []:=by
 simp only [aU,List.range_succ,List.filter_append,List.map_append,List.filter_cons,List.filter_nil]
 split<;>simp_all
def lT (b:Bool) (e:Edge):Int:=if b then e.1 else e.2
theorem og (g:Gr) (x:Int) (b:Bool) (hl:g.es.length≤1000):Spec Tryz.prog 56 (Args [eG g,eN x,eB b]) [] (.d (sI (aU (lT b) g.es g.es.length x))) []:=by
 (refine Spec.hd (C:=T.cfg [] []) (rs:= [.t 6]) (T.ai _ _) Tryz.func56 rfl rfl Tryz.ntmps56 Tryz.results56 (by simp [AObj.isNest]) (by simp [AObj.isNest]) (by kernel_rfl) T.mixed fun X hX hP hC aG b9=> ?_)
 repeat' (first|refine Rn.p ?_|(with_reducible apply And.intro)|((first|(refine hK _ ?_;clear hK K)|with_reducible intro K hK|refine Rs.p ?_|((with_reducible first|apply oP|apply oQ);exact rfl));try simp only [go_sem,simprocAttr])|((with_reducible refine oD ?_ ?_);kernel_rfl)|((with_reducible intro h);try simp only [go_sem,simprocAttr] at h)|omega|intro h)
 (refine qD hX 7 9 45 (by simp only [go_sem,simprocAttr]) rfl (by first|exact .inl rfl|exact .inr rfl) (by decide) ?_;simp only [go_sem,simprocAttr])
 refine ag (fun k:Nat=>k≤g.es.length) (fun k=>⟨[(1,eN x),(2,eB b),(3, .ptr 3 0),(8,eN k),(7, .ref 45)], [(3, .box [eN g.n, .d (sE g.es)]),(45, .tip 3 1 ((aU (lT b) g.es k x).map rI))]⟩) (fun k=>g.es.length - k) 0 (by simp) ?_ ?_
 ·refine Le.of ?_ ?_<;>simp [go_sem,simprocAttr,aU]
 rintro k hk
 rcases Nat.lt_or_ge k g.es.length with hlt|hge
 ·have hb:decide ((k:Int)<(g.es.length:Int))=true:=decide_eq_true (by omega)
  have mL:=gB (f:=lT b) (es:=g.es) (k:=k) (x:=x)
  cases b
  ·have iE:aU (lT false) g.es (k+1) x=aU (lT false) g.es k x++if (g.es.getD k (0,0)).2=x then [(k:Int)] else []:=mE
   repeat' (first|refine Rn.p ?_|(with_reducible apply And.intro)|((first|(refine hK _ ?_;clear hK K)|with_reducible intro K hK|refine Rs.p ?_|((with_reducible first|apply oP|apply oQ);exact rfl));try simp only [go_sem,simprocAttr,hb])|((with_reducible refine oD ?_ ?_);kernel_rfl)|((with_reducible intro h);try simp only [go_sem,simprocAttr,hb] at h)|omega|intro h)
   all_goals (first|rw [if_pos (by assumption)] at iE|rw [if_neg (by assumption),List.append_nil] at iE)
   all_goals (refine ⟨k+1,by omega, ?_,by omega⟩;refine Le.of ?_ ?_<;>simp [go_sem,simprocAttr,hb,iE,rI])
  ·have iE:aU (lT true) g.es (k+1) x=aU (lT true) g.es k x++if (g.es.getD k (0,0)).1=x then [(k:Int)] else []:=mE
   repeat' (first|refine Rn.p ?_|(with_reducible apply And.intro)|((first|(refine hK _ ?_;clear hK K)|with_reducible intro K hK|refine Rs.p ?_|((with_reducible first|apply oP|apply oQ);exact rfl));try simp only [go_sem,simprocAttr,hb])|((with_reducible refine oD ?_ ?_);kernel_rfl)|((with_reducible intro h);try simp only [go_sem,simprocAttr,hb] at h)|omega|intro h)
   all_goals (first|rw [if_pos (by assumption)] at iE|rw [if_neg (by assumption),List.append_nil] at iE)
   all_goals (refine ⟨k+1,by omega, ?_,by omega⟩;refine Le.of ?_ ?_<;>simp [go_sem,simprocAttr,hb,iE,rI])
 ·have hb:decide ((k:Int)<(g.es.length:Int))=false:=decide_eq_false (by omega)
  obtain rfl:k=g.es.length:=by omega
  repeat' (first|refine Rn.p ?_|(with_reducible apply And.intro)|((first|(refine hK _ ?_;clear hK K)|with_reducible intro K hK|refine Rs.p ?_|((with_reducible first|apply oP|apply oQ);exact rfl));try simp only [go_sem,simprocAttr,hb])|((with_reducible refine oD ?_ ?_);kernel_rfl)|((with_reducible intro h);try simp only [go_sem,simprocAttr,hb] at h)|omega|intro h)
theorem cL (g:Gr) (b:Bool) (hl:g.es.length≤1000) (hn:0≤g.n∧g.n≤1000):Spec Tryz.prog 31 (Args [eG g,eB b]) [] (.d (sI (c9 (lT (!b)) g))) []:=by
 (refine Spec.hd (C:=T.cfg [] []) (rs:= [.t 4]) (T.ai _ _) Tryz.func31 rfl rfl Tryz.ntmps31 Tryz.results31 (by simp [AObj.isNest]) (by simp [AObj.isNest]) (by kernel_rfl) T.mixed fun X hX hP hC aG b9=> ?_)
 repeat' (first|refine Rn.p ?_|(with_reducible apply And.intro)|((first|(refine hK _ ?_;clear hK K)|with_reducible intro K hK|refine Rs.p ?_|((with_reducible first|apply oP|apply oQ);exact rfl)|refine aa hX hC hP (og g (k:Int) (!b) hl) rfl rfl rfl (by simp only [go_sem,simprocAttr]) rfl ?_);try simp only [go_sem,simprocAttr])|((with_reducible refine oD ?_ ?_);kernel_rfl)|((with_reducible intro h);try simp only [go_sem,simprocAttr] at h)|omega|intro h)
 (refine qD hX 5 7 24 (by simp only [go_sem,simprocAttr]) rfl (by first|exact .inl rfl|exact .inr rfl) (by decide) ?_;simp only [go_sem,simprocAttr])
 refine ag (fun k:Nat=>k≤g.n.toNat) (fun k=>⟨[(1,eB b),(2, .ptr 2 0),(6,eN k),(5, .ref 24)], [(2, .box [eN g.n, .d (sE g.es)]),(24, .tip 3 1 ((iB (dH (lT (!b)) g) k).map rI))]⟩) (fun k=>g.n.toNat - k) 0 (by simp) ?_ ?_
 ·refine Le.of ?_ ?_<;>simp [go_sem,simprocAttr,iB]
 rintro k hk
 rcases Nat.lt_or_ge k g.n.toNat with hlt|hge
 ·have hb:decide ((k:Int)<g.n)=true:=decide_eq_true (by omega)
  have mL:=sW (ls:=dH (lT (!b)) g) (k:=k)
  have he:(dH (lT (!b)) g).getD k []=aU (lT (!b)) g.es g.es.length (k:Int):=by
   simp [dH,List.getD_eq_getElem?_getD,List.getElem?_range hlt,nv]
  have iE:=mB (ls:=dH (lT (!b)) g) (k:=k)
  rw [he] at iE
  repeat' (first|refine Rn.p ?_|(with_reducible apply And.intro)|((first|(refine hK _ ?_;clear hK K)|with_reducible intro K hK|refine Rs.p ?_|((with_reducible first|apply oP|apply oQ);exact rfl)|refine aa hX hC hP (og g (k:Int) (!b) hl) rfl rfl rfl (by simp only [go_sem,simprocAttr,hb]) rfl ?_);try simp only [go_sem,simprocAttr,hb])|((with_reducible refine oD ?_ ?_);kernel_rfl)|((with_reducible intro h);try simp only [go_sem,simprocAttr,hb] at h)|omega|intro h)
  all_goals (first|rw [if_pos (by omega)] at iE|rw [if_neg (by omega),List.append_nil] at iE)
  all_goals (refine ⟨k+1,by omega, ?_,by omega⟩;refine Le.of ?_ ?_<;>simp [go_sem,simprocAttr,hb,iE,rI])
 ·have hb:decide ((k:Int)<g.n)=false:=decide_eq_false (by omega)
  obtain rfl:k=g.n.toNat:=by omega
  repeat' (first|refine Rn.p ?_|(with_reducible apply And.intro)|((first|(refine hK _ ?_;clear hK K)|with_reducible intro K hK|refine Rs.p ?_|((with_reducible first|apply oP|apply oQ);exact rfl)|refine aa hX hC hP (og g (k:Int) (!b) hl) rfl rfl rfl (by simp only [go_sem,simprocAttr,hb]) rfl ?_);try simp only [go_sem,simprocAttr,hb])|((with_reducible refine oD ?_ ?_);kernel_rfl)|((with_reducible intro h);try simp only [go_sem,simprocAttr,hb] at h)|omega|intro h)
  rfl
end Go.Ab
end
section
namespace Go.Ab
open Go.Proofs
attribute [local congr] ACall.congr gd.congr Nx.congr
set_option maxRecDepth 10000
def rB (b:Bool):List D:= [.sc (.bool b)]
def sB (l:List Bool):D:= .sl 1 (l.map rB)
theorem getD_rB (l:List Bool) (i:Nat):(l.map rB).getD i [.sc (.bool false)]= [.sc (.bool (l.getD i false))]:=by
 simp only [List.getD_eq_getElem?_getD,List.getElem?_map]
 cases l[i]? <;>rfl
attribute [go_sem] getD_rB sB
theorem fU (l:List Bool) (k:Nat) (v:Bool):(l.map rB).set k [.sc (.bool v)]=(l.set k v).map rB:=by
 rw [List.map_set];rfl
theorem sZ {α:Type} {n k:Nat} {f:Nat→α} {v:α} :((List.range n).map f).set k v=(List.range n).map fun y=>if y=k then v else f y:=by
 refine List.ext_getElem? fun i=> ?_
 rw [List.getElem?_set,List.length_map,List.length_range]
 by_cases hi:i<n
 ·rw [List.getElem?_map,List.getElem?_map,List.getElem?_range hi]
  by_cases h:k=i
  ·subst h;simp [hi]
  ·have:¬i=k:=fun e=>h e.symm
   simp [h,this]
 ·rw [List.getElem?_eq_none (by simp;omega),List.getElem?_eq_none (by simp;omega)]
  split
  ·rw [if_neg (by omega)]
  ·rfl
def kK (n k:Nat):List Bool:=(List.range n).map fun y=>decide (y<k)
def dZ (g:Gr) (l:List Bool) (j:Nat):List Bool:=(List.range g.n.toNat).map fun y:Nat=>(List.range j).any fun i=>decide (hd g i=(y:Int))&&(l.getD (tl g i).toNat false&&l.getD (hd g i).toNat false)
def eS (g:Gr):Nat→List Bool
 |0=>kK g.n.toNat g.n.toNat
 |k+1=>dZ g (eS g k) g.es.length
theorem trueK_length {n k:Nat} :(kK n k).length=n:=by simp [kK]
theorem nextK_length {g:Gr} {l:List Bool} {j:Nat} :(dZ g l j).length=g.n.toNat:=by simp [dZ]
theorem leftK_length {g:Gr} {k:Nat} :(eS g k).length=g.n.toNat:=by
 cases k
 ·exact trueK_length
 ·exact nextK_length
theorem xN {n:Nat} :List.replicate n [D.sc (.bool false)]=(kK n 0).map rB:=by
 refine List.ext_getElem? fun i=> ?_
 by_cases hi:i<n
 ·simp [kK,hi,rB,List.getElem?_range hi]
 ·rw [List.getElem?_eq_none (by simp;omega),List.getElem?_eq_none (by simp [kK];omega)]
theorem jS {n k:Nat} :(kK n k).set k true=kK n (k+1):=by
 unfold kK;rw [sZ]
 refine List.map_congr_left fun y _=> ?_
 split
 ·rename_i h;subst h;simp
 ·rename_i h
  rw [Bool.eq_iff_iff];simp;omega
theorem xO {g:Gr} {l:List Bool} :List.replicate g.n.toNat [D.sc (.bool false)]=(dZ g l 0).map rB:=by
 refine List.ext_getElem? fun i=> ?_
 by_cases hi:i<g.n.toNat
 ·simp [dZ,hi,rB,List.getElem?_range hi]
 ·rw [List.getElem?_eq_none (by simp;omega),List.getElem?_eq_none (by simp [dZ];omega)]
theorem Aq {g:Gr} {l:List Bool} {j:Nat} (h0:0≤hd g j) (h:(l.getD (tl g j).toNat false&&l.getD (hd g j).toNat false)=true):(dZ g l j).set (hd g j).toNat true=dZ g l (j+1):=by
 unfold dZ;rw [sZ]
 refine List.map_congr_left fun y _=> ?_
 rw [List.range_succ,List.any_append]
 simp only [List.any_cons,List.any_nil,h,Bool.and_true,Bool.or_false]
 split
 ·rename_i e
  have:hd g j=(y:Int):=by omega
  simp [this]
 ·rename_i e
  have:¬hd g j=(y:Int):=by omega
  simp [this]
theorem Cy {g:Gr} {l:List Bool} {j:Nat} (h:(l.getD (tl g j).toNat false&&l.getD (hd g j).toNat false)=false):dZ g l j=dZ g l (j+1):=by
 unfold dZ
 refine List.map_congr_left fun y _=> ?_
 rw [List.range_succ,List.any_append]
 simp only [List.any_cons,List.any_nil,h,Bool.and_false,Bool.or_false]
attribute [go_sem] trueK_length nextK_length leftK_length
theorem cF (g:Gr) (hm:aV g=true):Spec Tryz.prog 191 (Args [eG g]) [] (.d (sB (eS g g.n.toNat))) []:=by
 have hn:=bL hm
 (refine Spec.hd (C:=T.cfg [] []) (rs:= [.t 2]) (T.ai _ _) Tryz.func191 rfl rfl Tryz.ntmps191 Tryz.results191 (by simp [AObj.isNest]) (by simp [AObj.isNest]) (by kernel_rfl) T.mixed fun X hX hP hC aG b9=> ?_)
 repeat' (first|(show cD _ (.seq (.region 6 _ _) _) _ _;(refine cH hX 11 rfl (.inl rfl) ?_;simp only [go_sem,simprocAttr]))|(show cD _ (.region 8 _ _) _ _;(refine cH hX 29 rfl (.inl rfl) ?_;simp only [go_sem,simprocAttr]))|refine Rn.p ?_|(with_reducible apply And.intro)|((first|(refine hK _ ?_;clear hK K)|with_reducible intro K hK|refine Rs.p ?_|((with_reducible first|apply oP|apply oQ);exact rfl));try simp only [go_sem,simprocAttr])|((with_reducible refine oD ?_ ?_);kernel_rfl)|((with_reducible intro h);try simp only [go_sem,simprocAttr] at h)|omega|intro h)
 refine ag (fun k:Nat=>k≤g.n.toNat) (fun k=>⟨[(1, .ptr 1 0),(4,eN k),(3, .ref 11)], [(1, .box [eN g.n, .d (sE g.es)]),(11, .own 4 1 ((kK g.n.toNat k).map rB))]⟩) (fun k=>g.n.toNat - k) 0 (by simp) ?_ ?_
 ·refine Le.of ?_ ?_<;>simp [go_sem,simprocAttr]
  exact xN
 rintro k hk
 rcases Nat.lt_or_ge k g.n.toNat with hlt|hge
 ·have hb:decide ((k:Int)<g.n)=true:=decide_eq_true (by omega)
  repeat' (first|(show cD _ (.seq (.region 6 _ _) _) _ _;(refine cH hX 11 rfl (.inl rfl) ?_;simp only [go_sem,simprocAttr,hb,fU,jS]))|(show cD _ (.region 8 _ _) _ _;(refine cH hX 29 rfl (.inl rfl) ?_;simp only [go_sem,simprocAttr,hb,fU,jS]))|refine Rn.p ?_|(with_reducible apply And.intro)|((first|(refine hK _ ?_;clear hK K)|with_reducible intro K hK|refine Rs.p ?_|((with_reducible first|apply oP|apply oQ);exact rfl));try simp only [go_sem,simprocAttr,hb,fU,jS])|((with_reducible refine oD ?_ ?_);kernel_rfl)|((with_reducible intro h);try simp only [go_sem,simprocAttr,hb,fU,jS] at h)|omega|intro h)
  refine ⟨k+1,by omega, ?_,by omega⟩
  (refine Le.of ?_ ?_<;>simp [go_sem,simprocAttr])
 ·have hb:decide ((k:Int)<g.n)=false:=decide_eq_false (by omega)
  obtain rfl:k=g.n.toNat:=by omega
  repeat' (first|(show cD _ (.seq (.region 6 _ _) _) _ _;(refine cH hX 11 rfl (.inl rfl) ?_;simp only [go_sem,simprocAttr,hb]))|(show cD _ (.region 8 _ _) _ _;(refine cH hX 29 rfl (.inl rfl) ?_;simp only [go_sem,simprocAttr,hb]))|refine Rn.p ?_|(with_reducible apply And.intro)|((first|(refine hK _ ?_;clear hK K)|with_reducible intro K hK|refine Rs.p ?_|((with_reducible first|apply oP|apply oQ);exact rfl));try simp only [go_sem,simprocAttr,hb])|((with_reducible refine oD ?_ ?_);kernel_rfl)|((with_reducible intro h);try simp only [go_sem,simprocAttr,hb] at h)|omega|intro h)
  clear hb hk hge
  refine ag (fun k:Nat=>k≤g.n.toNat) (fun k=>⟨[(1, .ptr 1 0),(5,eN k),(3, .d (sB (eS g k)))], [(1, .box [eN g.n, .d (sE g.es)])]⟩) (fun k=>g.n.toNat - k) 0 (by simp) ?_ ?_
  ·refine Le.of ?_ ?_<;>simp [go_sem,simprocAttr,eS]
  rintro k hk
  rcases Nat.lt_or_ge k g.n.toNat with hlt|hge
  ·have hb:decide ((k:Int)<g.n)=true:=decide_eq_true (by omega)
   repeat' (first|(show cD _ (.seq (.region 6 _ _) _) _ _;(refine cH hX 11 rfl (.inl rfl) ?_;simp only [go_sem,simprocAttr,hb]))|(show cD _ (.region 8 _ _) _ _;(refine cH hX 29 rfl (.inl rfl) ?_;simp only [go_sem,simprocAttr,hb]))|refine Rn.p ?_|(with_reducible apply And.intro)|((first|(refine hK _ ?_;clear hK K)|with_reducible intro K hK|refine Rs.p ?_|((with_reducible first|apply oP|apply oQ);exact rfl));try simp only [go_sem,simprocAttr,hb])|((with_reducible refine oD ?_ ?_);kernel_rfl)|((with_reducible intro h);try simp only [go_sem,simprocAttr,hb] at h)|omega|intro h)
   refine ag (fun j:Nat=>j≤g.es.length) (fun j=>⟨[(1, .ptr 1 0),(5,eN k),(3, .d (sB (eS g k))),(7,eN j),(6, .ref 29)], [(1, .box [eN g.n, .d (sE g.es)]),(29, .own 4 1 ((dZ g (eS g k) j).map rB))]⟩) (fun j=>g.es.length - j) 0 (by simp) ?_ ?_
   ·refine Le.of ?_ ?_<;>simp [go_sem,simprocAttr]
    exact xO
   rintro j hj
   rcases Nat.lt_or_ge j g.es.length with hjl|Jm
   ·have bn:decide ((j:Int)<(g.es.length:Int))=true:=decide_eq_true (by omega)
    obtain ⟨⟨Ct,rZ⟩,⟨vi,qh⟩⟩:=dX hm hjl
    repeat' (first|(show cD _ (.seq (.region 6 _ _) _) _ _;(refine cH hX 11 rfl (.inl rfl) ?_;simp only [go_sem,simprocAttr,bn,fU]))|(show cD _ (.region 8 _ _) _ _;(refine cH hX 29 rfl (.inl rfl) ?_;simp only [go_sem,simprocAttr,bn,fU]))|refine Rn.p ?_|(with_reducible apply And.intro)|((first|(refine hK _ ?_;clear hK K)|with_reducible intro K hK|refine Rs.p ?_|((with_reducible first|apply oP|apply oQ);exact rfl));try simp only [go_sem,simprocAttr,bn,fU])|((with_reducible refine oD ?_ ?_);kernel_rfl)|((with_reducible intro h);try simp only [go_sem,simprocAttr,bn,fU] at h)|omega|intro h)
    ·have hy:(dZ g (eS g k) j).set (g.es.getD j (0,0)).2.toNat true=dZ g (eS g k) (j+1):=Aq vi (by rw [Bool.and_eq_true];exact ⟨by assumption,by assumption⟩)
     refine ⟨j+1,by omega, ?_,by omega⟩
     refine Le.of ?_ ?_<;>simp [go_sem,simprocAttr]
     rw [← hy,List.map_set];rfl
    all_goals (
     have hy:dZ g (eS g k) j=dZ g (eS g k) (j+1):=Cy (Bool.and_eq_false_iff.2 (by first|exact .inl (by assumption)|exact .inr (by assumption)))
     refine ⟨j+1,by omega, ?_,by omega⟩
     refine Le.of ?_ ?_<;>simp [go_sem,simprocAttr, ← hy])
   ·have bn:decide ((j:Int)<(g.es.length:Int))=false:=decide_eq_false (by omega)
    obtain rfl:j=g.es.length:=by omega
    repeat' (first|(show cD _ (.seq (.region 6 _ _) _) _ _;(refine cH hX 11 rfl (.inl rfl) ?_;simp only [go_sem,simprocAttr,bn]))|(show cD _ (.region 8 _ _) _ _;(refine cH hX 29 rfl (.inl rfl) ?_;simp only [go_sem,simprocAttr,bn]))|refine Rn.p ?_|(with_reducible apply And.intro)|((first|(refine hK _ ?_;clear hK K)|with_reducible intro K hK|refine Rs.p ?_|((with_reducible first|apply oP|apply oQ);exact rfl));try simp only [go_sem,simprocAttr,bn])|((with_reducible refine oD ?_ ?_);kernel_rfl)|((with_reducible intro h);try simp only [go_sem,simprocAttr,bn] at h)|omega|intro h)
    refine ⟨k+1,by omega, ?_,by omega⟩
    refine Le.of ?_ ?_<;>simp [go_sem,simprocAttr,eS]
  ·have hb:decide ((k:Int)<g.n)=false:=decide_eq_false (by omega)
   obtain rfl:k=g.n.toNat:=by omega
   repeat' (first|(show cD _ (.seq (.region 6 _ _) _) _ _;(refine cH hX 11 rfl (.inl rfl) ?_;simp only [go_sem,simprocAttr,hb]))|(show cD _ (.region 8 _ _) _ _;(refine cH hX 29 rfl (.inl rfl) ?_;simp only [go_sem,simprocAttr,hb]))|refine Rn.p ?_|(with_reducible apply And.intro)|((first|(refine hK _ ?_;clear hK K)|with_reducible intro K hK|refine Rs.p ?_|((with_reducible first|apply oP|apply oQ);exact rfl));try simp only [go_sem,simprocAttr,hb])|((with_reducible refine oD ?_ ?_);kernel_rfl)|((with_reducible intro h);try simp only [go_sem,simprocAttr,hb] at h)|omega|intro h)
end Go.Ab
end
section
namespace Go.Ab
open Go.Proofs
attribute [local congr] ACall.congr gd.congr Nx.congr
set_option maxRecDepth 10000
def uc (g:Gr):List Bool:=eS g g.n.toNat
theorem qJ {g:Gr} :eS g g.n.toNat=uc g:=rfl
def DH (g:Gr):Int:=if bG (fun b:Bool=>b) (uc g)<0 then g.n else bG (fun b:Bool=>b) (uc g)
def ue (g:Gr) (x:Int) (b:Int) (i:Nat):Int:=if hd g i=x∧(uc g).getD (tl g i).toNat false=true then min b (tl g i) else b
def dJ (g:Gr) (x:Int) (k:Nat):Int:=(List.range k).foldl (ue g x) g.n
def mF (g:Gr):Nat→List Int→Int→List Int × Int
 |0,way,x=>(way,x)
 |f+1,way,x=>if x∈way then (way,x) else mF g f (way++ [x]) (dJ g x g.es.length)
def gx (g:Gr):Gr:=⟨g.n+1,g.es⟩
def nw (g:Gr):List Int × Int:=mF g (g.n.toNat+1) [] (DH g)
def pI (l:List Int) (m k:Nat):List Int:=(List.range k).map fun i=>l.getD ((m+l.length - i) % l.length) 0
def s4 (l:List Int):List Int:=pI l (eY l (gn l)).toNat l.length
def kL (g:Gr):List Int:=if DH g=g.n then [] else s4 ((nw g).1.drop (eY (nw g).1 (nw g).2).toNat)
theorem mG {g:Gr} {x:Int} {k:Nat} :dJ g x (k+1)=ue g x (dJ g x k) k:=by
 simp [dJ,List.range_succ]
theorem o9 {g:Gr} (hm:aV g=true) {x:Int} :∀ {k:Nat},k≤g.es.length→0≤dJ g x k∧dJ g x k≤g.n
 |0,_=>by have:=bL hm;simp [dJ];omega
 |k+1,h=>by
  have ih:=o9 hm (x:=x) (k:=k) (by omega)
  obtain ⟨⟨h1,h2⟩,_⟩:=dX hm (k:=k) (by omega)
  rw [mG];unfold ue tl
  split<;>omega
theorem Ar {l:List Int} {m k:Nat} :pI l m (k+1)=pI l m k++ [l.getD ((m+l.length - k) % l.length) 0]:=by
 simp [pI,List.range_succ]
theorem vR {g:Gr} {way:List Int} {a:Int} (h:a∈way):∀f,mF g f way a=(way,a)
 |0=>rfl
 |f+1=>by simp only [mF];rw [if_pos h]
theorem uf:∀ {l:List Int} {x:Int},x∈l→gn l≤x
 |a::r,x,h=>by
  have:∀(r:List Int) (a:Int),r.foldl min a≤a∧∀x∈r,r.foldl min a≤x:=by
   intro r
   induction r with
   |nil=>intro a;exact ⟨Int.le_refl _,by simp⟩
   |cons b r ih=>
    intro a
    obtain ⟨h1,h2⟩:=ih (min a b)
    simp only [List.foldl_cons]
    refine ⟨by omega,fun x hx=> ?_⟩
    rcases List.mem_cons.1 hx with rfl|hx
    ·omega
    ·exact h2 x hx
  obtain ⟨h1,h2⟩:=this r a
  rcases List.mem_cons.1 h with rfl|h
  ·exact h1
  ·exact h2 x h
theorem gQ {l:List Int} {m:Nat} (h:m<l.length):l.getD m 0∈l:=by
 rw [List.getD_eq_getElem?_getD,List.getElem?_eq_getElem h];exact List.getElem_mem h
theorem Cz {l:List Int} {m:Nat} (hm:m<l.length) (h1:∀j,j<l.length→l.getD m 0≤l.getD j 0) (h2:∀j,j<m→l.getD m 0<l.getD j 0):eY l (gn l)=m:=by
 have hmin:gn l=l.getD m 0:=by
  have g1:=uf (gQ hm)
  obtain ⟨j,hj,e⟩:=List.getElem_of_mem (gO (l:=l) (by omega))
  have g2:=h1 j hj
  rw [List.getD_eq_getElem?_getD (l:=l) (i:=j),List.getElem?_eq_getElem hj,Option.getD_some,e] at g2
  omega
 refine bQ (d:=0) hm (fun j hj=> ?_) ?_
 ·have:=h2 j hj
  rw [hmin];simp only [decide_eq_false_iff_not];omega
 ·rw [hmin];simp
theorem dm (g:Gr) (hm:aV g=true):Spec Tryz.prog 161 (Args [eG g]) [] (.d (sI (kL g))) []:=by
 have hn:=bL hm
 have hlf:(uc g).length=g.n.toNat:=leftK_length
 (refine Spec.hd (C:=T.cfg [] []) (rs:= [.t 2]) (T.ai _ _) Tryz.func161 rfl rfl Tryz.ntmps161 Tryz.results161 (by simp [AObj.isNest]) (by simp [AObj.isNest]) (by kernel_rfl) T.mixed fun X hX hP hC aG b9=> ?_)
 repeat' (first|refine Rn.p ?_|(with_reducible apply And.intro)|((first|(refine hK _ ?_;clear hK K)|with_reducible intro K hK|refine Rs.p ?_|((with_reducible first|apply oP|apply oQ);exact rfl)|refine aa hX hC hP (cF g hm) rfl rfl rfl (by simp only [go_sem,simprocAttr,qJ]) rfl ?_|(refine ah hX hC hP (bh way x bR) rfl rfl rfl ?_ ?_ ?_ ?_;iterate 3 (focus (simp only [go_sem,simprocAttr,qJ];done)))|(refine ah hX hC hP (bh way (a:Int) bR) rfl rfl rfl ?_ ?_ ?_ ?_;iterate 3 (focus (simp only [go_sem,simprocAttr,qJ];done))));try simp only [go_sem,simprocAttr,qJ])|((with_reducible refine oD ?_ ?_);kernel_rfl)|((with_reducible intro h);try simp only [go_sem,simprocAttr,qJ] at h)|omega|intro h)
 refine ag (fun k:Nat=>k≤g.n.toNat∧∀j,j<k→(uc g).getD j false=false) (fun k=>⟨[(1, .ptr 1 0),(4,eN k),(3, .d (sB (uc g)))], [(1, .box [eN g.n, .d (sE g.es)])]⟩) (fun k=>g.n.toNat - k) 0 (by simp) ?_ ?_
 ·refine Le.of ?_ ?_<;>simp [go_sem,simprocAttr,uc]
 rintro k ⟨hk,hno⟩
 rcases Nat.lt_or_ge k g.n.toNat with hlt|hge
 ·have hb:decide ((k:Int)<g.n)=true:=decide_eq_true (by omega)
  cases hkb:(uc g).getD k false with
  |false=>
   repeat' (first|refine Rn.p ?_|(with_reducible apply And.intro)|((first|(refine hK _ ?_;clear hK K)|with_reducible intro K hK|refine Rs.p ?_|((with_reducible first|apply oP|apply oQ);exact rfl)|refine aa hX hC hP (cF g hm) rfl rfl rfl (by simp only [go_sem,simprocAttr,hb,hkb,hlf]) rfl ?_|(refine ah hX hC hP (bh way x bR) rfl rfl rfl ?_ ?_ ?_ ?_;iterate 3 (focus (simp only [go_sem,simprocAttr,hb,hkb,hlf];done)))|(refine ah hX hC hP (bh way (a:Int) bR) rfl rfl rfl ?_ ?_ ?_ ?_;iterate 3 (focus (simp only [go_sem,simprocAttr,hb,hkb,hlf];done))));try simp only [go_sem,simprocAttr,hb,hkb,hlf])|((with_reducible refine oD ?_ ?_);kernel_rfl)|((with_reducible intro h);try simp only [go_sem,simprocAttr,hb,hkb,hlf] at h)|omega|intro h)
   refine ⟨k+1,⟨by omega,fun j hj=> ?_⟩, ?_,by omega⟩
   ·by_cases hjk:j=k
    ·subst hjk;exact hkb
    ·exact hno j (by omega)
   ·(refine Le.of ?_ ?_<;>simp [go_sem,simprocAttr,hb,hkb,hlf])
  |true=>
   have hst:DH g=k:=by
    have:bG (fun b:Bool=>b) (uc g)=k:=bQ (d:=false) (by omega) hno hkb
    unfold DH;rw [this,if_neg (by omega)]
   have hne:decide ((k:Int)=g.n)=false:=decide_eq_false (by omega)
   repeat' (first|refine Rn.p ?_|(with_reducible apply And.intro)|((first|(refine hK _ ?_;clear hK K)|with_reducible intro K hK|refine Rs.p ?_|((with_reducible first|apply oP|apply oQ);exact rfl)|refine aa hX hC hP (cF g hm) rfl rfl rfl (by simp only [go_sem,simprocAttr,hb,hkb,hlf,hne]) rfl ?_|(refine ah hX hC hP (bh way x bR) rfl rfl rfl ?_ ?_ ?_ ?_;iterate 3 (focus (simp only [go_sem,simprocAttr,hb,hkb,hlf,hne];done)))|(refine ah hX hC hP (bh way (a:Int) bR) rfl rfl rfl ?_ ?_ ?_ ?_;iterate 3 (focus (simp only [go_sem,simprocAttr,hb,hkb,hlf,hne];done))));try simp only [go_sem,simprocAttr,hb,hkb,hlf,hne])|((with_reducible refine oD ?_ ?_);kernel_rfl)|((with_reducible intro h);try simp only [go_sem,simprocAttr,hb,hkb,hlf,hne] at h)|omega|intro h)
   clear hno hb hne hkb
   (refine qD hX 5 31 39 (by simp only [go_sem,simprocAttr]) rfl (by first|exact .inl rfl|exact .inr rfl) (by decide) ?_;simp only [go_sem,simprocAttr])
   refine ag (fun i:List Int × Int=>Way (gx g) i.1∧(0≤i.2∧i.2≤g.n)∧mF g (left (gx g) i.1) i.1 i.2=nw g) (fun i=>⟨[(1, .ptr 1 0),(4,eN i.2),(3, .d (sB (uc g))),(5, .ref 39)], [(1, .box [eN g.n, .d (sE g.es)]),(39, .tip 3 1 (i.1.map rI))]⟩) (fun i=>left (gx g) i.1) ([],(k:Int)) ⟨Way.nil _,by simp only;omega, ?_⟩ ?_ ?_
   ·simp only [nu,nw,gx,hst]
    rw [show (g.n+1).toNat=g.n.toNat+1 from by omega]
   ·refine Le.of ?_ ?_<;>simp [go_sem,simprocAttr]
   rintro ⟨way,x⟩ ⟨vQ,hx,hrun⟩
   simp only at vQ hx hrun ⊢
   have Nt:way.length≤65:=by have:=vQ.fuel;simp only [gx] at this;omega
   have bR:way.length≤9223372036854775807:=by omega
   by_cases hmem:x∈way
   ·have hend:=vR (g:=g) hmem (left (gx g) way)
    rw [hrun] at hend
    obtain ⟨m,vj,hm2,_⟩:=dI hmem
    have hneg:decide ((m:Int)<0)=false:=decide_eq_false (by omega)
    obtain ⟨l,E5⟩:∃l,l=way.drop m:=⟨_,rfl⟩
    have mL:l.length=way.length - m:=by rw [E5];simp
    have F1:kL g=s4 l:=by
     simp only [kL,hend,vj,Int.toNat_natCast, ← E5]
     rw [if_neg (by omega)]
    repeat' (first|refine Rn.p ?_|(with_reducible apply And.intro)|((first|(refine hK _ ?_;clear hK K)|with_reducible intro K hK|refine Rs.p ?_|((with_reducible first|apply oP|apply oQ);exact rfl)|refine aa hX hC hP (cF g hm) rfl rfl rfl (by simp only [go_sem,simprocAttr,vj,hneg, ← List.map_take, ← List.map_drop,List.take_length, ← E5]) rfl ?_|(refine ah hX hC hP (bh way x bR) rfl rfl rfl ?_ ?_ ?_ ?_;iterate 3 (focus (simp only [go_sem,simprocAttr,vj,hneg, ← List.map_take, ← List.map_drop,List.take_length, ← E5];done)))|(refine ah hX hC hP (bh way (a:Int) bR) rfl rfl rfl ?_ ?_ ?_ ?_;iterate 3 (focus (simp only [go_sem,simprocAttr,vj,hneg, ← List.map_take, ← List.map_drop,List.take_length, ← E5];done))));try simp only [go_sem,simprocAttr,vj,hneg, ← List.map_take, ← List.map_drop,List.take_length, ← E5])|((with_reducible refine oD ?_ ?_);kernel_rfl)|((with_reducible intro h);try simp only [go_sem,simprocAttr,vj,hneg, ← List.map_take, ← List.map_drop,List.take_length, ← E5] at h)|omega|intro h)
    clear hrun vQ hend vj hneg E5
    have hl0:0<l.length:=by omega
    have hlm:l.length≤65:=by omega
    refine ag (fun i:Nat × Nat=>i.1≤l.length∧i.2<l.length∧(∀j,j<i.1→l.getD i.2 0≤l.getD j 0)∧(∀j,j<i.2→l.getD i.2 0<l.getD j 0)) (fun i=>⟨[(9,eN i.1),(8,eN i.2),(5, .d (sI l))], []⟩) (fun i=>l.length - i.1) (0,0) ⟨by simp,hl0,by simp,by simp⟩ ?_ ?_
    ·refine Le.of ?_ ?_<;>simp [go_sem,simprocAttr]
    rintro ⟨i,q⟩ ⟨hi,hq,hq1,FP⟩
    simp only at hi hq hq1 FP ⊢
    rcases Nat.lt_or_ge i l.length with hil|Ei
    ·have hb:decide ((i:Int)<(l.length:Int))=true:=decide_eq_true (by omega)
     repeat' (first|refine Rn.p ?_|(with_reducible apply And.intro)|((first|(refine hK _ ?_;clear hK K)|with_reducible intro K hK|refine Rs.p ?_|((with_reducible first|apply oP|apply oQ);exact rfl)|refine aa hX hC hP (cF g hm) rfl rfl rfl (by simp only [go_sem,simprocAttr,hb]) rfl ?_|(refine ah hX hC hP (bh way x bR) rfl rfl rfl ?_ ?_ ?_ ?_;iterate 3 (focus (simp only [go_sem,simprocAttr,hb];done)))|(refine ah hX hC hP (bh way (a:Int) bR) rfl rfl rfl ?_ ?_ ?_ ?_;iterate 3 (focus (simp only [go_sem,simprocAttr,hb];done))));try simp only [go_sem,simprocAttr,hb])|((with_reducible refine oD ?_ ?_);kernel_rfl)|((with_reducible intro h);try simp only [go_sem,simprocAttr,hb] at h)|omega|intro h)
     ·refine ⟨(i+1,i),⟨by simp only;omega,hil,fun j hj=> ?_,fun j hj=> ?_⟩, ?_,by simp only;omega⟩
      ·simp only at hj ⊢
       by_cases hji:j=i
       ·subst hji;exact Int.le_refl _
       ·have:=hq1 j (by omega);omega
      ·simp only at hj ⊢
       have:=hq1 j hj;omega
      ·refine Le.of ?_ ?_<;>simp [go_sem,simprocAttr]
     ·refine ⟨(i+1,q),⟨by simp only;omega,hq,fun j hj=> ?_,FP⟩, ?_,by simp only;omega⟩
      ·simp only at hj ⊢
       by_cases hji:j=i
       ·subst hji;omega
       ·exact hq1 j (by omega)
      ·refine Le.of ?_ ?_<;>simp [go_sem,simprocAttr]
    ·have hb:decide ((i:Int)<(l.length:Int))=false:=decide_eq_false (by omega)
     obtain rfl:i=l.length:=by omega
     have hidx:=Cz hq hq1 FP
     repeat' (first|refine Rn.p ?_|(with_reducible apply And.intro)|((first|(refine hK _ ?_;clear hK K)|with_reducible intro K hK|refine Rs.p ?_|((with_reducible first|apply oP|apply oQ);exact rfl)|refine aa hX hC hP (cF g hm) rfl rfl rfl (by simp only [go_sem,simprocAttr,hb]) rfl ?_|(refine ah hX hC hP (bh way x bR) rfl rfl rfl ?_ ?_ ?_ ?_;iterate 3 (focus (simp only [go_sem,simprocAttr,hb];done)))|(refine ah hX hC hP (bh way (a:Int) bR) rfl rfl rfl ?_ ?_ ?_ ?_;iterate 3 (focus (simp only [go_sem,simprocAttr,hb];done))));try simp only [go_sem,simprocAttr,hb])|((with_reducible refine oD ?_ ?_);kernel_rfl)|((with_reducible intro h);try simp only [go_sem,simprocAttr,hb] at h)|omega|intro h)
     clear hi hb Ei
     (refine qD hX 10 98 119 (by simp only [go_sem,simprocAttr]) rfl (by first|exact .inl rfl|exact .inr rfl) (by decide) ?_;simp only [go_sem,simprocAttr])
     refine ag (fun i:Nat=>i≤l.length) (fun i=>⟨[(5, .d (sI l)),(8,eN q),(11,eN i),(10, .ref 119)], [(119, .tip 3 1 ((pI l q i).map rI))]⟩) (fun i=>l.length - i) 0 (by simp) ?_ ?_
     ·refine Le.of ?_ ?_<;>simp [go_sem,simprocAttr,pI]
     rintro i hi
     have hrl:(pI l q i).length=i:=by simp [pI]
     rcases Nat.lt_or_ge i l.length with hil|Ei
     ·have hb:decide ((i:Int)<(l.length:Int))=true:=decide_eq_true (by omega)
      have Is:((q:Int)+(l.length:Int) - (i:Int)).tmod (l.length:Int)=(((q+l.length - i) % l.length:Nat):Int):=by
       rw [show (q:Int)+(l.length:Int) - (i:Int)=((q+l.length - i:Nat):Int) from by omega]
       rw [Int.tmod_eq_emod_of_nonneg (by omega)];rfl
      have hmod:(q+l.length - i) % l.length<l.length:=Nat.mod_lt _ hl0
      repeat' (first|refine Rn.p ?_|(with_reducible apply And.intro)|((first|(refine hK _ ?_;clear hK K)|with_reducible intro K hK|refine Rs.p ?_|((with_reducible first|apply oP|apply oQ);exact rfl)|refine aa hX hC hP (cF g hm) rfl rfl rfl (by simp only [go_sem,simprocAttr,hb,Is]) rfl ?_|(refine ah hX hC hP (bh way x bR) rfl rfl rfl ?_ ?_ ?_ ?_;iterate 3 (focus (simp only [go_sem,simprocAttr,hb,Is];done)))|(refine ah hX hC hP (bh way (a:Int) bR) rfl rfl rfl ?_ ?_ ?_ ?_;iterate 3 (focus (simp only [go_sem,simprocAttr,hb,Is];done))));try simp only [go_sem,simprocAttr,hb,Is])|((with_reducible refine oD ?_ ?_);kernel_rfl)|((with_reducible intro h);try simp only [go_sem,simprocAttr,hb,Is] at h)|omega|intro h)
      refine ⟨i+1,by omega, ?_,by omega⟩
      rw [Ar]
      refine Le.of ?_ ?_<;>simp [go_sem,simprocAttr,rI]
     ·have hb:decide ((i:Int)<(l.length:Int))=false:=decide_eq_false (by omega)
      obtain rfl:i=l.length:=by omega
      repeat' (first|refine Rn.p ?_|(with_reducible apply And.intro)|((first|(refine hK _ ?_;clear hK K)|with_reducible intro K hK|refine Rs.p ?_|((with_reducible first|apply oP|apply oQ);exact rfl)|refine aa hX hC hP (cF g hm) rfl rfl rfl (by simp only [go_sem,simprocAttr,hb]) rfl ?_|(refine ah hX hC hP (bh way x bR) rfl rfl rfl ?_ ?_ ?_ ?_;iterate 3 (focus (simp only [go_sem,simprocAttr,hb];done)))|(refine ah hX hC hP (bh way (a:Int) bR) rfl rfl rfl ?_ ?_ ?_ ?_;iterate 3 (focus (simp only [go_sem,simprocAttr,hb];done))));try simp only [go_sem,simprocAttr,hb])|((with_reducible refine oD ?_ ?_);kernel_rfl)|((with_reducible intro h);try simp only [go_sem,simprocAttr,hb] at h)|omega|intro h)
      rw [F1,s4,hidx];rfl
   ·have hi:eY way x= -1:=by
     rcases fA (f:=fun y:Int=>decide (x=y)) (l:=way) 0 with ⟨h1,_⟩|⟨q,_,h2,h3,_⟩
     ·exact h1
     ·exact absurd (by rw [of_decide_eq_true h3,List.getD_eq_getElem?_getD,List.getElem?_eq_getElem h2];exact List.getElem_mem h2) hmem
    obtain ⟨a,rfl⟩:∃a:Nat,x=a:=⟨x.toNat,by omega⟩
    have E4:a<(gx g).n.toNat:=by simp only [gx];omega
    repeat' (first|refine Rn.p ?_|(with_reducible apply And.intro)|((first|(refine hK _ ?_;clear hK K)|with_reducible intro K hK|refine Rs.p ?_|((with_reducible first|apply oP|apply oQ);exact rfl)|refine aa hX hC hP (cF g hm) rfl rfl rfl (by simp only [go_sem,simprocAttr,hi]) rfl ?_|(refine ah hX hC hP (bh way x bR) rfl rfl rfl ?_ ?_ ?_ ?_;iterate 3 (focus (simp only [go_sem,simprocAttr,hi];done)))|(refine ah hX hC hP (bh way (a:Int) bR) rfl rfl rfl ?_ ?_ ?_ ?_;iterate 3 (focus (simp only [go_sem,simprocAttr,hi];done))));try simp only [go_sem,simprocAttr,hi])|((with_reducible refine oD ?_ ?_);kernel_rfl)|((with_reducible intro h);try simp only [go_sem,simprocAttr,hi] at h)|omega|intro h)
    refine ag (fun j:Nat=>j≤g.es.length) (fun j=>⟨[(1, .ptr 1 0),(4,eN a),(3, .d (sB (uc g))),(5, .ref 39),(6,eN (dJ g a j)),(7,eN j)], [(1, .box [eN g.n, .d (sE g.es)]),(39, .tip 3 1 ((way++ [(a:Int)]).map rI))]⟩) (fun j=>g.es.length - j) 0 (by simp) ?_ ?_
    ·refine Le.of ?_ ?_<;>simp [go_sem,simprocAttr,rI,dJ]
    rintro j hj
    rcases Nat.lt_or_ge j g.es.length with hjl|Jm
    ·have bn:decide ((j:Int)<(g.es.length:Int))=true:=decide_eq_true (by omega)
     obtain ⟨⟨Ct,rZ⟩,_⟩:=dX hm hjl
     have iE:dJ g a (j+1)=if (g.es.getD j (0,0)).2=(a:Int)∧(uc g).getD (g.es.getD j (0,0)).1.toNat false=true then min (dJ g a j) (g.es.getD j (0,0)).1 else dJ g a j:=mG
     repeat' (first|refine Rn.p ?_|(with_reducible apply And.intro)|((first|(refine hK _ ?_;clear hK K)|with_reducible intro K hK|refine Rs.p ?_|((with_reducible first|apply oP|apply oQ);exact rfl)|refine aa hX hC hP (cF g hm) rfl rfl rfl (by simp only [go_sem,simprocAttr,bn,hlf]) rfl ?_|(refine ah hX hC hP (bh way x bR) rfl rfl rfl ?_ ?_ ?_ ?_;iterate 3 (focus (simp only [go_sem,simprocAttr,bn,hlf];done)))|(refine ah hX hC hP (bh way (a:Int) bR) rfl rfl rfl ?_ ?_ ?_ ?_;iterate 3 (focus (simp only [go_sem,simprocAttr,bn,hlf];done))));try simp only [go_sem,simprocAttr,bn,hlf])|((with_reducible refine oD ?_ ?_);kernel_rfl)|((with_reducible intro h);try simp only [go_sem,simprocAttr,bn,hlf] at h)|omega|intro h)
     all_goals (first|rw [if_pos ⟨by assumption,by assumption⟩] at iE|rw [if_neg (fun e=>by first|exact absurd e.1 (by assumption)|simp_all)] at iE)
     all_goals (refine ⟨j+1,by omega, ?_,by omega⟩;refine Le.of ?_ ?_<;>simp [go_sem,simprocAttr,iE])
    ·have bn:decide ((j:Int)<(g.es.length:Int))=false:=decide_eq_false (by omega)
     obtain rfl:j=g.es.length:=by omega
     repeat' (first|refine Rn.p ?_|(with_reducible apply And.intro)|((first|(refine hK _ ?_;clear hK K)|with_reducible intro K hK|refine Rs.p ?_|((with_reducible first|apply oP|apply oQ);exact rfl)|refine aa hX hC hP (cF g hm) rfl rfl rfl (by simp only [go_sem,simprocAttr,bn]) rfl ?_|(refine ah hX hC hP (bh way x bR) rfl rfl rfl ?_ ?_ ?_ ?_;iterate 3 (focus (simp only [go_sem,simprocAttr,bn];done)))|(refine ah hX hC hP (bh way (a:Int) bR) rfl rfl rfl ?_ ?_ ?_ ?_;iterate 3 (focus (simp only [go_sem,simprocAttr,bn];done))));try simp only [go_sem,simprocAttr,bn])|((with_reducible refine oD ?_ ?_);kernel_rfl)|((with_reducible intro h);try simp only [go_sem,simprocAttr,bn] at h)|omega|intro h)
     refine ⟨(way++ [(a:Int)],dJ g a g.es.length),⟨vQ.next E4 hmem,o9 hm (Nat.le_refl _), ?_⟩, ?_, ?_⟩
     ·simp only
      rw [← hrun,gN E4 hmem]
      simp only [mF]
      rw [if_neg hmem]
     ·refine Le.of ?_ ?_<;>simp [go_sem,simprocAttr]
     ·have:=gN E4 hmem;simp only;omega
 ·have hb:decide ((k:Int)<g.n)=false:=decide_eq_false (by omega)
  have hst:DH g=g.n:=by
   have:bG (fun b:Bool=>b) (uc g)= -1:=bq false fun j hj=>hno j (by omega)
   unfold DH;rw [this,if_pos (by omega)]
  have hne:decide ((k:Int)=g.n)=true:=decide_eq_true (by omega)
  repeat' (first|refine Rn.p ?_|(with_reducible apply And.intro)|((first|(refine hK _ ?_;clear hK K)|with_reducible intro K hK|refine Rs.p ?_|((with_reducible first|apply oP|apply oQ);exact rfl)|refine aa hX hC hP (cF g hm) rfl rfl rfl (by simp only [go_sem,simprocAttr,hb,hne]) rfl ?_|(refine ah hX hC hP (bh way x bR) rfl rfl rfl ?_ ?_ ?_ ?_;iterate 3 (focus (simp only [go_sem,simprocAttr,hb,hne];done)))|(refine ah hX hC hP (bh way (a:Int) bR) rfl rfl rfl ?_ ?_ ?_ ?_;iterate 3 (focus (simp only [go_sem,simprocAttr,hb,hne];done))));try simp only [go_sem,simprocAttr,hb,hne])|((with_reducible refine oD ?_ ?_);kernel_rfl)|((with_reducible intro h);try simp only [go_sem,simprocAttr,hb,hne] at h)|omega|intro h)
  simp only [kL];rw [if_pos hst];rfl
end Go.Ab
end
section
namespace Go.Ab
open Go.Proofs
attribute [local congr] ACall.congr gd.congr Nx.congr
set_option maxRecDepth 10000
def kM (g:Gr):Int × Int × List Int:=gh g (kL g) (c9 (·.2) g)
theorem vS {l:List Edge} {k:Nat} {x:Edge} :x∈l.take k↔∃j,j<k∧j<l.length∧l.getD j (0,0)=x:=by
 rw [List.mem_iff_getElem?]
 constructor
 ·rintro ⟨j,hj⟩
  rw [List.getElem?_take] at hj
  split at hj
  ·exact ⟨j,by assumption,(List.getElem?_eq_some_iff.1 hj).1,by rw [List.getD_eq_getElem?_getD,hj];rfl⟩
  ·cases hj
 ·rintro ⟨j,h1,h2,h3⟩
  refine ⟨j, ?_⟩
  rw [List.getElem?_take,if_pos h1,List.getElem?_eq_getElem h2]
  rw [List.getD_eq_getElem?_getD,List.getElem?_eq_getElem h2] at h3
  exact congrArg some h3
theorem su (g:Gr) (hl0:g.es.length≤1000):Spec Tryz.prog 104 (Args [eG g]) [] (.tup [eN (kM g).1,eN (kM g).2.1, .d (sI (kM g).2.2)]) []:=by
 have hl:g.es.length≤9223372036854775807:=by omega
 (refine Spec.hd (C:=T.cfg [] []) (rs:= [.t 2, .t 3, .t 4]) (T.ai _ _) Tryz.func104 rfl rfl Tryz.ntmps104 Tryz.results104 (by simp [AObj.isNest]) (by simp [AObj.isNest]) (by kernel_rfl) T.mixed fun X hX hP hC aG b9=> ?_)
 cases hm:aV g with
 |false=>
  repeat' (first|refine Rn.p ?_|(with_reducible apply And.intro)|((first|(refine hK _ ?_;clear hK K)|with_reducible intro K hK|refine Rs.p ?_|((with_reducible first|apply oP|apply oQ);exact rfl)|refine aa hX hC hP (di g hl) rfl rfl rfl (by simp only [go_sem,simprocAttr,hm]) rfl ?_|refine aa hX hC hP (dm g hm) rfl rfl rfl (by simp only [go_sem,simprocAttr,hm]) rfl ?_|refine aa hX hC hP (cL g true hl0 hn0) rfl rfl rfl (by simp only [go_sem,simprocAttr,hm]) rfl ?_);try simp only [go_sem,simprocAttr,hm])|((with_reducible refine oD ?_ ?_);kernel_rfl)|((with_reducible intro h);try simp only [go_sem,simprocAttr,hm] at h)|omega|intro h)
  all_goals simp [kM,gh,hm]
 |true=>
 have hn:=bL hm
 have hn0:0≤g.n∧g.n≤1000:=by omega
 repeat' (first|refine Rn.p ?_|(with_reducible apply And.intro)|((first|(refine hK _ ?_;clear hK K)|with_reducible intro K hK|refine Rs.p ?_|((with_reducible first|apply oP|apply oQ);exact rfl)|refine aa hX hC hP (di g hl) rfl rfl rfl (by simp only [go_sem,simprocAttr,hm]) rfl ?_|refine aa hX hC hP (dm g hm) rfl rfl rfl (by simp only [go_sem,simprocAttr,hm]) rfl ?_|refine aa hX hC hP (cL g true hl0 hn0) rfl rfl rfl (by simp only [go_sem,simprocAttr,hm]) rfl ?_);try simp only [go_sem,simprocAttr,hm])|((with_reducible refine oD ?_ ?_);kernel_rfl)|((with_reducible intro h);try simp only [go_sem,simprocAttr,hm] at h)|omega|intro h)
 refine ag (fun k:Nat=>k≤g.es.length∧∀j,j<k→decide ((g.es.getD j (0,0)).1=(g.es.getD j (0,0)).2)=false) (fun k=>⟨[(5,eN k),(1, .ptr 1 0)], [(1, .box [eN g.n, .d (sE g.es)])]⟩) (fun k=>g.es.length - k) 0 (by simp) ?_ ?_
 ·(refine Le.of ?_ ?_<;>simp [go_sem,simprocAttr,hm])
 rintro k ⟨hk,hno⟩
 rcases Nat.lt_or_ge k g.es.length with hlt|hge
 ·have bn:decide ((k:Int)<(g.es.length:Int))=true:=decide_eq_true (by omega)
  repeat' (first|refine Rn.p ?_|(with_reducible apply And.intro)|((first|(refine hK _ ?_;clear hK K)|with_reducible intro K hK|refine Rs.p ?_|((with_reducible first|apply oP|apply oQ);exact rfl)|refine aa hX hC hP (di g hl) rfl rfl rfl (by simp only [go_sem,simprocAttr,hm,bn]) rfl ?_|refine aa hX hC hP (dm g hm) rfl rfl rfl (by simp only [go_sem,simprocAttr,hm,bn]) rfl ?_|refine aa hX hC hP (cL g true hl0 hn0) rfl rfl rfl (by simp only [go_sem,simprocAttr,hm,bn]) rfl ?_);try simp only [go_sem,simprocAttr,hm,bn])|((with_reducible refine oD ?_ ?_);kernel_rfl)|((with_reducible intro h);try simp only [go_sem,simprocAttr,hm,bn] at h)|omega|intro h)
  any_goals (
   have hlo:ji g=(k:Int):=bQ (d:=(0,0)) hlt hno (decide_eq_true h)
   have hc:kM g=(13,ji g, []):=by
    simp only [kM,gh];rw [if_neg (by simp [hm]),if_pos (by omega)]
   rw [hc]<;>first|rfl|exact hlo.symm)
  refine ⟨k+1,⟨by omega,fun j hj=> ?_⟩, ?_,by omega⟩
  ·by_cases hjk:j=k
   ·subst hjk;exact h
   ·simpa using hno j (by omega)
  ·(refine Le.of ?_ ?_<;>simp [go_sem,simprocAttr,hm,bn])
 ·have bn:decide ((k:Int)<(g.es.length:Int))=false:=decide_eq_false (by omega)
  have hlo:¬0≤ji g:=by
   have:ji g= -1:=bq (0,0) fun j hj=>hno j (by omega)
   omega
  repeat' (first|refine Rn.p ?_|(with_reducible apply And.intro)|((first|(refine hK _ ?_;clear hK K)|with_reducible intro K hK|refine Rs.p ?_|((with_reducible first|apply oP|apply oQ);exact rfl)|refine aa hX hC hP (di g hl) rfl rfl rfl (by simp only [go_sem,simprocAttr,hm,bn]) rfl ?_|refine aa hX hC hP (dm g hm) rfl rfl rfl (by simp only [go_sem,simprocAttr,hm,bn]) rfl ?_|refine aa hX hC hP (cL g true hl0 hn0) rfl rfl rfl (by simp only [go_sem,simprocAttr,hm,bn]) rfl ?_);try simp only [go_sem,simprocAttr,hm,bn])|((with_reducible refine oD ?_ ?_);kernel_rfl)|((with_reducible intro h);try simp only [go_sem,simprocAttr,hm,bn] at h)|omega|intro h)
  clear hno bn hk hge
  refine ag (fun k:Nat=>k≤g.es.length∧∀j,j<k→mC g j=false) (fun k=>⟨[(6,eN k),(1, .ptr 1 0)], [(1, .box [eN g.n, .d (sE g.es)])]⟩) (fun k=>g.es.length - k) 0 (by simp) ?_ ?_
  ·(refine Le.of ?_ ?_<;>simp [go_sem,simprocAttr])
  rintro k ⟨hk,F2⟩
  rcases Nat.lt_or_ge k g.es.length with hlt|hge
  ·have bn:decide ((k:Int)<(g.es.length:Int))=true:=decide_eq_true (by omega)
   repeat' (first|refine Rn.p ?_|(with_reducible apply And.intro)|((first|(refine hK _ ?_;clear hK K)|with_reducible intro K hK|refine Rs.p ?_|((with_reducible first|apply oP|apply oQ);exact rfl)|refine aa hX hC hP (di g hl) rfl rfl rfl (by simp only [go_sem,simprocAttr,hm,bn]) rfl ?_|refine aa hX hC hP (dm g hm) rfl rfl rfl (by simp only [go_sem,simprocAttr,hm,bn]) rfl ?_|refine aa hX hC hP (cL g true hl0 hn0) rfl rfl rfl (by simp only [go_sem,simprocAttr,hm,bn]) rfl ?_);try simp only [go_sem,simprocAttr,hm,bn])|((with_reducible refine oD ?_ ?_);kernel_rfl)|((with_reducible intro h);try simp only [go_sem,simprocAttr,hm,bn] at h)|omega|intro h)
   refine ag (fun q:Nat=>q≤k∧∀j,j<q→¬g.es.getD j (0,0)=g.es.getD k (0,0)) (fun q=>⟨[(6,eN k),(7,eN q),(1, .ptr 1 0)], [(1, .box [eN g.n, .d (sE g.es)])]⟩) (fun q=>k - q) 0 (by simp) ?_ ?_
   ·(refine Le.of ?_ ?_<;>simp [go_sem,simprocAttr,hm,bn])
   rintro q ⟨hq,hne⟩
   rcases Nat.lt_or_ge q k with Ej|Ej
   ·have ez:decide ((q:Int)<(k:Int))=true:=decide_eq_true (by omega)
    repeat' (first|refine Rn.p ?_|(with_reducible apply And.intro)|((first|(refine hK _ ?_;clear hK K)|with_reducible intro K hK|refine Rs.p ?_|((with_reducible first|apply oP|apply oQ);exact rfl)|refine aa hX hC hP (di g hl) rfl rfl rfl (by simp only [go_sem,simprocAttr,ez,iw]) rfl ?_|refine aa hX hC hP (dm g hm) rfl rfl rfl (by simp only [go_sem,simprocAttr,ez,iw]) rfl ?_|refine aa hX hC hP (cL g true hl0 hn0) rfl rfl rfl (by simp only [go_sem,simprocAttr,ez,iw]) rfl ?_);try simp only [go_sem,simprocAttr,ez,iw])|((with_reducible refine oD ?_ ?_);kernel_rfl)|((with_reducible intro h);try simp only [go_sem,simprocAttr,ez,iw] at h)|omega|intro h)
    any_goals (
     have Cx:mC g k=true:=decide_eq_true (vS.2 ⟨q,Ej,by omega,h⟩)
     have KZ:eA g=(k:Int):=bQ (d:=0) (by simpa using hlt) (fun j hj=>by rw [bX (by omega)];exact F2 j hj) (by rw [bX hlt];exact Cx)
     have hc:kM g=(14,eA g, []):=by
      simp only [kM,gh];rw [if_neg (by simp [hm]),if_neg hlo,if_pos (by omega)]
     rw [hc]<;>first|rfl|exact KZ.symm)
    refine ⟨q+1,⟨by omega,fun j hj=> ?_⟩, ?_,by omega⟩
    ·by_cases hjk:j=q
     ·subst hjk;exact h
     ·exact hne j (by omega)
    ·refine Le.of ?_ ?_<;>simp [go_sem,simprocAttr]
   ·have ez:decide ((q:Int)<(k:Int))=false:=decide_eq_false (by omega)
    repeat' (first|refine Rn.p ?_|(with_reducible apply And.intro)|((first|(refine hK _ ?_;clear hK K)|with_reducible intro K hK|refine Rs.p ?_|((with_reducible first|apply oP|apply oQ);exact rfl)|refine aa hX hC hP (di g hl) rfl rfl rfl (by simp only [go_sem,simprocAttr,ez]) rfl ?_|refine aa hX hC hP (dm g hm) rfl rfl rfl (by simp only [go_sem,simprocAttr,ez]) rfl ?_|refine aa hX hC hP (cL g true hl0 hn0) rfl rfl rfl (by simp only [go_sem,simprocAttr,ez]) rfl ?_);try simp only [go_sem,simprocAttr,ez])|((with_reducible refine oD ?_ ?_);kernel_rfl)|((with_reducible intro h);try simp only [go_sem,simprocAttr,ez] at h)|omega|intro h)
    refine ⟨k+1,⟨by omega,fun j hj=> ?_⟩, ?_,by omega⟩
    ·by_cases hjk:j=k
     ·subst hjk
      refine decide_eq_false fun h=> ?_
      obtain ⟨i,h1,_,h3⟩:=vS.1 h
      exact hne i (by omega) h3
     ·exact F2 j (by omega)
    ·(refine Le.of ?_ ?_<;>simp [go_sem,simprocAttr,ez])
  ·have bn:decide ((k:Int)<(g.es.length:Int))=false:=decide_eq_false (by omega)
   have Cx:¬0≤eA g:=by
    have:eA g= -1:=bq 0 fun j hj=>by
     rw [List.length_range] at hj
     rw [bX hj];exact F2 j (by omega)
    omega
   repeat' (first|refine Rn.p ?_|(with_reducible apply And.intro)|((first|(refine hK _ ?_;clear hK K)|with_reducible intro K hK|refine Rs.p ?_|((with_reducible first|apply oP|apply oQ);exact rfl)|refine aa hX hC hP (di g hl) rfl rfl rfl (by simp only [go_sem,simprocAttr,hm,bn]) rfl ?_|refine aa hX hC hP (dm g hm) rfl rfl rfl (by simp only [go_sem,simprocAttr,hm,bn]) rfl ?_|refine aa hX hC hP (cL g true hl0 hn0) rfl rfl rfl (by simp only [go_sem,simprocAttr,hm,bn]) rfl ?_);try simp only [go_sem,simprocAttr,hm,bn])|((with_reducible refine oD ?_ ?_);kernel_rfl)|((with_reducible intro h);try simp only [go_sem,simprocAttr,hm,bn] at h)|omega|intro h)
   all_goals (
    have hc:kM g=if 0<(kL g).length then (15,0,kL g) else if 1<(c9 (lT false) g).length then (16,0,(c9 (lT false) g).take 2) else (0,0, []):=by
     show gh g (kL g) (c9 (lT false) g)=_
     simp only [gh];rw [if_neg (by simp [hm]),if_neg hlo,if_neg Cx]
    first|rw [if_pos (by omega)] at hc|(rw [if_neg (by omega)] at hc;first|rw [if_pos (by omega)] at hc|rw [if_neg (by omega)] at hc)
    rw [hc]<;>first|rfl|simp only [List.map_take])
end Go.Ab
end
