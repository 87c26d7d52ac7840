/- A part of the proof. -/
import Derived.Test.YtjmaiddbinlooaaGreatProg
import Derived.Test.YtjmaiddbinlooaaGreatL7P9
set_option linter.unusedSimpArgs false
set_option linter.unusedVariables false
section
namespace Go.Ab.T
open Go.Proofs
def T:Nat→Option TI
 |2=>some ⟨(.int .i64),1,8, [(.d (.sc (.int .i64 0)))]⟩
 |3=>some ⟨(.int .i64),1,8, [(.d (.sc (.int .i64 0)))]⟩
 |4=>some ⟨.bool,1,1, [(.d (.sc (.bool false)))]⟩
 |5=>some ⟨(.int .u8),1,1, [(.d (.sc (.int .u8 0)))]⟩
 |9=>some ⟨.sc,1,16, [(.d (.sc (.string ⟨#[]⟩)))]⟩
 |12=>some ⟨(.int .u64),1,8, [(.d (.sc (.int .u64 0)))]⟩
 |21=>some ⟨(.int .i32),1,4, [(.d (.sc (.int .i32 0)))]⟩
 |22=>some ⟨(.sl 58),1,24, [(.nil 58)]⟩
 |24=>some ⟨(.st [(0,3),(1,22)]),2,32, [(.d (.sc (.int .i64 0))),(.nil 58)]⟩
 |25=>some ⟨(.sl 3),1,24, [(.nil 3)]⟩
 |26=>some ⟨(.sl 25),1,24, [(.nil 25)]⟩
 |28=>some ⟨(.st [(0,25),(1,26)]),2,48, [(.nil 3),(.nil 25)]⟩
 |32=>some ⟨(.st [(0,25),(1,25),(2,25),(3,25)]),4,96, [(.nil 3),(.nil 3),(.nil 3),(.nil 3)]⟩
 |33=>some ⟨(.int .i64),1,8, [(.d (.sc (.int .i64 0)))]⟩
 |37=>some ⟨(.st [(0,25),(1,25),(2,25),(3,25)]),4,96, [(.nil 3),(.nil 3),(.nil 3),(.nil 3)]⟩
 |45=>some ⟨(.pt 100),1,8, [(.d (.sc (.pointer none)))]⟩
 |50=>some ⟨(.sl 25),1,24, [(.nil 25)]⟩
 |55=>some ⟨(.sl 60),1,24, [(.nil 60)]⟩
 |58=>some ⟨(.st [(0,3),(1,3)]),2,16, [(.d (.sc (.int .i64 0))),(.d (.sc (.int .i64 0)))]⟩
 |59=>some ⟨(.int .u64),1,8, [(.d (.sc (.int .u64 0)))]⟩
 |60=>some ⟨(.int .u64),1,8, [(.d (.sc (.int .u64 0)))]⟩
 |61=>some ⟨.sc,1,8, [(.d (.sc .nilFunc))]⟩
 |62=>some ⟨(.ar 4 4),4,4, [(.d (.sc (.bool false))),(.d (.sc (.bool false))),(.d (.sc (.bool false))),(.d (.sc (.bool false)))]⟩
 |64=>some ⟨(.st [(0,25),(1,25),(2,25),(3,25)]),4,96, [(.nil 3),(.nil 3),(.nil 3),(.nil 3)]⟩
 |67=>some ⟨(.st [(0,25),(1,25),(2,25),(3,25)]),4,96, [(.nil 3),(.nil 3),(.nil 3),(.nil 3)]⟩
 |79=>some ⟨(.sl 80),1,24, [(.nil 80)]⟩
 |80=>some ⟨(.sl 96),1,24, [(.nil 96)]⟩
 |82=>some ⟨(.st [(0,33),(1,3),(2,25)]),3,40, [(.d (.sc (.int .i64 0))),(.d (.sc (.int .i64 0))),(.nil 3)]⟩
 |88=>some ⟨(.pt 90),1,8, [(.d (.sc (.pointer none)))]⟩
 |90=>some ⟨(.st [(0,25),(1,25),(2,32)]),6,144, [(.nil 3),(.nil 3),(.nil 3),(.nil 3),(.nil 3),(.nil 3)]⟩
 |96=>some ⟨(.st [(0,3),(1,3),(2,3)]),3,24, [(.d (.sc (.int .i64 0))),(.d (.sc (.int .i64 0))),(.d (.sc (.int .i64 0)))]⟩
 |100=>some ⟨(.st [(0,24),(2,26),(3,26)]),4,80, [(.d (.sc (.int .i64 0))),(.nil 58),(.nil 25),(.nil 25)]⟩
 |122=>some ⟨(.sl 4),1,24, [(.nil 4)]⟩
 |123=>some ⟨(.pt 133),1,8, [(.d (.sc (.pointer none)))]⟩
 |131=>some ⟨(.st [(0,80)]),1,24, [(.nil 96)]⟩
 |133=>some ⟨(.st [(0,131),(1,45),(2,25)]),3,56, [(.nil 96),(.d (.sc (.pointer none))),(.nil 3)]⟩
 |152=>some ⟨(.int .u64),1,8, [(.d (.sc (.int .u64 0)))]⟩
 |161=>some ⟨(.pt 131),1,8, [(.d (.sc (.pointer none)))]⟩
 |163=>some ⟨(.pt 165),1,8, [(.d (.sc (.pointer none)))]⟩
 |165=>some ⟨(.st [(0,24),(2,80),(3,25)]),4,80, [(.d (.sc (.int .i64 0))),(.nil 58),(.nil 96),(.nil 3)]⟩
 |173=>some ⟨(.int .i64),1,8, [(.d (.sc (.int .i64 0)))]⟩
 |181=>some ⟨(.int .u32),1,4, [(.d (.sc (.int .u32 0)))]⟩
 |186=>some ⟨(.int .u64),1,8, [(.d (.sc (.int .u64 0)))]⟩
 |190=>some ⟨(.pt 3),1,8, [(.d (.sc (.pointer none)))]⟩
 |197=>some ⟨(.pt 186),1,8, [(.d (.sc (.pointer none)))]⟩
 |219=>some ⟨(.pt 5),1,8, [(.d (.sc (.pointer none)))]⟩
 |_=>none
theorem T2:T 2=some ⟨(.int .i64),1,8, [(.d (.sc (.int .i64 0)))]⟩:=rfl
theorem T3:T 3=some ⟨(.int .i64),1,8, [(.d (.sc (.int .i64 0)))]⟩:=rfl
theorem T4:T 4=some ⟨.bool,1,1, [(.d (.sc (.bool false)))]⟩:=rfl
theorem T5:T 5=some ⟨(.int .u8),1,1, [(.d (.sc (.int .u8 0)))]⟩:=rfl
theorem T9:T 9=some ⟨.sc,1,16, [(.d (.sc (.string ⟨#[]⟩)))]⟩:=rfl
theorem T12:T 12=some ⟨(.int .u64),1,8, [(.d (.sc (.int .u64 0)))]⟩:=rfl
theorem T21:T 21=some ⟨(.int .i32),1,4, [(.d (.sc (.int .i32 0)))]⟩:=rfl
theorem T22:T 22=some ⟨(.sl 58),1,24, [(.nil 58)]⟩:=rfl
theorem T24:T 24=some ⟨(.st [(0,3),(1,22)]),2,32, [(.d (.sc (.int .i64 0))),(.nil 58)]⟩:=rfl
theorem T25:T 25=some ⟨(.sl 3),1,24, [(.nil 3)]⟩:=rfl
theorem T26:T 26=some ⟨(.sl 25),1,24, [(.nil 25)]⟩:=rfl
theorem T28:T 28=some ⟨(.st [(0,25),(1,26)]),2,48, [(.nil 3),(.nil 25)]⟩:=rfl
theorem T32:T 32=some ⟨(.st [(0,25),(1,25),(2,25),(3,25)]),4,96, [(.nil 3),(.nil 3),(.nil 3),(.nil 3)]⟩:=rfl
theorem T33:T 33=some ⟨(.int .i64),1,8, [(.d (.sc (.int .i64 0)))]⟩:=rfl
theorem T37:T 37=some ⟨(.st [(0,25),(1,25),(2,25),(3,25)]),4,96, [(.nil 3),(.nil 3),(.nil 3),(.nil 3)]⟩:=rfl
theorem T45:T 45=some ⟨(.pt 100),1,8, [(.d (.sc (.pointer none)))]⟩:=rfl
theorem T50:T 50=some ⟨(.sl 25),1,24, [(.nil 25)]⟩:=rfl
theorem T55:T 55=some ⟨(.sl 60),1,24, [(.nil 60)]⟩:=rfl
theorem T58:T 58=some ⟨(.st [(0,3),(1,3)]),2,16, [(.d (.sc (.int .i64 0))),(.d (.sc (.int .i64 0)))]⟩:=rfl
theorem T59:T 59=some ⟨(.int .u64),1,8, [(.d (.sc (.int .u64 0)))]⟩:=rfl
theorem T60:T 60=some ⟨(.int .u64),1,8, [(.d (.sc (.int .u64 0)))]⟩:=rfl
theorem T61:T 61=some ⟨.sc,1,8, [(.d (.sc .nilFunc))]⟩:=rfl
theorem T62:T 62=some ⟨(.ar 4 4),4,4, [(.d (.sc (.bool false))),(.d (.sc (.bool false))),(.d (.sc (.bool false))),(.d (.sc (.bool false)))]⟩:=rfl
theorem T64:T 64=some ⟨(.st [(0,25),(1,25),(2,25),(3,25)]),4,96, [(.nil 3),(.nil 3),(.nil 3),(.nil 3)]⟩:=rfl
theorem T67:T 67=some ⟨(.st [(0,25),(1,25),(2,25),(3,25)]),4,96, [(.nil 3),(.nil 3),(.nil 3),(.nil 3)]⟩:=rfl
theorem T79:T 79=some ⟨(.sl 80),1,24, [(.nil 80)]⟩:=rfl
theorem T80:T 80=some ⟨(.sl 96),1,24, [(.nil 96)]⟩:=rfl
theorem T82:T 82=some ⟨(.st [(0,33),(1,3),(2,25)]),3,40, [(.d (.sc (.int .i64 0))),(.d (.sc (.int .i64 0))),(.nil 3)]⟩:=rfl
theorem T88:T 88=some ⟨(.pt 90),1,8, [(.d (.sc (.pointer none)))]⟩:=rfl
theorem T90:T 90=some ⟨(.st [(0,25),(1,25),(2,32)]),6,144, [(.nil 3),(.nil 3),(.nil 3),(.nil 3),(.nil 3),(.nil 3)]⟩:=rfl
theorem T96:T 96=some ⟨(.st [(0,3),(1,3),(2,3)]),3,24, [(.d (.sc (.int .i64 0))),(.d (.sc (.int .i64 0))),(.d (.sc (.int .i64 0)))]⟩:=rfl
theorem T100:T 100=some ⟨(.st [(0,24),(2,26),(3,26)]),4,80, [(.d (.sc (.int .i64 0))),(.nil 58),(.nil 25),(.nil 25)]⟩:=rfl
theorem T122:T 122=some ⟨(.sl 4),1,24, [(.nil 4)]⟩:=rfl
theorem T123:T 123=some ⟨(.pt 133),1,8, [(.d (.sc (.pointer none)))]⟩:=rfl
theorem T131:T 131=some ⟨(.st [(0,80)]),1,24, [(.nil 96)]⟩:=rfl
theorem T133:T 133=some ⟨(.st [(0,131),(1,45),(2,25)]),3,56, [(.nil 96),(.d (.sc (.pointer none))),(.nil 3)]⟩:=rfl
theorem T152:T 152=some ⟨(.int .u64),1,8, [(.d (.sc (.int .u64 0)))]⟩:=rfl
theorem T161:T 161=some ⟨(.pt 131),1,8, [(.d (.sc (.pointer none)))]⟩:=rfl
theorem T163:T 163=some ⟨(.pt 165),1,8, [(.d (.sc (.pointer none)))]⟩:=rfl
theorem T165:T 165=some ⟨(.st [(0,24),(2,80),(3,25)]),4,80, [(.d (.sc (.int .i64 0))),(.nil 58),(.nil 96),(.nil 3)]⟩:=rfl
theorem T173:T 173=some ⟨(.int .i64),1,8, [(.d (.sc (.int .i64 0)))]⟩:=rfl
theorem T181:T 181=some ⟨(.int .u32),1,4, [(.d (.sc (.int .u32 0)))]⟩:=rfl
theorem T186:T 186=some ⟨(.int .u64),1,8, [(.d (.sc (.int .u64 0)))]⟩:=rfl
theorem T190:T 190=some ⟨(.pt 3),1,8, [(.d (.sc (.pointer none)))]⟩:=rfl
theorem T197:T 197=some ⟨(.pt 186),1,8, [(.d (.sc (.pointer none)))]⟩:=rfl
theorem T219:T 219=some ⟨(.pt 5),1,8, [(.d (.sc (.pointer none)))]⟩:=rfl
def zZ:Nat→Option Nat
 |58=>some 2
 |96=>some 3
 |_=>none
theorem eqn58:zZ 58=some 2:=rfl
theorem eqn96:zZ 96=some 3:=rfl
theorem OQ:aN Tryz.prog 2 ⟨(.int .i64),1,8, [(.d (.sc (.int .i64 0)))]⟩:=aN.mk' (by kernel_rfl) (by kernel_rfl) rfl Tryz.underlying2
theorem OR:aN Tryz.prog 3 ⟨(.int .i64),1,8, [(.d (.sc (.int .i64 0)))]⟩:=aN.mk' (by kernel_rfl) (by kernel_rfl) rfl Tryz.underlying3
theorem OS:aN Tryz.prog 4 ⟨.bool,1,1, [(.d (.sc (.bool false)))]⟩:=aN.mk' (by kernel_rfl) (by kernel_rfl) rfl Tryz.underlying4
theorem OU:aN Tryz.prog 5 ⟨(.int .u8),1,1, [(.d (.sc (.int .u8 0)))]⟩:=aN.mk' (by kernel_rfl) (by kernel_rfl) rfl Tryz.underlying5
theorem OV:aN Tryz.prog 9 ⟨.sc,1,16, [(.d (.sc (.string ⟨#[]⟩)))]⟩:=aN.mk' (by kernel_rfl) (by kernel_rfl) rfl ⟨_,Tryz.underlying9,trivial⟩
theorem LP:aN Tryz.prog 12 ⟨(.int .u64),1,8, [(.d (.sc (.int .u64 0)))]⟩:=aN.mk' (by kernel_rfl) (by kernel_rfl) rfl Tryz.underlying12
theorem LQ:aN Tryz.prog 21 ⟨(.int .i32),1,4, [(.d (.sc (.int .i32 0)))]⟩:=aN.mk' (by kernel_rfl) (by kernel_rfl) rfl Tryz.underlying21
theorem LR:aN Tryz.prog 22 ⟨(.sl 58),1,24, [(.nil 58)]⟩:=aN.mk' (by kernel_rfl) (by kernel_rfl) rfl Tryz.underlying22
theorem LS:aN Tryz.prog 24 ⟨(.st [(0,3),(1,22)]),2,32, [(.d (.sc (.int .i64 0))),(.nil 58)]⟩:=aN.mk' (by kernel_rfl) (by kernel_rfl) rfl ⟨_,Tryz.underlying24,rfl⟩
theorem LU:aN Tryz.prog 25 ⟨(.sl 3),1,24, [(.nil 3)]⟩:=aN.mk' (by kernel_rfl) (by kernel_rfl) rfl Tryz.underlying25
theorem LV:aN Tryz.prog 26 ⟨(.sl 25),1,24, [(.nil 25)]⟩:=aN.mk' (by kernel_rfl) (by kernel_rfl) rfl Tryz.underlying26
theorem LW:aN Tryz.prog 28 ⟨(.st [(0,25),(1,26)]),2,48, [(.nil 3),(.nil 25)]⟩:=aN.mk' (by kernel_rfl) (by kernel_rfl) rfl ⟨_,Tryz.underlying28,rfl⟩
theorem LX:aN Tryz.prog 32 ⟨(.st [(0,25),(1,25),(2,25),(3,25)]),4,96, [(.nil 3),(.nil 3),(.nil 3),(.nil 3)]⟩:=aN.mk' (by kernel_rfl) (by kernel_rfl) rfl ⟨_,Tryz.underlying32,rfl⟩
theorem LY:aN Tryz.prog 33 ⟨(.int .i64),1,8, [(.d (.sc (.int .i64 0)))]⟩:=aN.mk' (by kernel_rfl) (by kernel_rfl) rfl Tryz.underlying33
theorem LZ:aN Tryz.prog 37 ⟨(.st [(0,25),(1,25),(2,25),(3,25)]),4,96, [(.nil 3),(.nil 3),(.nil 3),(.nil 3)]⟩:=aN.mk' (by kernel_rfl) (by kernel_rfl) rfl ⟨_,Tryz.underlying37,rfl⟩
theorem L0:aN Tryz.prog 45 ⟨(.pt 100),1,8, [(.d (.sc (.pointer none)))]⟩:=aN.mk' (by kernel_rfl) (by kernel_rfl) rfl Tryz.underlying45
theorem L3:aN Tryz.prog 50 ⟨(.sl 25),1,24, [(.nil 25)]⟩:=aN.mk' (by kernel_rfl) (by kernel_rfl) rfl Tryz.underlying50
theorem L4:aN Tryz.prog 55 ⟨(.sl 60),1,24, [(.nil 60)]⟩:=aN.mk' (by kernel_rfl) (by kernel_rfl) rfl Tryz.underlying55
theorem L5:aN Tryz.prog 58 ⟨(.st [(0,3),(1,3)]),2,16, [(.d (.sc (.int .i64 0))),(.d (.sc (.int .i64 0)))]⟩:=aN.mk' (by kernel_rfl) (by kernel_rfl) rfl ⟨_,Tryz.underlying58,rfl⟩
theorem L6:aN Tryz.prog 59 ⟨(.int .u64),1,8, [(.d (.sc (.int .u64 0)))]⟩:=aN.mk' (by kernel_rfl) (by kernel_rfl) rfl Tryz.underlying59
theorem L7:aN Tryz.prog 60 ⟨(.int .u64),1,8, [(.d (.sc (.int .u64 0)))]⟩:=aN.mk' (by kernel_rfl) (by kernel_rfl) rfl Tryz.underlying60
theorem L8:aN Tryz.prog 61 ⟨.sc,1,8, [(.d (.sc .nilFunc))]⟩:=aN.mk' (by kernel_rfl) (by kernel_rfl) rfl ⟨_,Tryz.underlying61,trivial⟩
theorem L9:aN Tryz.prog 62 ⟨(.ar 4 4),4,4, [(.d (.sc (.bool false))),(.d (.sc (.bool false))),(.d (.sc (.bool false))),(.d (.sc (.bool false)))]⟩:=aN.mk' (by kernel_rfl) (by kernel_rfl) rfl Tryz.underlying62
theorem Ma:aN Tryz.prog 64 ⟨(.st [(0,25),(1,25),(2,25),(3,25)]),4,96, [(.nil 3),(.nil 3),(.nil 3),(.nil 3)]⟩:=aN.mk' (by kernel_rfl) (by kernel_rfl) rfl ⟨_,Tryz.underlying64,rfl⟩
theorem Mb:aN Tryz.prog 67 ⟨(.st [(0,25),(1,25),(2,25),(3,25)]),4,96, [(.nil 3),(.nil 3),(.nil 3),(.nil 3)]⟩:=aN.mk' (by kernel_rfl) (by kernel_rfl) rfl ⟨_,Tryz.underlying67,rfl⟩
theorem Mc:aN Tryz.prog 79 ⟨(.sl 80),1,24, [(.nil 80)]⟩:=aN.mk' (by kernel_rfl) (by kernel_rfl) rfl Tryz.underlying79
theorem Md:aN Tryz.prog 80 ⟨(.sl 96),1,24, [(.nil 96)]⟩:=aN.mk' (by kernel_rfl) (by kernel_rfl) rfl Tryz.underlying80
theorem Me:aN Tryz.prog 82 ⟨(.st [(0,33),(1,3),(2,25)]),3,40, [(.d (.sc (.int .i64 0))),(.d (.sc (.int .i64 0))),(.nil 3)]⟩:=aN.mk' (by kernel_rfl) (by kernel_rfl) rfl ⟨_,Tryz.underlying82,rfl⟩
theorem Mf:aN Tryz.prog 88 ⟨(.pt 90),1,8, [(.d (.sc (.pointer none)))]⟩:=aN.mk' (by kernel_rfl) (by kernel_rfl) rfl Tryz.underlying88
theorem Mg:aN Tryz.prog 90 ⟨(.st [(0,25),(1,25),(2,32)]),6,144, [(.nil 3),(.nil 3),(.nil 3),(.nil 3),(.nil 3),(.nil 3)]⟩:=aN.mk' (by kernel_rfl) (by kernel_rfl) rfl ⟨_,Tryz.underlying90,rfl⟩
theorem Mh:aN Tryz.prog 96 ⟨(.st [(0,3),(1,3),(2,3)]),3,24, [(.d (.sc (.int .i64 0))),(.d (.sc (.int .i64 0))),(.d (.sc (.int .i64 0)))]⟩:=aN.mk' (by kernel_rfl) (by kernel_rfl) rfl ⟨_,Tryz.underlying96,rfl⟩
theorem JC:aN Tryz.prog 100 ⟨(.st [(0,24),(2,26),(3,26)]),4,80, [(.d (.sc (.int .i64 0))),(.nil 58),(.nil 25),(.nil 25)]⟩:=aN.mk' (by kernel_rfl) (by kernel_rfl) rfl ⟨_,Tryz.underlying100,rfl⟩
theorem JD:aN Tryz.prog 122 ⟨(.sl 4),1,24, [(.nil 4)]⟩:=aN.mk' (by kernel_rfl) (by kernel_rfl) rfl Tryz.underlying122
theorem JE:aN Tryz.prog 123 ⟨(.pt 133),1,8, [(.d (.sc (.pointer none)))]⟩:=aN.mk' (by kernel_rfl) (by kernel_rfl) rfl Tryz.underlying123
theorem JF:aN Tryz.prog 131 ⟨(.st [(0,80)]),1,24, [(.nil 96)]⟩:=aN.mk' (by kernel_rfl) (by kernel_rfl) rfl ⟨_,Tryz.underlying131,rfl⟩
theorem JG:aN Tryz.prog 133 ⟨(.st [(0,131),(1,45),(2,25)]),3,56, [(.nil 96),(.d (.sc (.pointer none))),(.nil 3)]⟩:=aN.mk' (by kernel_rfl) (by kernel_rfl) rfl ⟨_,Tryz.underlying133,rfl⟩
theorem JH:aN Tryz.prog 152 ⟨(.int .u64),1,8, [(.d (.sc (.int .u64 0)))]⟩:=aN.mk' (by kernel_rfl) (by kernel_rfl) rfl Tryz.underlying152
theorem JI:aN Tryz.prog 161 ⟨(.pt 131),1,8, [(.d (.sc (.pointer none)))]⟩:=aN.mk' (by kernel_rfl) (by kernel_rfl) rfl Tryz.underlying161
theorem JJ:aN Tryz.prog 163 ⟨(.pt 165),1,8, [(.d (.sc (.pointer none)))]⟩:=aN.mk' (by kernel_rfl) (by kernel_rfl) rfl Tryz.underlying163
theorem JK:aN Tryz.prog 165 ⟨(.st [(0,24),(2,80),(3,25)]),4,80, [(.d (.sc (.int .i64 0))),(.nil 58),(.nil 96),(.nil 3)]⟩:=aN.mk' (by kernel_rfl) (by kernel_rfl) rfl ⟨_,Tryz.underlying165,rfl⟩
theorem JL:aN Tryz.prog 173 ⟨(.int .i64),1,8, [(.d (.sc (.int .i64 0)))]⟩:=aN.mk' (by kernel_rfl) (by kernel_rfl) rfl Tryz.underlying173
theorem JM:aN Tryz.prog 181 ⟨(.int .u32),1,4, [(.d (.sc (.int .u32 0)))]⟩:=aN.mk' (by kernel_rfl) (by kernel_rfl) rfl Tryz.underlying181
theorem JN:aN Tryz.prog 186 ⟨(.int .u64),1,8, [(.d (.sc (.int .u64 0)))]⟩:=aN.mk' (by kernel_rfl) (by kernel_rfl) rfl Tryz.underlying186
theorem JO:aN Tryz.prog 190 ⟨(.pt 3),1,8, [(.d (.sc (.pointer none)))]⟩:=aN.mk' (by kernel_rfl) (by kernel_rfl) rfl Tryz.underlying190
theorem JP:aN Tryz.prog 197 ⟨(.pt 186),1,8, [(.d (.sc (.pointer none)))]⟩:=aN.mk' (by kernel_rfl) (by kernel_rfl) rfl Tryz.underlying197
theorem JQ:aN Tryz.prog 219 ⟨(.pt 5),1,8, [(.d (.sc (.pointer none)))]⟩:=aN.mk' (by kernel_rfl) (by kernel_rfl) rfl Tryz.underlying219
theorem Mi:nR Tryz.prog 58 2:=nR.two (by kernel_rfl) (by kernel_rfl) Tryz.underlying58 (by decide) rfl Tryz.underlying3 (by decide) rfl Tryz.underlying3
theorem Mj:nR Tryz.prog 96 3:=nR.three (by kernel_rfl) (by kernel_rfl) Tryz.underlying96 (by decide) rfl Tryz.underlying3 (by decide) rfl Tryz.underlying3 (by decide) rfl Tryz.underlying3
theorem OW:∀t ti,T t=some ti→aN Tryz.prog t ti:=by
 intro t ti h
 unfold T at h
 split at h
 ·cases h;exact OQ
 ·cases h;exact OR
 ·cases h;exact OS
 ·cases h;exact OU
 ·cases h;exact OV
 ·cases h;exact LP
 ·cases h;exact LQ
 ·cases h;exact LR
 ·cases h;exact LS
 ·cases h;exact LU
 ·cases h;exact LV
 ·cases h;exact LW
 ·cases h;exact LX
 ·cases h;exact LY
 ·cases h;exact LZ
 ·cases h;exact L0
 ·cases h;exact L3
 ·cases h;exact L4
 ·cases h;exact L5
 ·cases h;exact L6
 ·cases h;exact L7
 ·cases h;exact L8
 ·cases h;exact L9
 ·cases h;exact Ma
 ·cases h;exact Mb
 ·cases h;exact Mc
 ·cases h;exact Md
 ·cases h;exact Me
 ·cases h;exact Mf
 ·cases h;exact Mg
 ·cases h;exact Mh
 ·cases h;exact JC
 ·cases h;exact JD
 ·cases h;exact JE
 ·cases h;exact JF
 ·cases h;exact JG
 ·cases h;exact JH
 ·cases h;exact JI
 ·cases h;exact JJ
 ·cases h;exact JK
 ·cases h;exact JL
 ·cases h;exact JM
 ·cases h;exact JN
 ·cases h;exact JO
 ·cases h;exact JP
 ·cases h;exact JQ
 ·cases h
theorem OX:∀t n,zZ t=some n→nR Tryz.prog t n:=by
 intro t n h
 unfold zZ at h
 split at h
 ·cases h;exact Mi
 ·cases h;exact Mj
 ·cases h
def cfg (own yK:List Nat):Cfg:=⟨T,own,zZ,yK⟩
theorem cfg_T (own yK:List Nat):(cfg own yK).T=T:=rfl
theorem cfg_own (own yK:List Nat):(cfg own yK).own=own:=rfl
theorem cfg_nst (own yK:List Nat):(cfg own yK).yK=yK:=rfl
theorem cfg_eqn (own yK:List Nat):(cfg own yK).zZ=zZ:=rfl
theorem aj (own yK:List Nat):(cfg own yK).Ok Tryz.prog:=⟨OW,OX⟩
theorem mixed:Tryz.prog.follows .mixedOrders=true:=by kernel_rfl
attribute [go_sem] T2 T3 T4 T5 T9 T12 T21 T22 T24 T25 T26 T28 T32 T33 T37 T45 T50 T55 T58 T59 T60 T61 T62 T64 T67 T79 T80 T82 T88 T90 T96 T100 T122 T123 T131 T133 T152 T161 T163 T165 T173 T181 T186 T190 T197 T219 eqn58 eqn96 cfg_T cfg_own cfg_nst cfg_eqn
end Go.Ab.T
end
section
namespace Go.Ab
set_option maxRecDepth 10000
structure PS where
 m:Nat
 src:Int
 Hy:Int
 tl:Int→Int
 hd:Int→Int
 ins:Int→List Int
 outs:Int→List Int
 EZ:Int→Nat
 Row:Nat→List Int→List Int→Prop
 k0:Nat
def PS.E (P:PS) (e:Int):Prop:=0≤e∧e<P.m
structure PS.Ok (P:PS):Prop where
 jI:∀x e,e∈P.outs x↔P.E e∧P.tl e=x
 dO:∀x e,e∈P.ins x↔P.E e∧P.hd e=x
 oq:∀x,(P.outs x).Nodup
 zk:∀x,(P.ins x).Nodup
 pJ:∀e,P.E e→P.EZ (P.tl e)<P.EZ (P.hd e)
 FJ:P.Row P.k0 (P.outs P.src) [P.src]
 nj:∀ {k W D},P.Row k W D→W.Nodup
 eS:∀ {k W D},P.Row k W D→∀e,e∈W↔P.E e∧P.tl e∈D∧P.hd e∉D
 lB:∀ {k W D},P.Row (k+1) W D→∃x A C,W=A++P.ins x++C∧P.ins x≠ []
 ot:∀ {k W D x A C},P.Row k W D→W=A++P.ins x++C→P.ins x≠ []→∃k',k=k'+1∧P.Row k' (A++P.outs x++C) (D++ [x])
 mz:∀ {W D},P.Row 0 W D→∀e,P.E e→P.hd e∈D
 qL:∀ {k W D},P.Row k W D→P.src∈D
 qM:∀ {k W D},P.Row k W D→P.Hy∈D→k=0
 vQ:P.ins P.src= []
 qN:∀x,P.ins x≠ []→(P.outs x= []↔x=P.Hy)
theorem pK {l:List Int} :l.reverse.Nodup↔l.Nodup:=(List.reverse_perm l).nodup_iff
def PS.Cq (P:PS):PS:= {P with ins:=fun x=>(P.ins x).reverse,outs:=fun x=>(P.outs x).reverse,Row:=fun k W D=>P.Row k W.reverse D}
theorem PS.Ok.Cq {P:PS} (h:P.Ok):P.Cq.Ok:=
 {jI:=fun x e=>by show e∈(P.outs x).reverse↔_;rw [List.mem_reverse];exact h.jI x e
  dO:=fun x e=>by show e∈(P.ins x).reverse↔_;rw [List.mem_reverse];exact h.dO x e
  oq:=fun x=>by show (P.outs x).reverse.Nodup;exact pK.2 (h.oq x)
  zk:=fun x=>by show (P.ins x).reverse.Nodup;exact pK.2 (h.zk x)
  pJ:=h.pJ
  FJ:=by show P.Row _ (P.outs P.src).reverse.reverse _;rw [List.reverse_reverse];exact h.FJ
  nj:=fun {k W D} hr=>pK.1 (h.nj (show P.Row k W.reverse D from hr))
  eS:=fun {k W D} hr e=>by
   have:=h.eS (show P.Row k W.reverse D from hr) e
   rw [List.mem_reverse] at this
   exact this
  lB:=fun {k W D} hr=>by
   obtain ⟨x,A,C,h1,h2⟩:=h.lB (show P.Row (k+1) W.reverse D from hr)
   refine ⟨x,C.reverse,A.reverse, ?_,fun h3=>h2 (List.reverse_eq_nil_iff.1 h3)⟩
   show W=C.reverse++(P.ins x).reverse++A.reverse
   rw [← List.reverse_reverse W,h1]
   simp
  ot:=fun {k W D x A C} hr h1 h2=>by
   have h1:W=A++(P.ins x).reverse++C:=h1
   obtain ⟨k',h3,h4⟩:=h.ot (x:=x) (A:=C.reverse) (C:=A.reverse) (show P.Row k W.reverse D from hr) (by rw [h1];simp) (fun h3=>h2 (List.reverse_eq_nil_iff.2 h3))
   refine ⟨k',h3, ?_⟩
   show P.Row k' (A++(P.outs x).reverse++C).reverse (D++ [x])
   have e:(A++(P.outs x).reverse++C).reverse=C.reverse++P.outs x++A.reverse:=by simp
   rw [e];exact h4
  mz:=fun {W D} hr=>h.mz (show P.Row 0 W.reverse D from hr)
  qL:=fun {k W D} hr=>h.qL (show P.Row k W.reverse D from hr)
  qM:=fun {k W D} hr=>h.qM (show P.Row k W.reverse D from hr)
  vQ:=by show (P.ins P.src).reverse= [];rw [h.vQ];rfl
  qN:=fun x hx=>by
   have h2:P.ins x≠ []:=fun h3=>hx (by show (P.ins x).reverse= [];rw [h3];rfl)
   show (P.outs x).reverse= []↔_
   rw [List.reverse_eq_nil_iff];exact h.qN x h2}
structure MS where
 A:List Int
 B:List Int
 D:List Int
def PS.next (P:PS) (s:MS):MS:=
 match s.B with
 | []=>s
 |e::B=>if P.ins (P.hd e)<:+s.A++ [e] then ⟨(s.A++ [e]).take (s.A.length+1 - (P.ins (P.hd e)).length),P.outs (P.hd e)++B,s.D++ [P.hd e]⟩ else ⟨s.A++ [e],B,s.D⟩
def PS.st (P:PS):Nat→MS
 |0=>⟨[],P.outs P.src, [P.src]⟩
 |j+1=>P.next (P.st j)
def PS.sh (P:PS) (j:Nat):Int:=(P.st j).B.headD 0
def PS.qD (P:PS) (j:Nat):List Int:=(List.range j).map P.sh
variable {P:PS}
theorem PS.sG {j:Nat} :P.qD (j+1)=P.qD j++ [P.sh j]:=by simp [PS.qD,List.range_succ]
theorem PS.qO {j:Nat} :(P.qD j).length=j:=by simp [PS.qD]
theorem PS.vR {j:Nat} {e:Int} :e∈P.qD j↔∃i,i<j∧P.sh i=e:=by simp [PS.qD]
structure PS.Inv (P:PS) (j:Nat) (s:MS):Prop where
 row:∃k,P.Row k (s.A++s.B) s.D
 no:∀h,P.ins h≠ []→¬P.ins h<:+:s.A
 nd:(P.qD j).Nodup
 sh:∀e,e∈P.qD j↔P.E e∧(e∈s.A∨P.hd e∈s.D)
 len:j≤P.m
theorem ff:∀ {l m:List Int},l.Nodup→(∀i∈l,i∈m)→l.length≤m.length
 | [],_,_,_=>Nat.zero_le _
 |a::l,m,hn,h=>by
  rw [List.nodup_cons] at hn
  have ha:=h a (List.mem_cons_self ..)
  have:=ff (m:=m.erase a) hn.2 fun i hi=>(List.mem_erase_of_ne (show i≠a from fun e=>hn.1 (by rw [← e];exact hi))).2 (h i (List.mem_cons_of_mem _ hi))
  rw [List.length_erase_of_mem ha] at this
  have:=List.length_pos_of_mem ha
  rw [List.length_cons];omega
theorem pL {l:List Int} {m:Nat} (hall:∀e:Int,0≤e→e<m→e∈l):m≤l.length:=by
 have:=ff (l:=(List.range m).map Int.ofNat) (m:=l) (List.pairwise_map.2 (List.nodup_range.imp fun hab e=>hab (Int.ofNat.inj e))) fun x hx=>by
  obtain ⟨a,ha,rfl⟩:=List.mem_map.1 hx
  have:=List.mem_range.1 ha
  exact hall _ (by simp) (by simp;omega)
 simpa using this
theorem xT {X Y:List Int} (h:X<:+Y):Y=Y.take (Y.length - X.length)++X:=by
 obtain ⟨t,rfl⟩:=h
 simp
theorem PS.Inv.more (h:P.Ok) {j:Nat} {s:MS} (hi:P.Inv j s) (hj:j<P.m):∃e B,s.B=e::B:=by
 cases hB:s.B with
 |cons e B=>exact ⟨e,B,rfl⟩
 |nil=>
  exfalso
  obtain ⟨k,hr⟩:=hi.row
  rw [hB,List.append_nil] at hr
  cases k with
  |succ k=>
   obtain ⟨x,A,C,h1,h2⟩:=h.lB hr
   exact hi.no x h2 ⟨A,C,h1.symm⟩
  |zero=>
   have hall:∀e,P.E e→e∈P.qD j:=fun e he=>(hi.sh e).2 ⟨he, .inr (h.mz hr e he)⟩
   have:=pL (fun e h1 h2=>hall e ⟨h1,h2⟩)
   rw [PS.qO] at this
   omega
theorem PS.Bn {s:MS} {e:Int} {B:List Int} (hB:s.B=e::B):P.next s=if P.ins (P.hd e)<:+s.A++ [e] then ⟨(s.A++ [e]).take (s.A.length+1 - (P.ins (P.hd e)).length),P.outs (P.hd e)++B,s.D++ [P.hd e]⟩ else ⟨s.A++ [e],B,s.D⟩:=by
 unfold PS.next;rw [hB]
theorem PS.sH (h:P.Ok) {s:MS} {k:Nat} {e:Int} {B:List Int} (hr:P.Row k (s.A++s.B) s.D) (hB:s.B=e::B):
 P.E e∧((∃A',s.A++ [e]=A'++P.ins (P.hd e)∧P.ins (P.hd e)≠ []∧P.next s=⟨A',P.outs (P.hd e)++B,s.D++ [P.hd e]⟩)∨(¬P.ins (P.hd e)<:+s.A++ [e]∧P.next s=⟨s.A++ [e],B,s.D⟩)):=by
 have he:P.E e:=((h.eS hr e).1 (by rw [hB];simp)).1
 refine ⟨he, ?_⟩
 rw [PS.Bn hB]
 by_cases hs:P.ins (P.hd e)<:+s.A++ [e]
 ·rw [if_pos hs]
  refine .inl ⟨_, ?_,fun h0=> ?_,rfl⟩
  ·have:=xT hs
   simpa using this
  ·have:=(h.dO (P.hd e) e).2 ⟨he,rfl⟩
   rw [h0] at this;cases this
 ·rw [if_neg hs];exact .inr ⟨hs,rfl⟩
theorem zm {X A:List Int} {e:Int} (h:X<:+:A++ [e]):X<:+:A∨X<:+A++ [e]:=by
 obtain ⟨s,t,ht⟩:=h
 rcases List.eq_nil_or_concat t with rfl|⟨t',a,rfl⟩
 ·rw [List.append_nil] at ht;exact .inr ⟨s,ht⟩
 ·left
  refine ⟨s,t', ?_⟩
  have:s++X++t'++ [a]=A++ [e]:=by rw [← ht];simp
  exact (List.append_inj' this rfl).1
theorem PS.inv (h:P.Ok):∀j,j≤P.m→P.Inv j (P.st j)
 |0,_=>⟨⟨_,h.FJ⟩,fun x hx hs=>hx (by
    have:P.ins x<:+: []:=hs
    simpa using this),by simp [PS.qD],fun e=>(by
     simp only [PS.qD,List.range_zero,List.map_nil,List.not_mem_nil,false_iff]
     rintro ⟨he,h1|h1⟩
     ·cases h1
     ·have h1:P.hd e∈ [P.src]:=h1
      have h2:P.hd e=P.src:=by simpa using h1
      have:=(h.dO P.src e).2 ⟨he,h2⟩
      rw [h.vQ] at this;cases this),Nat.zero_le _⟩
 |j+1,hj=>by
  have hi:=PS.inv h j (by omega)
  obtain ⟨e,B,hB⟩:=hi.more h (by omega)
  obtain ⟨k,hr⟩:=hi.row
  have hsh:P.sh j=e:=by unfold PS.sh;rw [hB];rfl
  have OY:e∈(P.st j).A++(P.st j).B:=by rw [hB];simp
  have hm:=(h.eS hr e).1 OY
  have cI:=h.nj hr
  have OZ:e∉(P.st j).A:=fun hA=>by
   rw [List.nodup_append] at cI
   exact cI.2.2 e hA e (by rw [hB];simp) rfl
  have hnew:e∉P.qD j:=fun h1=>by
   rcases ((hi.sh e).1 h1).2 with h2|h2
   ·exact OZ h2
   ·exact hm.2.2 h2
  have JR:(P.qD (j+1)).Nodup:=by
   rw [PS.sG,hsh,List.nodup_append]
   exact ⟨hi.nd,by simp,fun a ha b hb=>by
    rw [List.mem_singleton] at hb
    subst hb
    intro e2;exact hnew (e2 ▸ ha)⟩
  obtain ⟨he,hc⟩:=PS.sH h hr hB
  have hst:P.st (j+1)=P.next (P.st j):=rfl
  rw [hst]
  rcases hc with ⟨A',h1,h2,h3⟩|⟨h1,h3⟩
  ·rw [h3]
   have hrow:(P.st j).A++(P.st j).B=A'++P.ins (P.hd e)++B:=by rw [hB, ← h1];simp
   obtain ⟨k',rfl,hr'⟩:=h.ot hr hrow h2
   refine ⟨⟨k',by simpa using hr'⟩,fun x hx hs=> ?_,JR,fun f=> ?_,hj⟩
   ·have hs:P.ins x<:+:A':=hs
    have hA:¬P.ins x<:+:(P.st j).A:=hi.no x hx
    obtain ⟨u,v,huv⟩:=hs
    rcases List.eq_nil_or_concat (P.ins (P.hd e)) with h0|⟨I',a,h0⟩
    ·exact h2 h0
    ·rw [h0, ← List.concat_eq_append,List.concat_eq_append] at h1
     have h4:(P.st j).A++ [e]=(A'++I')++ [a]:=by rw [h1];simp
     have h5:=(List.append_inj' h4 rfl).1
     exact hA ⟨u,v++I',by rw [h5, ← huv];simp⟩
   ·rw [PS.sG,hsh,List.mem_append,List.mem_singleton,hi.sh f]
    show _↔P.E f∧(f∈A'∨P.hd f∈(P.st j).D++ [P.hd e])
    constructor
    ·rintro (⟨h4,h5|h5⟩|rfl)
     ·have:f∈A'++P.ins (P.hd e):=by rw [← h1];exact List.mem_append.2 (.inl h5)
      rcases List.mem_append.1 this with h6|h6
      ·exact ⟨h4, .inl h6⟩
      ·exact ⟨h4, .inr (by rw [((h.dO _ _).1 h6).2];simp)⟩
     ·exact ⟨h4, .inr (List.mem_append.2 (.inl h5))⟩
     ·exact ⟨he, .inr (by simp)⟩
    ·rintro ⟨h4,h5|h5⟩
     ·have:f∈(P.st j).A++ [e]:=by rw [h1];exact List.mem_append.2 (.inl h5)
      rcases List.mem_append.1 this with h6|h6
      ·exact .inl ⟨h4, .inl h6⟩
      ·exact .inr (by simpa using h6)
     ·rcases List.mem_append.1 h5 with h6|h6
      ·exact .inl ⟨h4, .inr h6⟩
      ·have h6:P.hd f=P.hd e:=by simpa using h6
       have h7:f∈P.ins (P.hd e):=(h.dO _ _).2 ⟨h4,h6⟩
       have:f∈(P.st j).A++ [e]:=by rw [h1];exact List.mem_append.2 (.inr h7)
       rcases List.mem_append.1 this with h8|h8
       ·exact .inl ⟨h4, .inl h8⟩
       ·exact .inr (by simpa using h8)
  ·rw [h3]
   refine ⟨⟨k,by simpa [hB] using hr⟩,fun x hx hs=> ?_,JR,fun f=> ?_,hj⟩
   ·rcases zm hs with h4|h4
    ·exact hi.no x hx h4
    ·have hne:e∈P.ins x:=by
      obtain ⟨t,ht⟩:=h4
      rcases List.eq_nil_or_concat (P.ins x) with h0|⟨I',a,h0⟩
      ·exact absurd h0 hx
      ·rw [h0] at ht
       have h5:(t++I')++ [a]=(P.st j).A++ [e]:=by rw [← ht];simp
       have:=(List.append_inj' h5 rfl).2
       rw [h0];simp at this ⊢;exact .inr this.symm
     rw [((h.dO _ _).1 hne).2] at h1
     exact h1 h4
   ·rw [PS.sG,hsh,List.mem_append,List.mem_singleton,hi.sh f]
    show _↔P.E f∧(f∈(P.st j).A++ [e]∨P.hd f∈(P.st j).D)
    rw [List.mem_append,List.mem_singleton]
    constructor
    ·rintro (⟨h4,h5|h5⟩|rfl)
     ·exact ⟨h4, .inl (.inl h5)⟩
     ·exact ⟨h4, .inr h5⟩
     ·exact ⟨he, .inl (.inr rfl)⟩
    ·rintro ⟨h4,(h5|h5)|h5⟩
     ·exact .inl ⟨h4, .inl h5⟩
     ·exact .inr h5
     ·exact .inl ⟨h4, .inr h5⟩
end Go.Ab
end
section
namespace Go.Ab
set_option maxRecDepth 10000
set_option linter.unusedSectionVars false
variable {P:PS}
structure PS.iE (P:PS) (L R:Int→Int) (f0 f1:Int) (low:Int→Int):Prop where
 ne:f0≠f1
 gZ:∀ {x u a b v},P.outs x=u++a::b::v→R a=L b
 vS:∀ {x u a b v},P.ins x=u++a::b::v→R a=L b
 fst:∀ {x a u b v},P.ins x=a::u→P.outs x=b::v→L a=L b
 E3:∀ {x a u b v},P.ins x=u++ [a]→P.outs x=v++ [b]→R a=R b
 s0:∀ {b v},P.outs P.src=b::v→L b=f0
 s1:∀ {b v},P.outs P.src=v++ [b]→R b=f1
 new:∀ {x u a b v},P.outs x=u++a::b::v→low (R a)=x∧R a≠f0∧R a≠f1
 new1:∀ {x u a b v u' a' b' v'},P.outs x=u++a::b::v→P.outs x=u'++a'::b'::v'→R a=R a'→a=a'
theorem Dm {l u v u' v':List Int} {a:Int} (hn:l.Nodup) (h1:l=u++a::v) (h2:l=u'++a::v'):u=u'∧v=v':=by
 induction u generalizing l u' with
 |nil=>
  cases u' with
  |nil=>rw [h1] at h2;simpa using h2
  |cons b u'=>
   rw [h1] at h2
   simp only [List.nil_append,List.cons_append,List.cons.injEq] at h2
   rw [h1,h2.2] at hn
   simp at hn
 |cons b u ih=>
  cases u' with
  |nil=>
   rw [h2] at h1
   simp only [List.nil_append,List.cons_append,List.cons.injEq] at h1
   rw [h2,h1.2] at hn
   simp at hn
  |cons b' u'=>
   have h3:=h1.symm.trans h2
   simp only [List.cons_append,List.cons.injEq] at h3
   rw [h1,List.cons_append,List.nodup_cons] at hn
   obtain ⟨h4,h5⟩:=ih hn.2 rfl h3.2
   exact ⟨by rw [h3.1,h4],h5⟩
theorem iw {l u v:List Int} {a b:Int} (h:l.reverse=u++a::b::v):l=v.reverse++b::a::u.reverse:=by
 have:=congrArg List.reverse h
 simpa using this
theorem PS.iE.Cq (h:P.Ok) {L R:Int→Int} {f0 f1:Int} {low:Int→Int} (F:P.iE L R f0 f1 low):P.Cq.iE R L f1 f0 low:=
 {ne:=F.ne.symm
  gZ:=fun {x u a b v} h=>(F.gZ (iw (show (P.outs x).reverse=_ from h))).symm
  vS:=fun {x u a b v} h=>(F.vS (iw (show (P.ins x).reverse=_ from h))).symm
  fst:=fun {x a u b v} h1 h2=>F.E3 (x:=x) (u:=u.reverse) (v:=v.reverse) (by
     have:=congrArg List.reverse (show (P.ins x).reverse=_ from h1);simpa using this) (by
     have:=congrArg List.reverse (show (P.outs x).reverse=_ from h2);simpa using this)
  E3:=fun {x a u b v} h1 h2=>F.fst (x:=x) (u:=u.reverse) (v:=v.reverse) (by
    have:=congrArg List.reverse (show (P.ins x).reverse=_ from h1);simpa using this) (by
    have:=congrArg List.reverse (show (P.outs x).reverse=_ from h2);simpa using this)
  s0:=fun {b v} h1=>F.s1 (v:=v.reverse) (by
     have:=congrArg List.reverse (show (P.outs P.src).reverse=_ from h1);simpa using this)
  s1:=fun {b v} h1=>F.s0 (v:=v.reverse) (by
     have:=congrArg List.reverse (show (P.outs P.src).reverse=_ from h1);simpa using this)
  new:=fun {x u a b v} h1=>by
   have h2:=iw (show (P.outs x).reverse=_ from h1)
   obtain ⟨h3,h4,h5⟩:=F.new h2
   have h6:=F.gZ h2
   rw [← h6];exact ⟨h3,h5,h4⟩
  new1:=fun {x u a b v u' a' b' v'} h1 h2 h3=>by
   have g1:=iw (show (P.outs x).reverse=_ from h1)
   have g2:=iw (show (P.outs x).reverse=_ from h2)
   rw [← F.gZ g1, ← F.gZ g2] at h3
   have h4:=F.new1 g1 g2 h3
   subst h4
   have:=(Dm (h.oq x) g1 g2).2
   simp only [List.cons.injEq] at this
   exact this.1}
def iF (L R:Int→Int):Int→List Int→Prop
 |_, []=>True
 |f,a::W=>L a=f∧iF L R (R a) W
def jm (R:Int→Int):Int→List Int→Int
 |f, []=>f
 |_,a::W=>jm R (R a) W
theorem cu {L R:Int→Int} :∀ {A B:List Int} {f:Int},iF L R f (A++B)↔iF L R f A∧iF L R (jm R f A) B
 | [],B,f=>by simp [iF,jm]
 |a::A,B,f=>by simp [iF,jm,cu,and_assoc]
theorem cz {R:Int→Int} :∀ {A B:List Int} {f:Int},jm R f (A++B)=jm R (jm R f A) B
 | [],B,f=>rfl
 |a::A,B,f=>by simp [jm,cz]
theorem fh {R:Int→Int} {A:List Int} {a f:Int} :jm R f (A++ [a])=R a:=by rw [cz];rfl
theorem sJ {L R:Int→Int} :∀ {X:List Int} {f:Int},(∀u a b v,X=u++a::b::v→R a=L b)→(∀a u,X=a::u→L a=f)→iF L R f X
 | [],f,_,_=>trivial
 |a::X,f,h,h1=>⟨h1 a X rfl,sJ (fun u b c v e=>h (a::u) b c v (by rw [e];rfl)) fun b v e=>(h [] a b v (by rw [e];rfl)).symm⟩
theorem Dn {L R:Int→Int} {f:Int} {u v:List Int} {a b:Int} (h:iF L R f (u++a::b::v)):R a=L b:=by
 have:=(cu.1 h).2
 exact this.2.1.symm
theorem c8 {l:List Int} (h:l≠ []):∃u a,l=u++ [a]:=by
 rcases List.eq_nil_or_concat l with h1|⟨u,a,h1⟩
 ·exact absurd h1 h
 ·exact ⟨u,a,by rw [h1,List.concat_eq_append]⟩
theorem jb {l:List Int} (h:l≠ []):∃a u,l=a::u:=by
 cases l with
 |nil=>exact absurd rfl h
 |cons a u=>exact ⟨a,u,rfl⟩
structure xU (L R:Int→Int) (f0 f1:Int) (low:Int→Int) (W D:List Int):Prop where
 lk:iF L R f0 W
 en:jm R f0 W=f1
 nd:(W.map R).Nodup
 lo:∀a∈W,R a≠f0∧(R a=f1∨(R a≠f1∧low (R a)∈D))
theorem Bo {X U V Y:List Int} {r:Int} (h:(X++(U++ [r])++Y).Nodup) (hV:V.Nodup) (hd:∀z∈V,z∉X∧z≠r∧z∉Y):(X++(V++ [r])++Y).Nodup:=by
 have h1:(X++ [r]++Y).Nodup:=by
  refine List.Nodup.sublist ?_ h
  refine List.Sublist.append (List.Sublist.append (List.Sublist.refl _) ?_) (List.Sublist.refl _)
  exact List.sublist_append_right ..
 have h2:(V++(X++ [r]++Y)).Nodup:=by
  rw [List.nodup_append]
  refine ⟨hV,h1,fun a ha b hb e=> ?_⟩
  subst e
  obtain ⟨g1,g2,g3⟩:=hd a ha
  simp only [List.mem_append,List.mem_singleton] at hb
  rcases hb with (hb|hb)|hb
  ·exact g1 hb
  ·exact g2 hb
  ·exact g3 hb
 refine (List.Perm.nodup_iff ?_).1 h2
 have:X++(V++ [r])++Y=(X++V)++([r]++Y):=by simp
 rw [this]
 have:V++(X++ [r]++Y)=(V++X)++([r]++Y):=by simp
 rw [this]
 exact List.Perm.append_right _ List.perm_append_comm
theorem mQ {R:Int→Int} :∀ {l:List Int},l.Nodup→(∀a∈l,∀b∈l,R a=R b→a=b)→(l.map R).Nodup
 | [],_,_=>by simp
 |a::l,hn,h=>by
  rw [List.nodup_cons] at hn
  rw [List.map_cons,List.nodup_cons]
  refine ⟨fun hm=> ?_,mQ hn.2 fun x hx y hy=>h x (List.mem_cons_of_mem _ hx) y (List.mem_cons_of_mem _ hy)⟩
  obtain ⟨b,hb,e⟩:=List.mem_map.1 hm
  have:=h b (List.mem_cons_of_mem _ hb) a (List.mem_cons_self ..) e
  exact hn.1 (this ▸ hb)
section
variable (h:P.Ok) {L R:Int→Int} {f0 f1:Int} {low:Int→Int} (F:P.iE L R f0 f1 low)
include h F
theorem nk {v:List Int} {b:Int} {x:Int} (hv:P.outs x=v++ [b]) {a:Int} (ha:a∈v):∃u c w,P.outs x=u++a::c::w:=by
 obtain ⟨s,t,rfl⟩:=List.append_of_mem ha
 cases t with
 |nil=>exact ⟨s,b, [],by rw [hv];simp⟩
 |cons c t=>exact ⟨s,c,t++ [b],by rw [hv];simp⟩
theorem uA {x f:Int} (hf:∀b v,P.outs x=b::v→L b=f):iF L R f (P.outs x):=sJ (fun u a b v e=>F.gZ e) fun a u e=>hf a u e
theorem An {x:Int} {v:List Int} {b:Int} (hv:P.outs x=v++ [b]):(v.map R).Nodup∧∀z∈v.map R,low z=x∧z≠f0∧z≠f1:=by
 have hn:=h.oq x
 rw [hv,List.nodup_append] at hn
 refine ⟨mQ hn.1 fun a ha a' Mk e=> ?_,fun z hz=> ?_⟩
 ·obtain ⟨u,c,w,h1⟩:=nk h F hv ha
  obtain ⟨u',c',w',h2⟩:=nk h F hv Mk
  exact F.new1 h1 h2 e
 ·obtain ⟨a,ha,rfl⟩:=List.mem_map.1 hz
  obtain ⟨u,c,w,h1⟩:=nk h F hv ha
  exact F.new h1
theorem xU.start (hne:P.outs P.src≠ []):xU L R f0 f1 low (P.outs P.src) [P.src]:=by
 obtain ⟨v,b,hv⟩:=c8 hne
 obtain ⟨n1,n2⟩:=An h F hv
 have hb:=F.s1 hv
 refine ⟨uA h F fun b v e=>F.s0 e,by rw [hv,fh,hb], ?_,fun a ha=> ?_⟩
 ·rw [hv,List.map_append,List.nodup_append]
  refine ⟨n1,by simp,fun z hz y hy e=> ?_⟩
  simp only [List.map_cons,List.map_nil,List.mem_singleton] at hy
  exact (n2 z hz).2.2 (by rw [e,hy,hb])
 ·rw [hv,List.mem_append,List.mem_singleton] at ha
  rcases ha with ha|rfl
  ·obtain ⟨g1,g2,g3⟩:=n2 (R a) (List.mem_map_of_mem ha)
   exact ⟨g2, .inr ⟨g3,by rw [g1];simp⟩⟩
  ·exact ⟨by rw [hb];exact F.ne.symm, .inl hb⟩
theorem xU.step {A C D:List Int} {x:Int} (hi:xU L R f0 f1 low (A++P.ins x++C) D) (hI:P.ins x≠ []) (hO:P.outs x≠ []) (hx:x∉D):xU L R f0 f1 low (A++P.outs x++C) (D++ [x]):=by
 obtain ⟨u,a,hu⟩:=c8 hI
 obtain ⟨v,b,hv⟩:=c8 hO
 obtain ⟨a0,u0,Dp⟩:=jb hI
 obtain ⟨b0,v0,qz⟩:=jb hO
 have hab:=F.E3 hu hv
 have h0:=F.fst Dp qz
 obtain ⟨l1,l2⟩:=cu.1 hi.lk
 obtain ⟨l3,l4⟩:=cu.1 l1
 have NC:∀f,jm R f (P.ins x)=R a:=fun f=>by rw [hu,fh]
 have ND:∀f,jm R f (P.outs x)=R b:=fun f=>by rw [hv,fh]
 have hL:L a0=jm R f0 A:=by rw [Dp] at l4;exact l4.1
 obtain ⟨n1,n2⟩:=An h F hv
 have cI:=hi.nd
 have hlo:=hi.lo
 refine ⟨?_, ?_, ?_,fun c hc=> ?_⟩
 ·rw [cu,cu]
  refine ⟨⟨l3,uA h F fun b' v' e=> ?_⟩, ?_⟩
  ·rw [qz] at e
   simp only [List.cons.injEq] at e
   rw [← e.1, ← h0,hL]
  ·rw [cz,ND]
   rw [cz,NC] at l2
   rw [← hab];exact l2
 ·have:=hi.en
  rw [cz,cz,NC] at this
  rw [cz,cz,ND, ← hab];exact this
 ·rw [List.map_append,List.map_append,hv,List.map_append]
  rw [List.map_append,List.map_append,hu,List.map_append] at cI
  simp only [List.map_cons,List.map_nil] at cI ⊢
  rw [← hab]
  have hold:∀c∈A++P.ins x++C,R c∉v.map R:=fun c hc hz=>by
   obtain ⟨g1,g2,g3⟩:=n2 _ hz
   rcases (hlo c hc).2 with h1|⟨_,h1⟩
   ·exact g3 h1
   ·rw [g1] at h1;exact hx h1
  refine Bo cI n1 fun z hz=>⟨fun Bk=> ?_,fun Bk=> ?_,fun Bk=> ?_⟩
  ·obtain ⟨c,hc,rfl⟩:=List.mem_map.1 Bk
   exact hold c (by simp [hc]) hz
  ·exact hold a (by rw [hu];simp) (Bk ▸ hz)
  ·obtain ⟨c,hc,rfl⟩:=List.mem_map.1 Bk
   exact hold c (by simp [hc]) hz
 ·have hold:∀c∈A++P.ins x++C,R c≠f0∧(R c=f1∨(R c≠f1∧low (R c)∈D++ [x])):=fun c hc=>by
   obtain ⟨g1,g2⟩:=hlo c hc
   exact ⟨g1,g2.imp id fun ⟨g3,g4⟩=>⟨g3,List.mem_append.2 (.inl g4)⟩⟩
  simp only [List.mem_append] at hc
  rcases hc with (hc|hc)|hc
  ·exact hold c (by simp [hc])
  ·rw [hv,List.mem_append,List.mem_singleton] at hc
   rcases hc with hc|rfl
   ·obtain ⟨g1,g2,g3⟩:=n2 (R c) (List.mem_map_of_mem hc)
    exact ⟨g2, .inr ⟨g3,by rw [g1];simp⟩⟩
   ·have:=hold a (by rw [hu];simp)
    rw [hab] at this;exact this
  ·exact hold c (by simp [hc])
end
end Go.Ab
end
section
namespace Go.Ab
set_option maxRecDepth 10000
set_option linter.unusedSectionVars false
variable {P:PS}
inductive PS.Dq (P:PS) (x:Int):Int→Prop
 |refl:P.Dq x x
 |step {e:Int} :P.Dq x (P.tl e)→P.E e→P.Dq x (P.hd e)
theorem PS.Dq.trans {x y z:Int} (h1:P.Dq x y) (h2:P.Dq y z):P.Dq x z:=by
 induction h2 with
 |refl=>exact h1
 |step _ he ih=>exact .step ih he
inductive PS.Lp (P:PS) (L R:Int→Int) (F:Int):Int→Prop
 |refl:P.Lp L R F F
 |step {e:Int} :P.Lp L R F (L e)→P.E e→P.Lp L R F (R e)
theorem PS.Lp.trans {L R:Int→Int} {x y z:Int} (h1:P.Lp L R x y) (h2:P.Lp L R y z):P.Lp L R x z:=by
 induction h2 with
 |refl=>exact h1
 |step _ he ih=>exact .step ih he
theorem PS.Lp.head {L R:Int→Int} {e z:Int} (he:P.E e) (h2:P.Lp L R (R e) z):P.Lp L R (L e) z:=(PS.Lp.step .refl he).trans h2
theorem PS.Lp.Cq {L R:Int→Int} {x y:Int} (h1:P.Lp L R x y):P.Cq.Lp R L y x:=by
 induction h1 with
 |refl=>exact .refl
 | @step e h1 he ih=>exact PS.Lp.head (P:=P.Cq) (L:=R) (R:=L) (e:=e) he ih
theorem PS.Dq.Cq {x y:Int} (h1:P.Dq x y):P.Cq.Dq x y:=by
 induction h1 with
 |refl=>exact .refl
 |step h1 he ih=>exact PS.Dq.step (P:=P.Cq) ih he
section
variable (h:P.Ok)
include h
theorem pM {j:Nat} (hj:j≤P.m):∃k,P.Row k ((P.st j).A++(P.st j).B) (P.st j).D:=(P.inv h j hj).row
theorem jc {j:Nat} (hj:j<P.m):∃B,(P.st j).B=P.sh j::B:=by
 obtain ⟨e,B,hB⟩:=(P.inv h j (by omega)).more h hj
 refine ⟨B, ?_⟩
 have:P.sh j=e:=by unfold PS.sh;rw [hB];rfl
 rw [this,hB]
theorem FK {j:Nat} (hj:j<P.m):P.E (P.sh j):=by
 obtain ⟨B,hB⟩:=jc h hj
 obtain ⟨k,hr⟩:=pM h (Nat.le_of_lt hj)
 exact ((h.eS hr _).1 (by rw [hB];simp)).1
theorem Hz {i j:Nat} (hi:i<P.m) (hj:j<P.m) (e:P.sh i=P.sh j):i=j:=by
 have hn:=(P.inv h P.m (Nat.le_refl _)).nd
 have hl:=PS.qO (P:=P) (j:=P.m)
 have gi:(P.qD P.m)[i]'(by omega)=P.sh i:=by simp [PS.qD]
 have gj:(P.qD P.m)[j]'(by omega)=P.sh j:=by simp [PS.qD]
 exact (List.getElem_inj hn).1 (by rw [gi,gj,e])
theorem mA {e:Int} (he:P.E e):∃j,j<P.m∧P.sh j=e:=by
 have hi:=P.inv h P.m (Nat.le_refl _)
 refine Decidable.byContradiction fun hne=> ?_
 have hne:e∉P.qD P.m:=fun hm=>hne (PS.vR.1 hm)
 have cI:(e::P.qD P.m).Nodup:=List.nodup_cons.2 ⟨hne,hi.nd⟩
 have:=ff (m:=(List.range P.m).map Int.ofNat) cI fun x hx=>by
  have hE:P.E x:=by
   rcases List.mem_cons.1 hx with rfl|hx
   ·exact he
   ·exact ((hi.sh x).1 hx).1
  have h1:=hE.1;have h2:=hE.2
  exact List.mem_map.2 ⟨x.toNat,List.mem_range.2 (by omega),by simp;omega⟩
 simp [PS.qO] at this
 omega
theorem Ao {i j:Nat} (hi:i<P.m) (hj:j≤P.m):P.sh i∈P.qD j↔i<j:=by
 rw [PS.vR]
 constructor
 ·rintro ⟨i',h1,h2⟩
  have:=Hz h (by omega) hi h2
  omega
 ·exact fun h1=>⟨i,h1,rfl⟩
theorem HA:(P.st P.m).A= []:=by
 have hi:=P.inv h P.m (Nat.le_refl _)
 obtain ⟨k,hr⟩:=hi.row
 have hB:(P.st P.m).B= []:=by
  cases hB:(P.st P.m).B with
  |nil=>rfl
  |cons e B=>
   exfalso
   have hm:=(h.eS hr e).1 (by rw [hB];simp)
   obtain ⟨j,hj,e2⟩:=mA h hm.1
   have h1:e∈P.qD P.m:=PS.vR.2 ⟨j,hj,e2⟩
   have cI:=h.nj hr
   rw [List.nodup_append] at cI
   rcases ((hi.sh e).1 h1).2 with h2|h2
   ·exact cI.2.2 e h2 e (by rw [hB];simp) rfl
   ·exact hm.2.2 h2
 rw [hB,List.append_nil] at hr
 cases k with
 |succ k=>
  obtain ⟨x,A,C,h1,h2⟩:=h.lB hr
  exact absurd ⟨A,C,h1.symm⟩ (hi.no x h2)
 |zero=>
  cases hA:(P.st P.m).A with
  |nil=>rfl
  |cons e A=>
   have hm:=(h.eS hr e).1 (by rw [hA];simp)
   exact absurd (h.mz hr e hm.1) hm.2.2
theorem qP {j:Nat} (hj:j<P.m):∃B,(P.st j).B=P.sh j::B∧((∃A',(P.st j).A++ [P.sh j]=A'++P.ins (P.hd (P.sh j))∧P.ins (P.hd (P.sh j))≠ []∧P.st (j+1)=⟨A',P.outs (P.hd (P.sh j))++B,(P.st j).D++ [P.hd (P.sh j)]⟩)∨
 (¬P.ins (P.hd (P.sh j))<:+(P.st j).A++ [P.sh j]∧P.st (j+1)=⟨(P.st j).A++ [P.sh j],B,(P.st j).D⟩)):=by
 obtain ⟨B,hB⟩:=jc h hj
 obtain ⟨k,hr⟩:=pM h (Nat.le_of_lt hj)
 exact ⟨B,hB,(PS.sH h hr hB).2⟩
theorem Ml {j:Nat} (hj:j<P.m):P.sh j∉(P.st j).A:=by
 obtain ⟨B,hB⟩:=jc h hj
 obtain ⟨k,hr⟩:=pM h (Nat.le_of_lt hj)
 have cI:=h.nj hr
 rw [List.nodup_append] at cI
 exact fun hA=>cI.2.2 _ hA _ (by rw [hB];simp) rfl
theorem xV:∀ {d j:Nat},j+d=P.m→∀t∈(P.st j).A,∀u,P.ins (P.hd t)≠u++ [t]
 |0,j,hj,t,ht,u=>by
  obtain rfl:j=P.m:=by omega
  rw [HA h] at ht;cases ht
 |d+1,j,hj,t,ht,u=>by
  have ih:=xV (d:=d) (j:=j+1) (by omega)
  have hjm:j<P.m:=by omega
  obtain ⟨B,hB,hc⟩:=qP h hjm
  have hne:=Ml h hjm
  rcases hc with ⟨A',h1,h2,h3⟩|⟨h1,h3⟩
  ·have E4:t∈A'++P.ins (P.hd (P.sh j)):=by rw [← h1];simp [ht]
   rcases List.mem_append.1 E4 with h4|h4
   ·exact ih t (by rw [h3];exact h4) u
   ·intro hu
    rw [((h.dO _ _).1 h4).2] at hu
    rw [hu, ← List.append_assoc] at h1
    have:=(List.append_inj' h1 rfl).2
    simp only [List.cons.injEq,and_true] at this
    exact hne (this ▸ ht)
  ·exact ih t (by rw [h3];simp [ht]) u
theorem FL {j:Nat} (hj:j<P.m):P.Hy∉(P.st j).D:=fun hs=>by
 have hi:=P.inv h j (by omega)
 obtain ⟨k,hr⟩:=hi.row
 have:=h.qM hr hs
 subst this
 have:=pL (l:=P.qD j) (m:=P.m) fun e h1 h2=>(hi.sh e).2 ⟨⟨h1,h2⟩, .inr (h.mz hr e ⟨h1,h2⟩)⟩
 rw [PS.qO] at this
 omega
variable {L R:Int→Int} {f0 f1:Int} {low:Int→Int} (F:P.iE L R f0 f1 low)
include F
theorem ou:∀ {j:Nat},j<P.m→xU L R f0 f1 low ((P.st j).A++(P.st j).B) (P.st j).D
 |0,hj=>by
  obtain ⟨B,hB⟩:=jc h hj
  have hB:P.outs P.src=P.sh 0::B:=hB
  exact xU.start h F (by rw [hB];simp)
 |j+1,hj=>by
  have ih:=ou (j:=j) (by omega)
  obtain ⟨B,hB,hc⟩:=qP h (show j<P.m by omega)
  obtain ⟨k,hr⟩:=pM h (show j≤P.m by omega)
  rcases hc with ⟨A',h1,h2,h3⟩|⟨h1,h3⟩
  ·have hs:=FL h hj
   rw [h3] at hs ⊢
   have hx:P.hd (P.sh j)≠P.Hy:=fun e=>hs (by simp [e])
   have hO:P.outs (P.hd (P.sh j))≠ []:=fun e=>hx ((h.qN _ h2).1 e)
   have hm:=(h.eS hr (P.sh j)).1 (by rw [hB];simp)
   have hW:(P.st j).A++(P.st j).B=A'++P.ins (P.hd (P.sh j))++B:=by rw [hB, ← h1];simp
   rw [hW] at ih
   have:=xU.step h F ih h2 hO hm.2.2
   simpa using this
  ·rw [h3]
   have hW:(P.st j).A++(P.st j).B=(P.st j).A++ [P.sh j]++B:=by rw [hB];simp
   rw [hW] at ih
   exact ih
theorem Dr {j:Nat} (hj:j<P.m) {a b:Int} (ha:a∈(P.st j).A++(P.st j).B) (hb:b∈(P.st j).A++(P.st j).B) (e:R a=R b):a=b:=by
 have hn:=(ou h F hj).nd
 obtain ⟨i,hi,rfl⟩:=List.mem_iff_getElem.1 ha
 obtain ⟨k,hk,rfl⟩:=List.mem_iff_getElem.1 hb
 have:=(List.getElem_inj (i:=i) (j:=k) (h₀:=by simpa using hi) (h₁:=by simpa using hk) hn).1 (by rw [List.getElem_map,List.getElem_map];exact e)
 subst this;rfl
theorem nr {j:Nat} (hj:j<P.m):∀ {d:Nat} {e:Int},P.EZ (P.tl e)<d→P.E e→R e=L (P.sh j)→e∈P.qD j
 |0,e,hd,_,_=>by omega
 |d+1,e,hd,he,hR=>by
  refine Decidable.byContradiction fun hne=> ?_
  have hi:=P.inv h j (by omega)
  have hF:=ou h F hj
  obtain ⟨B,hB⟩:=jc h hj
  obtain ⟨k,hr⟩:=hi.row
  have HB:¬(e∈(P.st j).A∨P.hd e∈(P.st j).D):=fun h1=>hne ((hi.sh e).2 ⟨he,h1⟩)
  have hlk:=hF.lk
  rw [cu,hB] at hlk
  have IL:L (P.sh j)=jm R f0 (P.st j).A:=hlk.2.1
  rcases List.eq_nil_or_concat (P.st j).A with hA|⟨A',t,hA⟩
  ·
   have IL:L (P.sh j)=f0:=by rw [IL,hA];rfl
   have O0:R e≠f0:=by
    obtain ⟨i,hi2,e2⟩:=mA h he
    obtain ⟨B2,Mm⟩:=jc h hi2
    have:=((ou h F hi2).lo (P.sh i) (by rw [Mm];simp)).1
    rw [e2] at this;exact this
   exact O0 (hR.trans IL)
  ·rw [List.concat_eq_append] at hA
   have IL:L (P.sh j)=R t:=by rw [IL,hA,fh]
   have KZ:t∈(P.st j).A:=by rw [hA];simp
   have pN:t∈(P.st j).A++(P.st j).B:=List.mem_append.2 (.inl KZ)
   have Gw:R e=R t:=hR.trans IL
   by_cases hc:P.tl e∈(P.st j).D
   ·have O1:=(h.eS hr e).2 ⟨he,hc,fun h1=>HB (.inr h1)⟩
    have:=Dr h F hj O1 pN Gw
    exact HB (.inl (this ▸ KZ))
   ·have hem:e∈P.outs (P.tl e):=(h.jI _ _).2 ⟨he,rfl⟩
    obtain ⟨s,w,hs⟩:=List.append_of_mem hem
    have JS:R t≠f1:=fun h1=>by
     have h2:=hF.en
     rw [hB,cz] at h2
     obtain ⟨V,b,NF⟩:=c8 (l:=P.sh j::B) (by simp)
     rw [NF,fh] at h2
     have NG:b∈(P.st j).B:=by rw [hB,NF];simp
     have h3:=Dr h F hj pN (List.mem_append.2 (.inr NG)) (h1.trans h2.symm)
     have cI:=h.nj hr
     rw [List.nodup_append] at cI
     exact cI.2.2 t KZ b NG h3
    cases w with
    |cons b w=>
     obtain ⟨g1,g2,g3⟩:=F.new hs
     have h4:=(hF.lo t pN).2
     rw [← Gw] at h4 JS
     rcases h4 with h4|⟨_,h4⟩
     ·exact JS h4
     ·rw [g1] at h4;exact hc h4
    |nil=>
     have hI:P.ins (P.tl e)≠ []:=fun h0=>by
      have h5:P.tl e≠P.src:=fun h6=>hc (h6 ▸ h.qL hr)
      obtain ⟨i,hi2,e2⟩:=mA h he
      obtain ⟨k2,yP⟩:=pM h (show i≤P.m by omega)
      obtain ⟨B2,Mm⟩:=jc h hi2
      have hm2:=(h.eS yP (P.sh i)).1 (by rw [Mm];simp)
      have:∀i,i≤P.m→∀x∈(P.st i).D,x=P.src∨P.ins x≠ []:=by
       intro i
       induction i with
       |zero=>intro _ x hx;exact .inl (by simpa [PS.st] using hx)
       |succ i ih=>
        intro Qw x hx
        obtain ⟨B3,Qx,Gx⟩:=qP h (show i<P.m by omega)
        rcases Gx with ⟨A3,k1,k2,k3⟩|⟨k1,k3⟩
        ·rw [k3] at hx
         rcases List.mem_append.1 hx with hx|hx
         ·exact ih (by omega) x hx
         ·rw [List.mem_singleton] at hx
          exact .inr (hx ▸ k2)
        ·rw [k3] at hx;exact ih (by omega) x hx
      rcases this i (by omega) _ hm2.2.1 with h6|h6
      ·rw [e2] at h6;exact h5 h6
      ·rw [e2] at h6;exact h6 h0
     obtain ⟨u,a,hu⟩:=c8 hI
     have JT:=(h.dO (P.tl e) a).1 (by rw [hu];simp)
     have JU:R a=R e:=F.E3 hu hs
     have hp:=h.pJ a JT.1
     rw [JT.2] at hp
     have hin:=nr (d:=d) (e:=a) hj (by omega) JT.1 (JU.trans hR)
     rcases ((hi.sh a).1 hin).2 with h7|h7
     ·have h8:=Dr h F hj (List.mem_append.2 (.inl h7)) pN (JU.trans Gw)
      subst h8
      exact xV h (d:=P.m - j) (by omega) a KZ u (by rw [JT.2];exact hu)
     ·rw [JT.2] at h7;exact hc h7
theorem Bp {i j:Nat} (hi:i<P.m) (hj:j<P.m) (hR:P.Lp L R (R (P.sh i)) (L (P.sh j))):i<j:=by
 have key:∀y,P.Lp L R (R (P.sh i)) y→∀j,j<P.m→L (P.sh j)=y→i<j:=by
  intro y hy
  induction hy with
  |refl=>
   intro j hj e
   exact (Ao h hi (by omega)).1 (nr h F hj (d:=P.EZ (P.tl (P.sh i))+1) (by omega) (FK h hi) e.symm)
  | @step f _ hf ih=>
    intro j hj e
    obtain ⟨k,hk,rfl⟩:=mA h hf
    have h1:=ih k hk rfl
    have h2:=(Ao h hk (by omega)).1 (nr h F hj (d:=P.EZ (P.tl (P.sh k))+1) (by omega) hf e.symm)
    omega
 exact key _ hR j hj rfl
end
end Go.Ab
end
section
namespace Go.Ab
set_option maxRecDepth 10000
set_option linter.unusedSectionVars false
variable {P:PS}
section
variable (h:P.Ok) {L R:Int→Int} {f0 f1:Int} {low:Int→Int} (F:P.iE L R f0 f1 low)
include h F
theorem uB {x:Int} (hx:x≠P.src):∀ {j:Nat},j≤P.m→x∈(P.st j).D→∃i B,i<j∧x∉(P.st i).D∧P.hd (P.sh i)=x∧(∃u,P.ins x=u++ [P.sh i])∧(∀e∈P.ins x,e∈P.qD (i+1))∧(P.st (i+1)).B=P.outs x++B∧(P.st i).B=P.sh i::B
 |0,_,hm=>by
  have:x∈ [P.src]:=hm
  simp at this;exact absurd this hx
 |j+1,hj,hm=>by
  by_cases hp:x∈(P.st j).D
  ·obtain ⟨i,B,h1,h2⟩:=uB hx (by omega) hp
   exact ⟨i,B,by omega,h2⟩
  ·obtain ⟨B,hB,hc⟩:=qP h (show j<P.m by omega)
   rcases hc with ⟨A',h1,h2,h3⟩|⟨h1,h3⟩
   ·rw [h3] at hm
    rcases List.mem_append.1 hm with hm|hm
    ·exact absurd hm hp
    ·rw [List.mem_singleton] at hm
     subst hm
     refine ⟨j,B,by omega,hp,rfl, ?_,fun e he=> ?_,by rw [h3],hB⟩
     ·obtain ⟨u,a,hu⟩:=c8 h2
      rw [hu, ← List.append_assoc] at h1
      have:=(List.append_inj' h1 rfl).2
      simp only [List.cons.injEq,and_true] at this
      exact ⟨u,by rw [hu,this]⟩
     ·refine ((P.inv h (j+1) hj).sh e).2 ⟨((h.dO _ _).1 he).1, .inr ?_⟩
      rw [h3,((h.dO _ _).1 he).2];simp
   ·rw [h3] at hm;exact absurd hm hp
end
section
variable (h:P.Ok) {L R:Int→Int} {f0 f1:Int} {low:Int→Int} (F:P.iE L R f0 f1 low) {e f:Int} (he:P.E e) (hf:P.E f)
include h F he hf
end
section
variable (h:P.Ok) {L R:Int→Int} {f0 f1:Int} {low:Int→Int} (F:P.iE L R f0 f1 low) {e f:Int} (he:P.E e) (hf:P.E f)
include h F he hf
end
end Go.Ab
end
section
namespace Go.Ab
open Go.Proofs
attribute [local congr] ACall.congr
set_option maxRecDepth 10000
def eN (n:Int):AV:= .d (.sc (.int .i64 n))
def eB (b:Bool):AV:= .d (.sc (.bool b))
abbrev Edge:=Int × Int
structure Gr where
 n:Int
 es:List Edge
def rE (e:Edge):List D:= [.sc (.int .i64 e.1), .sc (.int .i64 e.2)]
def rI (n:Int):List D:= [.sc (.int .i64 n)]
def eE (e:Edge):AV:= .agg [.d (.sc (.int .i64 e.1)), .d (.sc (.int .i64 e.2))]
def sE (es:List Edge):D:= .sl 2 (es.map rE)
def sI (l:List Int):D:= .sl 1 (l.map rI)
def eG (g:Gr):AV:= .agg [eN g.n, .d (sE g.es)]
attribute [go_sem] eN eB eE sE sI eG Args AVrs
theorem getD_rE (ps:List Edge) (i:Nat):(ps.map rE).getD i [.sc (.int .i64 0), .sc (.int .i64 0)]= [.sc (.int .i64 (ps.getD i (0,0)).1), .sc (.int .i64 (ps.getD i (0,0)).2)]:=by
 simp only [List.getD_eq_getElem?_getD,List.getElem?_map]
 cases ps[i]? <;>rfl
theorem getD_rI (ps:List Int) (i:Nat):(ps.map rI).getD i [.sc (.int .i64 0)]= [.sc (.int .i64 (ps.getD i 0))]:=by
 simp only [List.getD_eq_getElem?_getD,List.getElem?_map]
 cases ps[i]? <;>rfl
theorem fV (l:List Int) (k:Nat) (v:Int):(l.map rI).set k [.sc (.int .i64 v)]=(l.set k v).map rI:=by
 rw [List.map_set];rfl
attribute [go_sem] getD_rE getD_rI Int.toNat_natCast List.length_set
def Qy (n:Int):Prop:= -9223372036854775808≤n∧n≤9223372036854775807
def Len (n:Nat):Prop:=n≤9223372036854775807
end Go.Ab
end
section
namespace Go.Ab
open Go.Proofs
attribute [local congr] ACall.congr
set_option maxRecDepth 10000
def bM {α:Type} (g:α→Bool) (ps:List α):Int:=match ps.findIdx? g with|some i=>i|none=> -1
theorem cA {α:Type} {g:α→Bool} {ps:List α} (d:α) (h:∀j,j<ps.length→g (ps.getD j d)=false):bM g ps= -1:=by
 have:ps.findIdx? g=none:=by
  rw [List.findIdx?_eq_none_iff]
  intro x hx
  obtain ⟨j,hj,rfl⟩:=List.getElem_of_mem hx
  simpa [List.getD_eq_getElem?_getD,List.getElem?_eq_getElem hj] using h j hj
 simp [bM,this]
theorem dD {α:Type} {g:α→Bool} {ps:List α} {d:α} {k:Nat} (hk:k<ps.length) (h:∀j,j<k→g (ps.getD j d)=false) (hg:g (ps.getD k d)=true):bM g ps=k:=by
 have:ps.findIdx? g=some k:=by
  rw [List.findIdx?_eq_some_iff_getElem]
  refine ⟨hk,by simpa [List.getD_eq_getElem?_getD,List.getElem?_eq_getElem hk] using hg,fun j hj=> ?_⟩
  have:=h j hj
  simpa [List.getD_eq_getElem?_getD,List.getElem?_eq_getElem (Nat.lt_trans hj hk)] using this
 simp [bM,this]
theorem fW {α:Type} (g:α→Bool) (ps:List α):decide (0≤bM g ps)=ps.any g:=by
 cases h:ps.findIdx? g with
 |none=>
  have:bM g ps= -1:=by simp [bM,h]
  rw [this]
  rw [List.findIdx?_eq_none_iff] at h
  symm
  simpa using h
 |some i=>
  have:bM g ps=i:=by simp [bM,h]
  rw [this]
  obtain ⟨hi,hg,_⟩:=List.findIdx?_eq_some_iff_getElem.1 h
  have:ps.any g=true:=List.any_eq_true.2 ⟨_,List.getElem_mem hi,hg⟩
  rw [this];simp
theorem xW {α:Type} (g:α→Bool) (ps:List α):bM g ps= -1∨(0≤bM g ps∧bM g ps<ps.length):=by
 cases h:ps.findIdx? g with
 |none=>exact .inl (by simp [bM,h])
 |some i=>
  obtain ⟨hi,hg,_⟩:=List.findIdx?_eq_some_iff_getElem.1 h
  exact .inr (by simp [bM,h];omega)
theorem xX (rn:List (Nat × Nat)) (h0:rn= []) {m:List (Nat × AObj)} :∀ {r:List (Nat × AObj)},(∀p∈r,look m p.1=some p.2)→leR m rn r
 | [],_=>trivial
 |p::r,h=>by
  subst h0
  have h1:=h p List.mem_cons_self
  refine ⟨?_,xX [] rfl fun q hq=>h q (List.mem_cons_of_mem _ hq)⟩
  have e:renO [] p.2=p.2:=rfl
  show look m p.1=some (renO [] p.2)
  rw [e];exact h1
theorem fF {m:List (Nat × AObj)} (h:bq m):leR m [] m:=xX [] rfl fun _ hp=>aP h.nd hp
theorem bC {m:List (Nat × AObj)} (hR:bq m) (f:Nat) (caps:List AV) (g:Edge→Bool) (hf:∀p,Spec Tryz.prog f (Args (eE p::caps)) m (eB (g p)) m) (ps:List Edge) (hl:ps.length≤9223372036854775807):
 Spec Tryz.prog 100 (Args [.d (sE ps), .fn f [] caps]) m (eN (bM g ps)) m:=by
 (refine Spec.intro (C:=T.cfg [] []) (rs:= [.t 4]) (T.aj _ _) Tryz.func100 rfl rfl Tryz.ntmps100 Tryz.results100 (fun p hp=>⟨(bq.low hR p hp).1,bq.nest hR p hp⟩) (fun p hp=>⟨(bq.low hR p hp).2,bq.nest hR p hp⟩) (by kernel_rfl) ?_;intro X hX hP hC aL aM vals hA;refine ⟨_,by simp,hA, ?_⟩;have af:X.P.follows .mixedOrders=true:=(by rw [hP];exact T.mixed);clear aL aM)
 repeat' (first|((first|((with_reducible (first|apply oA|apply oB));exact rfl;intro K hK)|(refine hK _ ?_;clear hK K)|((with_reducible (first|apply oG|apply oH));iterate 3 exact rfl)|((with_reducible apply oI);(iterate 2 exact rfl);intro K hK)|(with_reducible (first|apply wI|apply wJ|apply wK)));try simp only [go_sem,simprocAttr])|(with_reducible (first|apply oC|apply oJ|exact oK|apply wA|apply wB|apply wC hX hC|apply wD hX hC|apply wE hX hC af|apply wF hX hC af|apply wG|apply wH|apply And.intro))|((with_reducible refine oD ?_ ?_);kernel_rfl)|((with_reducible (first|apply oE|apply oF));(iterate 3 exact rfl);all_goals (intro h;first|(exact absurd h (by decide))|((try simp only [go_sem,simprocAttr] at h);(try with_reducible intro K hK);simp only [go_sem,simprocAttr])))|((first|((with_reducible apply wL);exact rfl)|((with_reducible apply wM);exact rfl));all_goals (try ((with_reducible intro h);first|(exact absurd h (by decide))|(try simp only [go_sem,simprocAttr] at h))))|omega|((first|(first|(refine bg hX hC hP hR (hf _) rfl rfl rfl ?_ ?_ rfl rfl ?_;(focus (simp only [go_sem,simprocAttr];done));(focus (first|(intro p hp;exact aP (bq.nd hR) hp)|(simp [go_sem,simprocAttr];done))))|(refine bg hX hC hP hR (hf _) rfl rfl rfl ?_ ?_ ?_ rfl ?_;(focus (simp only [go_sem,simprocAttr];done));(focus (first|(intro p hp;exact aP (bq.nd hR) hp)|(simp [go_sem,simprocAttr];done)));(focus (simp [go_sem,simprocAttr];done)))));try simp only [go_sem,simprocAttr])|(intro h))
 refine ah (fun k:Nat=>k≤ps.length∧∀j,j<k→g (ps.getD j (0,0))=false) (fun k=>⟨[(0, .d (sE ps)),(1, .fn f [] caps),(7,eN ps.length),(8,eN k)],m⟩) (fun k=>ps.length - k) 0 (by simp) ?_ ?_
 ·(refine ⟨b7 ?_,fun _ _ h=>h⟩;simp [go_sem,simprocAttr])
 rintro k ⟨hk,hg⟩
 repeat' (first|((first|((with_reducible (first|apply oA|apply oB));exact rfl;intro K hK)|(refine hK _ ?_;clear hK K)|((with_reducible (first|apply oG|apply oH));iterate 3 exact rfl)|((with_reducible apply oI);(iterate 2 exact rfl);intro K hK)|(with_reducible (first|apply wI|apply wJ|apply wK)));try simp only [go_sem,simprocAttr])|(with_reducible (first|apply oC|apply oJ|exact oK|apply wA|apply wB|apply wC hX hC|apply wD hX hC|apply wE hX hC af|apply wF hX hC af|apply wG|apply wH|apply And.intro))|((with_reducible refine oD ?_ ?_);kernel_rfl)|((with_reducible (first|apply oE|apply oF));(iterate 3 exact rfl);all_goals (intro h;first|(exact absurd h (by decide))|((try simp only [go_sem,simprocAttr] at h);(try with_reducible intro K hK);simp only [go_sem,simprocAttr])))|((first|((with_reducible apply wL);exact rfl)|((with_reducible apply wM);exact rfl));all_goals (try ((with_reducible intro h);first|(exact absurd h (by decide))|(try simp only [go_sem,simprocAttr] at h))))|omega|((first|(first|(refine bg hX hC hP hR (hf _) rfl rfl rfl ?_ ?_ rfl rfl ?_;(focus (simp only [go_sem,simprocAttr];done));(focus (first|(intro p hp;exact aP (bq.nd hR) hp)|(simp [go_sem,simprocAttr];done))))|(refine bg hX hC hP hR (hf _) rfl rfl rfl ?_ ?_ ?_ rfl ?_;(focus (simp only [go_sem,simprocAttr];done));(focus (first|(intro p hp;exact aP (bq.nd hR) hp)|(simp [go_sem,simprocAttr];done)));(focus (simp [go_sem,simprocAttr];done)))));try simp only [go_sem,simprocAttr])|(intro h))
 ·exact (dD (by omega) hg h).symm
 ·exact fF hR
 ·refine ⟨k+1,⟨by omega,fun j hj=> ?_⟩, ?_,by omega⟩
  ·by_cases hjk:j=k
   ·subst hjk;exact h
   ·exact hg j (by omega)
  ·(refine ⟨b7 ?_,fun _ _ h=>h⟩;simp [go_sem,simprocAttr])
 ·exact (cA (0,0) fun j hj=>hg j (by omega)).symm
 ·exact fF hR
theorem cG {m:List (Nat × AObj)} (hR:bq m) (f:Nat) (caps:List AV) (g:Int→Bool) (hf:∀p,Spec Tryz.prog f (Args (eN p::caps)) m (eB (g p)) m) (ps:List Int) (hl:ps.length≤9223372036854775807):
 Spec Tryz.prog 121 (Args [.d (sI ps), .fn f [] caps]) m (eN (bM g ps)) m:=by
 (refine Spec.intro (C:=T.cfg [] []) (rs:= [.t 4]) (T.aj _ _) Tryz.func121 rfl rfl Tryz.ntmps121 Tryz.results121 (fun p hp=>⟨(bq.low hR p hp).1,bq.nest hR p hp⟩) (fun p hp=>⟨(bq.low hR p hp).2,bq.nest hR p hp⟩) (by kernel_rfl) ?_;intro X hX hP hC aL aM vals hA;refine ⟨_,by simp,hA, ?_⟩;have af:X.P.follows .mixedOrders=true:=(by rw [hP];exact T.mixed);clear aL aM)
 repeat' (first|((first|((with_reducible (first|apply oA|apply oB));exact rfl;intro K hK)|(refine hK _ ?_;clear hK K)|((with_reducible (first|apply oG|apply oH));iterate 3 exact rfl)|((with_reducible apply oI);(iterate 2 exact rfl);intro K hK)|(with_reducible (first|apply wI|apply wJ|apply wK)));try simp only [go_sem,simprocAttr])|(with_reducible (first|apply oC|apply oJ|exact oK|apply wA|apply wB|apply wC hX hC|apply wD hX hC|apply wE hX hC af|apply wF hX hC af|apply wG|apply wH|apply And.intro))|((with_reducible refine oD ?_ ?_);kernel_rfl)|((with_reducible (first|apply oE|apply oF));(iterate 3 exact rfl);all_goals (intro h;first|(exact absurd h (by decide))|((try simp only [go_sem,simprocAttr] at h);(try with_reducible intro K hK);simp only [go_sem,simprocAttr])))|((first|((with_reducible apply wL);exact rfl)|((with_reducible apply wM);exact rfl));all_goals (try ((with_reducible intro h);first|(exact absurd h (by decide))|(try simp only [go_sem,simprocAttr] at h))))|omega|((first|(first|(refine bg hX hC hP hR (hf _) rfl rfl rfl ?_ ?_ rfl rfl ?_;(focus (simp only [go_sem,simprocAttr];done));(focus (first|(intro p hp;exact aP (bq.nd hR) hp)|(simp [go_sem,simprocAttr];done))))|(refine bg hX hC hP hR (hf _) rfl rfl rfl ?_ ?_ ?_ rfl ?_;(focus (simp only [go_sem,simprocAttr];done));(focus (first|(intro p hp;exact aP (bq.nd hR) hp)|(simp [go_sem,simprocAttr];done)));(focus (simp [go_sem,simprocAttr];done)))));try simp only [go_sem,simprocAttr])|(intro h))
 refine ah (fun k:Nat=>k≤ps.length∧∀j,j<k→g (ps.getD j 0)=false) (fun k=>⟨[(0, .d (sI ps)),(1, .fn f [] caps),(7,eN ps.length),(8,eN k)],m⟩) (fun k=>ps.length - k) 0 (by simp) ?_ ?_
 ·(refine ⟨b7 ?_,fun _ _ h=>h⟩;simp [go_sem,simprocAttr])
 rintro k ⟨hk,hg⟩
 repeat' (first|((first|((with_reducible (first|apply oA|apply oB));exact rfl;intro K hK)|(refine hK _ ?_;clear hK K)|((with_reducible (first|apply oG|apply oH));iterate 3 exact rfl)|((with_reducible apply oI);(iterate 2 exact rfl);intro K hK)|(with_reducible (first|apply wI|apply wJ|apply wK)));try simp only [go_sem,simprocAttr])|(with_reducible (first|apply oC|apply oJ|exact oK|apply wA|apply wB|apply wC hX hC|apply wD hX hC|apply wE hX hC af|apply wF hX hC af|apply wG|apply wH|apply And.intro))|((with_reducible refine oD ?_ ?_);kernel_rfl)|((with_reducible (first|apply oE|apply oF));(iterate 3 exact rfl);all_goals (intro h;first|(exact absurd h (by decide))|((try simp only [go_sem,simprocAttr] at h);(try with_reducible intro K hK);simp only [go_sem,simprocAttr])))|((first|((with_reducible apply wL);exact rfl)|((with_reducible apply wM);exact rfl));all_goals (try ((with_reducible intro h);first|(exact absurd h (by decide))|(try simp only [go_sem,simprocAttr] at h))))|omega|((first|(first|(refine bg hX hC hP hR (hf _) rfl rfl rfl ?_ ?_ rfl rfl ?_;(focus (simp only [go_sem,simprocAttr];done));(focus (first|(intro p hp;exact aP (bq.nd hR) hp)|(simp [go_sem,simprocAttr];done))))|(refine bg hX hC hP hR (hf _) rfl rfl rfl ?_ ?_ ?_ rfl ?_;(focus (simp only [go_sem,simprocAttr];done));(focus (first|(intro p hp;exact aP (bq.nd hR) hp)|(simp [go_sem,simprocAttr];done)));(focus (simp [go_sem,simprocAttr];done)))));try simp only [go_sem,simprocAttr])|(intro h))
 ·exact (dD (by omega) hg h).symm
 ·exact fF hR
 ·refine ⟨k+1,⟨by omega,fun j hj=> ?_⟩, ?_,by omega⟩
  ·by_cases hjk:j=k
   ·subst hjk;exact h
   ·exact hg j (by omega)
  ·(refine ⟨b7 ?_,fun _ _ h=>h⟩;simp [go_sem,simprocAttr])
 ·exact (cA 0 fun j hj=>hg j (by omega)).symm
 ·exact fF hR
theorem nt {m:List (Nat × AObj)} (hR:bq m) (f:Nat) (caps:List AV) (g:Edge→Bool) (hf:∀p,Spec Tryz.prog f (Args (eE p::caps)) m (eB (g p)) m) (ps:List Edge) (hl:ps.length≤9223372036854775807):
 Spec Tryz.prog 93 (Args [.d (sE ps), .fn f [] caps]) m (eB (ps.any g)) m:=by
 (refine Spec.intro (C:=T.cfg [] []) (rs:= [.t 4]) (T.aj _ _) Tryz.func93 rfl rfl Tryz.ntmps93 Tryz.results93 (fun p hp=>⟨(bq.low hR p hp).1,bq.nest hR p hp⟩) (fun p hp=>⟨(bq.low hR p hp).2,bq.nest hR p hp⟩) (by kernel_rfl) ?_;intro X hX hP hC aL aM vals hA;refine ⟨_,by simp,hA, ?_⟩;have af:X.P.follows .mixedOrders=true:=(by rw [hP];exact T.mixed);clear aL aM)
 repeat' (first|((first|((with_reducible (first|apply oA|apply oB));exact rfl;intro K hK)|(refine hK _ ?_;clear hK K)|((with_reducible (first|apply oG|apply oH));iterate 3 exact rfl)|((with_reducible apply oI);(iterate 2 exact rfl);intro K hK)|(with_reducible (first|apply wI|apply wJ|apply wK)));try simp only [go_sem,simprocAttr])|(with_reducible (first|apply oC|apply oJ|exact oK|apply wA|apply wB|apply wC hX hC|apply wD hX hC|apply wE hX hC af|apply wF hX hC af|apply wG|apply wH|apply And.intro))|((with_reducible refine oD ?_ ?_);kernel_rfl)|((with_reducible (first|apply oE|apply oF));(iterate 3 exact rfl);all_goals (intro h;first|(exact absurd h (by decide))|((try simp only [go_sem,simprocAttr] at h);(try with_reducible intro K hK);simp only [go_sem,simprocAttr])))|((first|((with_reducible apply wL);exact rfl)|((with_reducible apply wM);exact rfl));all_goals (try ((with_reducible intro h);first|(exact absurd h (by decide))|(try simp only [go_sem,simprocAttr] at h))))|omega|((first|(first|(refine bg hX hC hP hR (bC hR _ _ g hf ps hl) rfl rfl rfl ?_ ?_ rfl rfl ?_;(focus (simp only [go_sem,simprocAttr];done));(focus (first|(intro p hp;exact aP (bq.nd hR) hp)|(simp [go_sem,simprocAttr];done))))|(refine bg hX hC hP hR (bC hR _ _ g hf ps hl) rfl rfl rfl ?_ ?_ ?_ rfl ?_;(focus (simp only [go_sem,simprocAttr];done));(focus (first|(intro p hp;exact aP (bq.nd hR) hp)|(simp [go_sem,simprocAttr];done)));(focus (simp [go_sem,simprocAttr];done)))));try simp only [go_sem,simprocAttr])|(intro h))
 ·exact fW g ps
 ·exact fF hR
def tY (g:Gr) (x:Int):Bool:=decide (x<0)||decide (g.n≤x)
def ow (g:Gr) (e:Edge):Bool:=tY g e.1||tY g e.2
def aO (g:Gr):Bool:=decide (0<g.n)&&decide (g.n≤64)&&decide ((g.es.length:Int)≤128)&& !g.es.any (ow g)
def rG (g:Gr):AObj:= .rob [eN g.n, .d (sE g.es)]
theorem uC (g:Gr) (x:Int):Spec Tryz.prog 92 (Args [eN x, .ptr 10000 0]) [(10000,rG g)] (eB (tY g x)) [(10000,rG g)]:=by
 unfold rG
 (refine Spec.intro (C:=T.cfg [] []) (rs:= [.t 3]) (T.aj _ _) Tryz.func92 rfl rfl Tryz.ntmps92 Tryz.results92 (by simp [AObj.isNest]) (by simp [AObj.isNest]) (by kernel_rfl) ?_;intro X hX hP hC aL aM vals hA;refine ⟨_,by simp,hA, ?_⟩;have af:X.P.follows .mixedOrders=true:=(by rw [hP];exact T.mixed);clear aL aM)
 repeat' (first|((first|((with_reducible (first|apply oA|apply oB));exact rfl;intro K hK)|(refine hK _ ?_;clear hK K)|((with_reducible (first|apply oG|apply oH));iterate 3 exact rfl)|((with_reducible apply oI);(iterate 2 exact rfl);intro K hK)|(with_reducible (first|apply wI|apply wJ|apply wK)));try simp only [go_sem,simprocAttr])|(with_reducible (first|apply oC|apply oJ|exact oK|apply wA|apply wB|apply wC hX hC|apply wD hX hC|apply wE hX hC af|apply wF hX hC af|apply wG|apply wH|apply And.intro))|((with_reducible refine oD ?_ ?_);kernel_rfl)|((with_reducible (first|apply oE|apply oF));(iterate 3 exact rfl);all_goals (intro h;first|(exact absurd h (by decide))|((try simp only [go_sem,simprocAttr] at h);(try with_reducible intro K hK);simp only [go_sem,simprocAttr])))|((first|((with_reducible apply wL);exact rfl)|((with_reducible apply wM);exact rfl));all_goals (try ((with_reducible intro h);first|(exact absurd h (by decide))|(try simp only [go_sem,simprocAttr] at h))))|omega|((first|(first|(refine bg hX hC hP hR (bC hR _ _ g hf ps hl) rfl rfl rfl ?_ ?_ rfl rfl ?_;(focus (simp only [go_sem,simprocAttr];done));(focus (first|(intro p hp;exact aP (bq.nd hR) hp)|(simp [go_sem,simprocAttr];done))))|(refine bg hX hC hP hR (bC hR _ _ g hf ps hl) rfl rfl rfl ?_ ?_ ?_ rfl ?_;(focus (simp only [go_sem,simprocAttr];done));(focus (first|(intro p hp;exact aP (bq.nd hR) hp)|(simp [go_sem,simprocAttr];done)));(focus (simp [go_sem,simprocAttr];done)))));try simp only [go_sem,simprocAttr])|(intro h))
 ·simp [tY, *]
 ·simp [tY, *]
theorem FM (g:Gr):bq [(10000,rG g)]:=⟨by simp [rG,AObj.ro],by simp [nodupM,look],by simp,by simp [rG,AObj.ids,AV.ids,AV.idss,eN]⟩
def rF:AObj:= .rob [.fn 92 [] [.ptr 10000 0]]
attribute [go_sem] rG rF
theorem Bq (g:Gr) (e:Edge):Spec Tryz.prog 94 (Args [eE e, .ptr 10001 0]) [(10001,rF),(10000,rG g)] (eB (ow g e)) [(10001,rF),(10000,rG g)]:=by
 unfold rF rG
 (refine Spec.intro (C:=T.cfg [] []) (rs:= [.t 3]) (T.aj _ _) Tryz.func94 rfl rfl Tryz.ntmps94 Tryz.results94 (by simp [AObj.isNest]) (by simp [AObj.isNest]) (by kernel_rfl) ?_;intro X hX hP hC aL aM vals hA;refine ⟨_,by simp,hA, ?_⟩;have af:X.P.follows .mixedOrders=true:=(by rw [hP];exact T.mixed);clear aL aM)
 repeat' (first|((first|((with_reducible (first|apply oA|apply oB));exact rfl;intro K hK)|(refine hK _ ?_;clear hK K)|((with_reducible (first|apply oG|apply oH));iterate 3 exact rfl)|((with_reducible apply oI);(iterate 2 exact rfl);intro K hK)|(with_reducible (first|apply wI|apply wJ|apply wK)));try simp only [go_sem,simprocAttr])|(with_reducible (first|apply oC|apply oJ|exact oK|apply wA|apply wB|apply wC hX hC|apply wD hX hC|apply wE hX hC af|apply wF hX hC af|apply wG|apply wH|apply And.intro))|((with_reducible refine oD ?_ ?_);kernel_rfl)|((with_reducible (first|apply oE|apply oF));(iterate 3 exact rfl);all_goals (intro h;first|(exact absurd h (by decide))|((try simp only [go_sem,simprocAttr] at h);(try with_reducible intro K hK);simp only [go_sem,simprocAttr])))|((first|((with_reducible apply wL);exact rfl)|((with_reducible apply wM);exact rfl));all_goals (try ((with_reducible intro h);first|(exact absurd h (by decide))|(try simp only [go_sem,simprocAttr] at h))))|omega|((first|(first|(refine bg hX hC hP (FM g) (uC g _) rfl rfl rfl ?_ ?_ rfl rfl ?_;(focus (simp only [go_sem,simprocAttr];done));(focus (first|(intro p hp;exact aP (bq.nd (FM g)) hp)|(simp [go_sem,simprocAttr];done))))|(refine bg hX hC hP (FM g) (uC g _) rfl rfl rfl ?_ ?_ ?_ rfl ?_;(focus (simp only [go_sem,simprocAttr];done));(focus (first|(intro p hp;exact aP (bq.nd (FM g)) hp)|(simp [go_sem,simprocAttr];done)));(focus (simp [go_sem,simprocAttr];done)))));try simp only [go_sem,simprocAttr])|(intro h))
 ·simp [ow, *]
 ·simp [ow, *]
theorem Mn (g:Gr):bq [(10001,rF),(10000,rG g)]:=⟨by simp [rG,rF,AObj.ro],by simp [nodupM,look],by simp,by simp [rG,rF,AObj.ids,AV.ids,AV.idss,eN,look]⟩
theorem fG (g:Gr) (hl:g.es.length≤9223372036854775807):Spec Tryz.prog 58 (Args [eG g]) [] (eB (aO g)) []:=by
 (refine Spec.intro (C:=T.cfg [] []) (rs:= [.t 2]) (T.aj _ _) Tryz.func58 rfl rfl Tryz.ntmps58 Tryz.results58 (by simp [AObj.isNest]) (by simp [AObj.isNest]) (by kernel_rfl) ?_;intro X hX hP hC aL aM vals hA;refine ⟨_,by simp,hA, ?_⟩;have af:X.P.follows .mixedOrders=true:=(by rw [hP];exact T.mixed);clear aL aM)
 repeat' (first|((first|((with_reducible (first|apply oA|apply oB));exact rfl;intro K hK)|(refine hK _ ?_;clear hK K)|((with_reducible (first|apply oG|apply oH));iterate 3 exact rfl)|((with_reducible apply oI);(iterate 2 exact rfl);intro K hK)|(with_reducible (first|apply wI|apply wJ|apply wK)));try simp only [go_sem,simprocAttr])|(with_reducible (first|apply oC|apply oJ|exact oK|apply wA|apply wB|apply wC hX hC|apply wD hX hC|apply wE hX hC af|apply wF hX hC af|apply wG|apply wH|apply And.intro))|((with_reducible refine oD ?_ ?_);kernel_rfl)|((with_reducible (first|apply oE|apply oF));(iterate 3 exact rfl);all_goals (intro h;first|(exact absurd h (by decide))|((try simp only [go_sem,simprocAttr] at h);(try with_reducible intro K hK);simp only [go_sem,simprocAttr])))|((first|((with_reducible apply wL);exact rfl)|((with_reducible apply wM);exact rfl));all_goals (try ((with_reducible intro h);first|(exact absurd h (by decide))|(try simp only [go_sem,simprocAttr] at h))))|omega|((first|(refine cF hX hC hP [(10000,1),(10001,3)] (nt (Mn g) _ _ (ow g) (Bq g) g.es hl) rfl rfl rfl ?_ ?_ ?_ ?_ ?_ ?_ rfl rfl ?_ ?_;(focus (simp only [go_sem,simprocAttr];done));(iterate 6 (focus (simp [go_sem,simprocAttr];done)));simp only [go_sem,simprocAttr,List.map_cons,List.map_nil]));try simp only [go_sem,simprocAttr])|(intro h))
 all_goals simp [aO, *]
end Go.Ab
end
section
namespace Go.Ab
open Go.Proofs
attribute [local congr] ACall.congr
set_option maxRecDepth 10000
def dF (l:List Int) (x:Int):Int:=bM (fun y=>decide (x=y)) l
def HC (l:List Edge) (x:Edge):Int:=bM (fun y=>decide (x=y)) l
theorem Ds (l:List Int) (x:Int):decide (0≤dF l x)=decide (x∈l):=by
 unfold dF;rw [fW,Bool.eq_iff_iff];simp
theorem Dt (l:List Edge) (x:Edge):decide (0≤HC l x)=decide (x∈l):=by
 unfold HC;rw [fW,Bool.eq_iff_iff];simp [-Prod.exists, -Prod.forall]
theorem ku (x y:Edge):(decide (x.1=y.1)&&decide (x.2=y.2))=decide (x=y):=by
 obtain ⟨a,b⟩:=x;obtain ⟨c,d⟩:=y
 rw [Bool.eq_iff_iff];simp
theorem aS (ps:List Int) (x:Int) (hl:ps.length≤9223372036854775807):
 Spec Tryz.prog 55 (Args [.d (sI ps),eN x]) [] (eN (dF ps x)) []:=by
 (refine Spec.intro (C:=T.cfg [] []) (rs:= [.t 4]) (T.aj _ _) Tryz.func55 rfl rfl Tryz.ntmps55 Tryz.results55 (by simp [AObj.isNest]) (by simp [AObj.isNest]) (by kernel_rfl) ?_;intro X hX hP hC aL aM vals hA;refine ⟨_,by simp,hA, ?_⟩;have af:X.P.follows .mixedOrders=true:=(by rw [hP];exact T.mixed);clear aL aM)
 repeat' (first|((first|((with_reducible (first|apply oA|apply oB));exact rfl;intro K hK)|(refine hK _ ?_;clear hK K)|((with_reducible (first|apply oG|apply oH));iterate 3 exact rfl)|((with_reducible apply oI);(iterate 2 exact rfl);intro K hK)|(with_reducible (first|apply wI|apply wJ|apply wK)));try simp only [go_sem,simprocAttr])|(with_reducible (first|apply oC|apply oJ|exact oK|apply wA|apply wB|apply wC hX hC|apply wD hX hC|apply wE hX hC af|apply wF hX hC af|apply wG|apply wH|apply And.intro))|((with_reducible refine oD ?_ ?_);kernel_rfl)|((with_reducible (first|apply oE|apply oF));(iterate 3 exact rfl);all_goals (intro h;first|(exact absurd h (by decide))|((try simp only [go_sem,simprocAttr] at h);(try with_reducible intro K hK);simp only [go_sem,simprocAttr])))|((first|((with_reducible apply wL);exact rfl)|((with_reducible apply wM);exact rfl));all_goals (try ((with_reducible intro h);first|(exact absurd h (by decide))|(try simp only [go_sem,simprocAttr] at h))))|omega|(intro h))
 refine ah (fun k:Nat=>k≤ps.length∧∀j,j<k→decide (x=ps.getD j 0)=false) (fun k=>⟨[(0, .d (sI ps)),(1,eN x),(7,eN ps.length),(8,eN k)], []⟩) (fun k=>ps.length - k) 0 (by simp) ?_ ?_
 ·(refine ⟨b7 ?_,fun _ _ h=>h⟩;simp [go_sem,simprocAttr])
 rintro k ⟨hk,hg⟩
 repeat' (first|((first|((with_reducible (first|apply oA|apply oB));exact rfl;intro K hK)|(refine hK _ ?_;clear hK K)|((with_reducible (first|apply oG|apply oH));iterate 3 exact rfl)|((with_reducible apply oI);(iterate 2 exact rfl);intro K hK)|(with_reducible (first|apply wI|apply wJ|apply wK)));try simp only [go_sem,simprocAttr])|(with_reducible (first|apply oC|apply oJ|exact oK|apply wA|apply wB|apply wC hX hC|apply wD hX hC|apply wE hX hC af|apply wF hX hC af|apply wG|apply wH|apply And.intro))|((with_reducible refine oD ?_ ?_);kernel_rfl)|((with_reducible (first|apply oE|apply oF));(iterate 3 exact rfl);all_goals (intro h;first|(exact absurd h (by decide))|((try simp only [go_sem,simprocAttr] at h);(try with_reducible intro K hK);simp only [go_sem,simprocAttr])))|((first|((with_reducible apply wL);exact rfl)|((with_reducible apply wM);exact rfl));all_goals (try ((with_reducible intro h);first|(exact absurd h (by decide))|(try simp only [go_sem,simprocAttr] at h))))|omega|(intro h))
 ·exact (dD (by omega) hg (by simpa using h)).symm
 ·refine ⟨k+1,⟨by omega,fun j hj=> ?_⟩, ?_,by omega⟩
  ·by_cases hjk:j=k
   ·subst hjk;simpa using h
   ·simpa using hg j (by omega)
  ·(refine ⟨b7 ?_,fun _ _ h=>h⟩;simp [go_sem,simprocAttr])
 ·exact (cA 0 fun j hj=>hg j (by omega)).symm
theorem bh (ps:List Int) (x:Int) (hl:ps.length≤9223372036854775807):
 Spec Tryz.prog 123 (Args [.d (sI ps),eN x]) [] (eB (decide (x∈ps))) []:=by
 rw [← Ds]
 (refine Spec.intro (C:=T.cfg [] []) (rs:= [.t 4]) (T.aj _ _) Tryz.func123 rfl rfl Tryz.ntmps123 Tryz.results123 (by simp [AObj.isNest]) (by simp [AObj.isNest]) (by kernel_rfl) ?_;intro X hX hP hC aL aM vals hA;refine ⟨_,by simp,hA, ?_⟩;have af:X.P.follows .mixedOrders=true:=(by rw [hP];exact T.mixed);clear aL aM)
 repeat' (first|((first|((with_reducible (first|apply oA|apply oB));exact rfl;intro K hK)|(refine hK _ ?_;clear hK K)|((with_reducible (first|apply oG|apply oH));iterate 3 exact rfl)|((with_reducible apply oI);(iterate 2 exact rfl);intro K hK)|(with_reducible (first|apply wI|apply wJ|apply wK)));try simp only [go_sem,simprocAttr])|(with_reducible (first|apply oC|apply oJ|exact oK|apply wA|apply wB|apply wC hX hC|apply wD hX hC|apply wE hX hC af|apply wF hX hC af|apply wG|apply wH|apply And.intro))|((with_reducible refine oD ?_ ?_);kernel_rfl)|((with_reducible (first|apply oE|apply oF));(iterate 3 exact rfl);all_goals (intro h;first|(exact absurd h (by decide))|((try simp only [go_sem,simprocAttr] at h);(try with_reducible intro K hK);simp only [go_sem,simprocAttr])))|((first|((with_reducible apply wL);exact rfl)|((with_reducible apply wM);exact rfl));all_goals (try ((with_reducible intro h);first|(exact absurd h (by decide))|(try simp only [go_sem,simprocAttr] at h))))|omega|((first|refine aa hX hC hP (aS ps x hl) rfl rfl rfl (by simp only [go_sem,simprocAttr]) rfl ?_);try simp only [go_sem,simprocAttr])|(intro h))
theorem xY (ps:List Edge) (x:Edge) (hl:ps.length≤9223372036854775807):
 Spec Tryz.prog 120 (Args [.d (sE ps),eE x]) [] (eN (HC ps x)) []:=by
 (refine Spec.intro (C:=T.cfg [] []) (rs:= [.t 4]) (T.aj _ _) Tryz.func120 rfl rfl Tryz.ntmps120 Tryz.results120 (by simp [AObj.isNest]) (by simp [AObj.isNest]) (by kernel_rfl) ?_;intro X hX hP hC aL aM vals hA;refine ⟨_,by simp,hA, ?_⟩;have af:X.P.follows .mixedOrders=true:=(by rw [hP];exact T.mixed);clear aL aM)
 repeat' (first|((first|((with_reducible (first|apply oA|apply oB));exact rfl;intro K hK)|(refine hK _ ?_;clear hK K)|((with_reducible (first|apply oG|apply oH));iterate 3 exact rfl)|((with_reducible apply oI);(iterate 2 exact rfl);intro K hK)|(with_reducible (first|apply wI|apply wJ|apply wK)));try simp only [go_sem,simprocAttr])|(with_reducible (first|apply oC|apply oJ|exact oK|apply wA|apply wB|apply wC hX hC|apply wD hX hC|apply wE hX hC af|apply wF hX hC af|apply wG|apply wH|apply And.intro))|((with_reducible refine oD ?_ ?_);kernel_rfl)|((with_reducible (first|apply oE|apply oF));(iterate 3 exact rfl);all_goals (intro h;first|(exact absurd h (by decide))|((try simp only [go_sem,simprocAttr] at h);(try with_reducible intro K hK);simp only [go_sem,simprocAttr])))|((first|((with_reducible apply wL);exact rfl)|((with_reducible apply wM);exact rfl));all_goals (try ((with_reducible intro h);first|(exact absurd h (by decide))|(try simp only [go_sem,simprocAttr] at h))))|omega|(intro h))
 refine ah (fun k:Nat=>k≤ps.length∧∀j,j<k→decide (x=ps.getD j (0,0))=false) (fun k=>⟨[(0, .d (sE ps)),(3, .ptr 3 0),(7,eN ps.length),(8,eN k)], [(3, .box [eN x.1,eN x.2])]⟩) (fun k=>ps.length - k) 0 (by simp) ?_ ?_
 ·(refine Le.of ?_ ?_<;>simp [go_sem,simprocAttr])
 rintro k ⟨hk,hg⟩
 repeat' (first|((first|((with_reducible (first|apply oA|apply oB));exact rfl;intro K hK)|(refine hK _ ?_;clear hK K)|((with_reducible (first|apply oG|apply oH));iterate 3 exact rfl)|((with_reducible apply oI);(iterate 2 exact rfl);intro K hK)|(with_reducible (first|apply wI|apply wJ|apply wK)));try simp only [go_sem,simprocAttr,ku])|(with_reducible (first|apply oC|apply oJ|exact oK|apply wA|apply wB|apply wC hX hC|apply wD hX hC|apply wE hX hC af|apply wF hX hC af|apply wG|apply wH|apply And.intro))|((with_reducible refine oD ?_ ?_);kernel_rfl)|((with_reducible (first|apply oE|apply oF));(iterate 3 exact rfl);all_goals (intro h;first|(exact absurd h (by decide))|((try simp only [go_sem,simprocAttr,ku] at h);(try with_reducible intro K hK);simp only [go_sem,simprocAttr,ku])))|((first|((with_reducible apply wL);exact rfl)|((with_reducible apply wM);exact rfl));all_goals (try ((with_reducible intro h);first|(exact absurd h (by decide))|(try simp only [go_sem,simprocAttr,ku] at h))))|omega|(intro h))
 ·exact (dD (d:=(0,0)) (by omega) hg (by simpa using h)).symm
 ·refine ⟨k+1,⟨by omega,fun j hj=> ?_⟩, ?_,by omega⟩
  ·by_cases hjk:j=k
   ·subst hjk;exact h
   ·simpa using hg j (by omega)
  ·(refine Le.of ?_ ?_<;>simp [go_sem,simprocAttr,ku])
 ·exact (cA (0,0) fun j hj=>hg j (by omega)).symm
theorem dV (ps:List Edge) (x:Edge) (hl:ps.length≤9223372036854775807):
 Spec Tryz.prog 102 (Args [.d (sE ps),eE x]) [] (eB (decide (x∈ps))) []:=by
 rw [← Dt]
 (refine Spec.intro (C:=T.cfg [] []) (rs:= [.t 4]) (T.aj _ _) Tryz.func102 rfl rfl Tryz.ntmps102 Tryz.results102 (by simp [AObj.isNest]) (by simp [AObj.isNest]) (by kernel_rfl) ?_;intro X hX hP hC aL aM vals hA;refine ⟨_,by simp,hA, ?_⟩;have af:X.P.follows .mixedOrders=true:=(by rw [hP];exact T.mixed);clear aL aM)
 repeat' (first|((first|((with_reducible (first|apply oA|apply oB));exact rfl;intro K hK)|(refine hK _ ?_;clear hK K)|((with_reducible (first|apply oG|apply oH));iterate 3 exact rfl)|((with_reducible apply oI);(iterate 2 exact rfl);intro K hK)|(with_reducible (first|apply wI|apply wJ|apply wK)));try simp only [go_sem,simprocAttr,ku])|(with_reducible (first|apply oC|apply oJ|exact oK|apply wA|apply wB|apply wC hX hC|apply wD hX hC|apply wE hX hC af|apply wF hX hC af|apply wG|apply wH|apply And.intro))|((with_reducible refine oD ?_ ?_);kernel_rfl)|((with_reducible (first|apply oE|apply oF));(iterate 3 exact rfl);all_goals (intro h;first|(exact absurd h (by decide))|((try simp only [go_sem,simprocAttr,ku] at h);(try with_reducible intro K hK);simp only [go_sem,simprocAttr,ku])))|((first|((with_reducible apply wL);exact rfl)|((with_reducible apply wM);exact rfl));all_goals (try ((with_reducible intro h);first|(exact absurd h (by decide))|(try simp only [go_sem,simprocAttr,ku] at h))))|omega|((first|refine aa hX hC hP (xY ps x hl) rfl rfl rfl (by simp only [go_sem,simprocAttr,ku]) rfl ?_);try simp only [go_sem,simprocAttr,ku])|(intro h))
theorem lC (ps:List Edge) (hl:ps.length≤1000000):
 Spec Tryz.prog 59 (Args [.d (sE ps)]) [] (.d (sE ps)) []:=by
 (refine Spec.intro (C:=T.cfg [] []) (rs:= [.t 2]) (T.aj _ _) Tryz.func59 rfl rfl Tryz.ntmps59 Tryz.results59 (by simp [AObj.isNest]) (by simp [AObj.isNest]) (by kernel_rfl) ?_;intro X hX hP hC aL aM vals hA;refine ⟨_,by simp,hA, ?_⟩;have af:X.P.follows .mixedOrders=true:=(by rw [hP];exact T.mixed);clear aL aM)
 repeat' (first|((first|((with_reducible (first|apply oA|apply oB));exact rfl;intro K hK)|(refine hK _ ?_;clear hK K)|((with_reducible (first|apply oG|apply oH));iterate 3 exact rfl)|((with_reducible apply oI);(iterate 2 exact rfl);intro K hK)|(with_reducible (first|apply wI|apply wJ|apply wK)));try simp only [go_sem,simprocAttr])|(with_reducible (first|apply oC|apply oJ|exact oK|apply wA|apply wB|apply wC hX hC|apply wD hX hC|apply wE hX hC af|apply wF hX hC af|apply wG|apply wH|apply And.intro))|((with_reducible refine oD ?_ ?_);kernel_rfl)|((with_reducible (first|apply oE|apply oF));(iterate 3 exact rfl);all_goals (intro h;first|(exact absurd h (by decide))|((try simp only [go_sem,simprocAttr] at h);(try with_reducible intro K hK);simp only [go_sem,simprocAttr])))|((first|((with_reducible apply wL);exact rfl)|((with_reducible apply wM);exact rfl));all_goals (try ((with_reducible intro h);first|(exact absurd h (by decide))|(try simp only [go_sem,simprocAttr] at h))))|omega|(intro h))
 exact h.symm
theorem lD (ps:List Int) (hl:ps.length≤1000000):
 Spec Tryz.prog 53 (Args [.d (sI ps)]) [] (.d (sI ps)) []:=by
 (refine Spec.intro (C:=T.cfg [] []) (rs:= [.t 2]) (T.aj _ _) Tryz.func53 rfl rfl Tryz.ntmps53 Tryz.results53 (by simp [AObj.isNest]) (by simp [AObj.isNest]) (by kernel_rfl) ?_;intro X hX hP hC aL aM vals hA;refine ⟨_,by simp,hA, ?_⟩;have af:X.P.follows .mixedOrders=true:=(by rw [hP];exact T.mixed);clear aL aM)
 repeat' (first|((first|((with_reducible (first|apply oA|apply oB));exact rfl;intro K hK)|(refine hK _ ?_;clear hK K)|((with_reducible (first|apply oG|apply oH));iterate 3 exact rfl)|((with_reducible apply oI);(iterate 2 exact rfl);intro K hK)|(with_reducible (first|apply wI|apply wJ|apply wK)));try simp only [go_sem,simprocAttr])|(with_reducible (first|apply oC|apply oJ|exact oK|apply wA|apply wB|apply wC hX hC|apply wD hX hC|apply wE hX hC af|apply wF hX hC af|apply wG|apply wH|apply And.intro))|((with_reducible refine oD ?_ ?_);kernel_rfl)|((with_reducible (first|apply oE|apply oF));(iterate 3 exact rfl);all_goals (intro h;first|(exact absurd h (by decide))|((try simp only [go_sem,simprocAttr] at h);(try with_reducible intro K hK);simp only [go_sem,simprocAttr])))|((first|((with_reducible apply wL);exact rfl)|((with_reducible apply wM);exact rfl));all_goals (try ((with_reducible intro h);first|(exact absurd h (by decide))|(try simp only [go_sem,simprocAttr] at h))))|omega|(intro h))
 exact h.symm
theorem uD {α:Type} {xs ys:List α} (d:α) {k:Nat} (h1:k<xs.length) (h2:k<ys.length) (h:xs.take k=ys.take k) (he:xs.getD k d=ys.getD k d):xs.take (k+1)=ys.take (k+1):=by
 rw [List.take_add_one,List.take_add_one,h,List.getElem?_eq_getElem h1,List.getElem?_eq_getElem h2]
 simp only [List.getD_eq_getElem?_getD,List.getElem?_eq_getElem h1,List.getElem?_eq_getElem h2,Option.getD_some] at he
 rw [he]
theorem jo (xs ys:List Int) (hlen:xs.length≤9223372036854775807):Spec Tryz.prog 21 (Args [.d (sI xs), .d (sI ys)]) [] (eB (decide (xs=ys))) []:=by
 (refine Spec.intro (C:=T.cfg [] []) (rs:= [.t 4]) (T.aj _ _) Tryz.func21 rfl rfl Tryz.ntmps21 Tryz.results21 (by simp [AObj.isNest]) (by simp [AObj.isNest]) (by kernel_rfl) ?_;intro X hX hP hC aL aM vals hA;refine ⟨_,by simp,hA, ?_⟩;have af:X.P.follows .mixedOrders=true:=(by rw [hP];exact T.mixed);clear aL aM)
 repeat' (first|((first|((with_reducible (first|apply oA|apply oB));exact rfl;intro K hK)|(refine hK _ ?_;clear hK K)|((with_reducible (first|apply oG|apply oH));iterate 3 exact rfl)|((with_reducible apply oI);(iterate 2 exact rfl);intro K hK)|(with_reducible (first|apply wI|apply wJ|apply wK)));try simp only [go_sem,simprocAttr])|(with_reducible (first|apply oC|apply oJ|exact oK|apply wA|apply wB|apply wC hX hC|apply wD hX hC|apply wE hX hC af|apply wF hX hC af|apply wG|apply wH|apply And.intro))|((with_reducible refine oD ?_ ?_);kernel_rfl)|((with_reducible (first|apply oE|apply oF));(iterate 3 exact rfl);all_goals (intro h;first|(exact absurd h (by decide))|((try simp only [go_sem,simprocAttr] at h);(try with_reducible intro K hK);simp only [go_sem,simprocAttr])))|((first|((with_reducible apply wL);exact rfl)|((with_reducible apply wM);exact rfl));all_goals (try ((with_reducible intro h);first|(exact absurd h (by decide))|(try simp only [go_sem,simprocAttr] at h))))|omega|(intro h))
 ·have:xs≠ys:=fun e=>h (by rw [e])
  simp [this]
 refine ah (fun k:Nat=>k≤xs.length∧xs.take k=ys.take k) (fun k=>⟨[(0, .d (sI xs)),(1, .d (sI ys)),(5,eN k)], []⟩) (fun k=>xs.length - k) 0 (by simp) ?_ ?_
 ·(refine ⟨b7 ?_,fun _ _ h=>h⟩;simp [go_sem,simprocAttr])
 rintro k ⟨hk,hp⟩
 have A7:xs.length=ys.length:=by omega
 repeat' (first|((first|((with_reducible (first|apply oA|apply oB));exact rfl;intro K hK)|(refine hK _ ?_;clear hK K)|((with_reducible (first|apply oG|apply oH));iterate 3 exact rfl)|((with_reducible apply oI);(iterate 2 exact rfl);intro K hK)|(with_reducible (first|apply wI|apply wJ|apply wK)));try simp only [go_sem,simprocAttr])|(with_reducible (first|apply oC|apply oJ|exact oK|apply wA|apply wB|apply wC hX hC|apply wD hX hC|apply wE hX hC af|apply wF hX hC af|apply wG|apply wH|apply And.intro))|((with_reducible refine oD ?_ ?_);kernel_rfl)|((with_reducible (first|apply oE|apply oF));(iterate 3 exact rfl);all_goals (intro h;first|(exact absurd h (by decide))|((try simp only [go_sem,simprocAttr] at h);(try with_reducible intro K hK);simp only [go_sem,simprocAttr])))|((first|((with_reducible apply wL);exact rfl)|((with_reducible apply wM);exact rfl));all_goals (try ((with_reducible intro h);first|(exact absurd h (by decide))|(try simp only [go_sem,simprocAttr] at h))))|omega|(intro h))
 ·have:xs≠ys:=fun e=>h (by rw [e])
  simp [this]
 ·refine ⟨k+1,⟨by omega,uD 0 (by omega) (by omega) hp h⟩, ?_,by omega⟩
  (refine ⟨b7 ?_,fun _ _ h=>h⟩;simp [go_sem,simprocAttr])
 ·have:k=xs.length:=by omega
  subst this
  rw [List.take_of_length_le (Nat.le_refl _),List.take_of_length_le (by omega)] at hp
  simp [hp]
theorem Du {α:Type} {f:α→Bool} {xs:List α} (d:α) {k:Nat} (h1:k<xs.length) (h:(xs.take k).any f=false) (he:f (xs.getD k d)=false):(xs.take (k+1)).any f=false:=by
 rw [List.take_add_one,List.any_append,h,List.getElem?_eq_getElem h1]
 simp only [List.getD_eq_getElem?_getD,List.getElem?_eq_getElem h1,Option.getD_some] at he
 simp [he]
theorem HD {α:Type} {f:α→Bool} {xs:List α} {d:α} {k:Nat} (h1:k<xs.length) (he:f (xs.getD k d)=true):xs.any f=true:=by
 rw [List.any_eq_true]
 refine ⟨_,List.getElem_mem h1, ?_⟩
 simpa only [List.getD_eq_getElem?_getD,List.getElem?_eq_getElem h1,Option.getD_some] using he
theorem xZ {g:Gr} {k:Nat} (h1:k<g.es.length) (he:ow g (g.es.getD k (0,0))=true):false=aO g:=by
 simp [aO,HD h1 he]
theorem cO (g:Gr) (hl:g.es.length≤9223372036854775807):Spec Tryz.prog 63 (Args [eG g]) [] (eB (aO g)) []:=by
 (refine Spec.intro (C:=T.cfg [] []) (rs:= [.t 2]) (T.aj _ _) Tryz.func63 rfl rfl Tryz.ntmps63 Tryz.results63 (by simp [AObj.isNest]) (by simp [AObj.isNest]) (by kernel_rfl) ?_;intro X hX hP hC aL aM vals hA;refine ⟨_,by simp,hA, ?_⟩;have af:X.P.follows .mixedOrders=true:=(by rw [hP];exact T.mixed);clear aL aM)
 repeat' (first|((first|((with_reducible (first|apply oA|apply oB));exact rfl;intro K hK)|(refine hK _ ?_;clear hK K)|((with_reducible (first|apply oG|apply oH));iterate 3 exact rfl)|((with_reducible apply oI);(iterate 2 exact rfl);intro K hK)|(with_reducible (first|apply wI|apply wJ|apply wK)));try simp only [go_sem,simprocAttr])|(with_reducible (first|apply oC|apply oJ|exact oK|apply wA|apply wB|apply wC hX hC|apply wD hX hC|apply wE hX hC af|apply wF hX hC af|apply wG|apply wH|apply And.intro))|((with_reducible refine oD ?_ ?_);kernel_rfl)|((with_reducible (first|apply oE|apply oF));(iterate 3 exact rfl);all_goals (intro h;first|(exact absurd h (by decide))|((try simp only [go_sem,simprocAttr] at h);(try with_reducible intro K hK);simp only [go_sem,simprocAttr])))|((first|((with_reducible apply wL);exact rfl)|((with_reducible apply wM);exact rfl));all_goals (try ((with_reducible intro h);first|(exact absurd h (by decide))|(try simp only [go_sem,simprocAttr] at h))))|omega|(intro h))
 any_goals (simp [aO];omega)
 refine ah (fun k:Nat=>k≤g.es.length∧(g.es.take k).any (ow g)=false) (fun k=>⟨[(1, .ptr 1 0),(3,eN k)], [(1, .box [eN g.n, .d (sE g.es)])]⟩) (fun k=>g.es.length - k) 0 (by simp) ?_ ?_
 ·(refine Le.of ?_ ?_<;>simp [go_sem,simprocAttr])
 rintro k ⟨hk,hp⟩
 repeat' (first|((first|((with_reducible (first|apply oA|apply oB));exact rfl;intro K hK)|(refine hK _ ?_;clear hK K)|((with_reducible (first|apply oG|apply oH));iterate 3 exact rfl)|((with_reducible apply oI);(iterate 2 exact rfl);intro K hK)|(with_reducible (first|apply wI|apply wJ|apply wK)));try simp only [go_sem,simprocAttr])|(with_reducible (first|apply oC|apply oJ|exact oK|apply wA|apply wB|apply wC hX hC|apply wD hX hC|apply wE hX hC af|apply wF hX hC af|apply wG|apply wH|apply And.intro))|((with_reducible refine oD ?_ ?_);kernel_rfl)|((with_reducible (first|apply oE|apply oF));(iterate 3 exact rfl);all_goals (intro h;first|(exact absurd h (by decide))|((try simp only [go_sem,simprocAttr] at h);(try with_reducible intro K hK);simp only [go_sem,simprocAttr])))|((first|((with_reducible apply wL);exact rfl)|((with_reducible apply wM);exact rfl));all_goals (try ((with_reducible intro h);first|(exact absurd h (by decide))|(try simp only [go_sem,simprocAttr] at h))))|omega|(intro h))
 any_goals (refine xZ (k:=k) (by omega) ?_;simp only [ow,tY,Bool.or_eq_true,decide_eq_true_eq];omega)
 ·refine ⟨k+1,⟨by omega,Du (0,0) (by omega) hp ?_⟩, ?_,by omega⟩
  ·simp only [ow,tY,Bool.or_eq_false_iff,decide_eq_false_iff_not];omega
  ·(refine Le.of ?_ ?_<;>simp [go_sem,simprocAttr])
 ·rw [List.take_of_length_le (by omega)] at hp
  simp [aO,hp];omega
end Go.Ab
end
