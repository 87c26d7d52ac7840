/- A part of the proof. -/
import Derived.Test.YtjmaiddbinlooaaGreatProg
import Derived.Test.YtjmaiddbinlooaaGreatL6P9
set_option linter.unusedSimpArgs false
set_option linter.unusedVariables false
section
namespace Go.Ab.T
open Go.Proofs
def T:Nat→Option TI
 |1=>some ⟨.sc,1,8, [(.d (.sc .nilFunc))]⟩
 |2=>some ⟨(.int .i64),1,8, [(.d (.sc (.int .i64 0)))]⟩
 |3=>some ⟨(.int .i64),1,8, [(.d (.sc (.int .i64 0)))]⟩
 |4=>some ⟨.bool,1,1, [(.d (.sc (.bool false)))]⟩
 |5=>some ⟨(.int .u8),1,1, [(.d (.sc (.int .u8 0)))]⟩
 |9=>some ⟨.sc,1,16, [(.d (.sc (.string ⟨#[]⟩)))]⟩
 |12=>some ⟨(.int .u64),1,8, [(.d (.sc (.int .u64 0)))]⟩
 |21=>some ⟨(.int .i32),1,4, [(.d (.sc (.int .i32 0)))]⟩
 |22=>some ⟨(.sl 58),1,24, [(.nil 58)]⟩
 |24=>some ⟨(.st [(0,3),(1,22)]),2,32, [(.d (.sc (.int .i64 0))),(.nil 58)]⟩
 |25=>some ⟨(.sl 3),1,24, [(.nil 3)]⟩
 |26=>some ⟨(.sl 25),1,24, [(.nil 25)]⟩
 |28=>some ⟨(.st [(0,25),(1,26)]),2,48, [(.nil 3),(.nil 25)]⟩
 |29=>some ⟨.sc,1,8, [(.d (.sc .nilFunc))]⟩
 |30=>some ⟨.sc,1,8, [(.d (.sc .nilFunc))]⟩
 |32=>some ⟨(.st [(0,25),(1,25),(2,25),(3,25)]),4,96, [(.nil 3),(.nil 3),(.nil 3),(.nil 3)]⟩
 |33=>some ⟨(.int .i64),1,8, [(.d (.sc (.int .i64 0)))]⟩
 |35=>some ⟨.sc,1,8, [(.d (.sc .nilFunc))]⟩
 |36=>some ⟨.sc,1,8, [(.d (.sc .nilFunc))]⟩
 |37=>some ⟨(.st [(0,25),(1,25),(2,25),(3,25)]),4,96, [(.nil 3),(.nil 3),(.nil 3),(.nil 3)]⟩
 |39=>some ⟨.sc,1,8, [(.d (.sc .nilFunc))]⟩
 |40=>some ⟨.sc,1,8, [(.d (.sc .nilFunc))]⟩
 |41=>some ⟨.sc,1,8, [(.d (.sc .nilFunc))]⟩
 |42=>some ⟨.sc,1,8, [(.d (.sc .nilFunc))]⟩
 |43=>some ⟨.sc,1,8, [(.d (.sc .nilFunc))]⟩
 |44=>some ⟨.sc,1,8, [(.d (.sc .nilFunc))]⟩
 |45=>some ⟨(.pt 100),1,8, [(.d (.sc (.pointer none)))]⟩
 |46=>some ⟨.sc,1,8, [(.d (.sc .nilFunc))]⟩
 |48=>some ⟨.sc,1,8, [(.d (.sc .nilFunc))]⟩
 |49=>some ⟨.sc,1,8, [(.d (.sc .nilFunc))]⟩
 |50=>some ⟨(.sl 25),1,24, [(.nil 25)]⟩
 |52=>some ⟨.sc,1,8, [(.d (.sc .nilFunc))]⟩
 |53=>some ⟨.sc,1,8, [(.d (.sc .nilFunc))]⟩
 |54=>some ⟨.sc,1,8, [(.d (.sc .nilFunc))]⟩
 |55=>some ⟨(.sl 60),1,24, [(.nil 60)]⟩
 |56=>some ⟨.sc,1,8, [(.d (.sc .nilFunc))]⟩
 |58=>some ⟨(.st [(0,3),(1,3)]),2,16, [(.d (.sc (.int .i64 0))),(.d (.sc (.int .i64 0)))]⟩
 |59=>some ⟨(.int .u64),1,8, [(.d (.sc (.int .u64 0)))]⟩
 |60=>some ⟨(.int .u64),1,8, [(.d (.sc (.int .u64 0)))]⟩
 |61=>some ⟨.sc,1,8, [(.d (.sc .nilFunc))]⟩
 |62=>some ⟨(.ar 4 4),4,4, [(.d (.sc (.bool false))),(.d (.sc (.bool false))),(.d (.sc (.bool false))),(.d (.sc (.bool false)))]⟩
 |64=>some ⟨(.st [(0,25),(1,25),(2,25),(3,25)]),4,96, [(.nil 3),(.nil 3),(.nil 3),(.nil 3)]⟩
 |66=>some ⟨.sc,1,8, [(.d (.sc .nilFunc))]⟩
 |67=>some ⟨(.st [(0,25),(1,25),(2,25),(3,25)]),4,96, [(.nil 3),(.nil 3),(.nil 3),(.nil 3)]⟩
 |69=>some ⟨.sc,1,8, [(.d (.sc .nilFunc))]⟩
 |71=>some ⟨.sc,1,8, [(.d (.sc .nilFunc))]⟩
 |72=>some ⟨.sc,1,8, [(.d (.sc .nilFunc))]⟩
 |73=>some ⟨.sc,1,8, [(.d (.sc .nilFunc))]⟩
 |75=>some ⟨.sc,1,8, [(.d (.sc .nilFunc))]⟩
 |76=>some ⟨.sc,1,8, [(.d (.sc .nilFunc))]⟩
 |77=>some ⟨.sc,1,8, [(.d (.sc .nilFunc))]⟩
 |78=>some ⟨.sc,1,8, [(.d (.sc .nilFunc))]⟩
 |79=>some ⟨(.sl 80),1,24, [(.nil 80)]⟩
 |80=>some ⟨(.sl 96),1,24, [(.nil 96)]⟩
 |82=>some ⟨(.st [(0,33),(1,3),(2,25)]),3,40, [(.d (.sc (.int .i64 0))),(.d (.sc (.int .i64 0))),(.nil 3)]⟩
 |84=>some ⟨.sc,1,8, [(.d (.sc .nilFunc))]⟩
 |85=>some ⟨.sc,1,8, [(.d (.sc .nilFunc))]⟩
 |86=>some ⟨.sc,1,8, [(.d (.sc .nilFunc))]⟩
 |87=>some ⟨.sc,1,8, [(.d (.sc .nilFunc))]⟩
 |88=>some ⟨(.pt 90),1,8, [(.d (.sc (.pointer none)))]⟩
 |90=>some ⟨(.st [(0,25),(1,25),(2,32)]),6,144, [(.nil 3),(.nil 3),(.nil 3),(.nil 3),(.nil 3),(.nil 3)]⟩
 |91=>some ⟨.sc,1,8, [(.d (.sc .nilFunc))]⟩
 |92=>some ⟨.sc,1,8, [(.d (.sc .nilFunc))]⟩
 |93=>some ⟨.sc,1,8, [(.d (.sc .nilFunc))]⟩
 |94=>some ⟨.sc,1,8, [(.d (.sc .nilFunc))]⟩
 |96=>some ⟨(.st [(0,3),(1,3),(2,3)]),3,24, [(.d (.sc (.int .i64 0))),(.d (.sc (.int .i64 0))),(.d (.sc (.int .i64 0)))]⟩
 |97=>some ⟨.sc,1,8, [(.d (.sc .nilFunc))]⟩
 |98=>some ⟨.sc,1,8, [(.d (.sc .nilFunc))]⟩
 |100=>some ⟨(.st [(0,24),(2,26),(3,26)]),4,80, [(.d (.sc (.int .i64 0))),(.nil 58),(.nil 25),(.nil 25)]⟩
 |101=>some ⟨.sc,1,8, [(.d (.sc .nilFunc))]⟩
 |103=>some ⟨.sc,1,8, [(.d (.sc .nilFunc))]⟩
 |104=>some ⟨.sc,1,8, [(.d (.sc .nilFunc))]⟩
 |105=>some ⟨.sc,1,8, [(.d (.sc .nilFunc))]⟩
 |106=>some ⟨.sc,1,8, [(.d (.sc .nilFunc))]⟩
 |107=>some ⟨.sc,1,8, [(.d (.sc .nilFunc))]⟩
 |108=>some ⟨.sc,1,8, [(.d (.sc .nilFunc))]⟩
 |109=>some ⟨.sc,1,8, [(.d (.sc .nilFunc))]⟩
 |110=>some ⟨.sc,1,8, [(.d (.sc .nilFunc))]⟩
 |112=>some ⟨.sc,1,8, [(.d (.sc .nilFunc))]⟩
 |113=>some ⟨.sc,1,8, [(.d (.sc .nilFunc))]⟩
 |114=>some ⟨.sc,1,8, [(.d (.sc .nilFunc))]⟩
 |115=>some ⟨.sc,1,8, [(.d (.sc .nilFunc))]⟩
 |116=>some ⟨.sc,1,8, [(.d (.sc .nilFunc))]⟩
 |117=>some ⟨.sc,1,8, [(.d (.sc .nilFunc))]⟩
 |118=>some ⟨.sc,1,8, [(.d (.sc .nilFunc))]⟩
 |119=>some ⟨.sc,1,8, [(.d (.sc .nilFunc))]⟩
 |120=>some ⟨.sc,1,8, [(.d (.sc .nilFunc))]⟩
 |121=>some ⟨.sc,1,8, [(.d (.sc .nilFunc))]⟩
 |122=>some ⟨(.sl 4),1,24, [(.nil 4)]⟩
 |123=>some ⟨(.pt 133),1,8, [(.d (.sc (.pointer none)))]⟩
 |125=>some ⟨.sc,1,8, [(.d (.sc .nilFunc))]⟩
 |126=>some ⟨.sc,1,8, [(.d (.sc .nilFunc))]⟩
 |128=>some ⟨.sc,1,8, [(.d (.sc .nilFunc))]⟩
 |129=>some ⟨.sc,1,8, [(.d (.sc .nilFunc))]⟩
 |131=>some ⟨(.st [(0,80)]),1,24, [(.nil 96)]⟩
 |133=>some ⟨(.st [(0,131),(1,45),(2,25)]),3,56, [(.nil 96),(.d (.sc (.pointer none))),(.nil 3)]⟩
 |135=>some ⟨.sc,1,8, [(.d (.sc .nilFunc))]⟩
 |136=>some ⟨.sc,1,8, [(.d (.sc .nilFunc))]⟩
 |137=>some ⟨.sc,1,8, [(.d (.sc .nilFunc))]⟩
 |138=>some ⟨.sc,1,8, [(.d (.sc .nilFunc))]⟩
 |139=>some ⟨.sc,1,8, [(.d (.sc .nilFunc))]⟩
 |140=>some ⟨.sc,1,8, [(.d (.sc .nilFunc))]⟩
 |141=>some ⟨.sc,1,8, [(.d (.sc .nilFunc))]⟩
 |143=>some ⟨.sc,1,8, [(.d (.sc .nilFunc))]⟩
 |145=>some ⟨.sc,1,8, [(.d (.sc .nilFunc))]⟩
 |146=>some ⟨.sc,1,8, [(.d (.sc .nilFunc))]⟩
 |147=>some ⟨.sc,1,8, [(.d (.sc .nilFunc))]⟩
 |148=>some ⟨.sc,1,8, [(.d (.sc .nilFunc))]⟩
 |149=>some ⟨.sc,1,8, [(.d (.sc .nilFunc))]⟩
 |150=>some ⟨.sc,1,8, [(.d (.sc .nilFunc))]⟩
 |151=>some ⟨.sc,1,8, [(.d (.sc .nilFunc))]⟩
 |152=>some ⟨(.int .u64),1,8, [(.d (.sc (.int .u64 0)))]⟩
 |153=>some ⟨.sc,1,8, [(.d (.sc .nilFunc))]⟩
 |154=>some ⟨.sc,1,8, [(.d (.sc .nilFunc))]⟩
 |155=>some ⟨.sc,1,8, [(.d (.sc .nilFunc))]⟩
 |156=>some ⟨.sc,1,8, [(.d (.sc .nilFunc))]⟩
 |158=>some ⟨.sc,1,8, [(.d (.sc .nilFunc))]⟩
 |159=>some ⟨.sc,1,8, [(.d (.sc .nilFunc))]⟩
 |160=>some ⟨.sc,1,8, [(.d (.sc .nilFunc))]⟩
 |161=>some ⟨(.pt 131),1,8, [(.d (.sc (.pointer none)))]⟩
 |162=>some ⟨.sc,1,8, [(.d (.sc .nilFunc))]⟩
 |163=>some ⟨(.pt 165),1,8, [(.d (.sc (.pointer none)))]⟩
 |165=>some ⟨(.st [(0,24),(2,80),(3,25)]),4,80, [(.d (.sc (.int .i64 0))),(.nil 58),(.nil 96),(.nil 3)]⟩
 |167=>some ⟨.sc,1,8, [(.d (.sc .nilFunc))]⟩
 |168=>some ⟨.sc,1,8, [(.d (.sc .nilFunc))]⟩
 |169=>some ⟨.sc,1,8, [(.d (.sc .nilFunc))]⟩
 |170=>some ⟨.sc,1,8, [(.d (.sc .nilFunc))]⟩
 |171=>some ⟨.sc,1,8, [(.d (.sc .nilFunc))]⟩
 |172=>some ⟨.sc,1,8, [(.d (.sc .nilFunc))]⟩
 |173=>some ⟨(.int .i64),1,8, [(.d (.sc (.int .i64 0)))]⟩
 |175=>some ⟨.sc,1,8, [(.d (.sc .nilFunc))]⟩
 |176=>some ⟨.sc,1,8, [(.d (.sc .nilFunc))]⟩
 |177=>some ⟨.sc,1,8, [(.d (.sc .nilFunc))]⟩
 |179=>some ⟨.sc,1,8, [(.d (.sc .nilFunc))]⟩
 |180=>some ⟨.sc,1,8, [(.d (.sc .nilFunc))]⟩
 |181=>some ⟨(.int .u32),1,4, [(.d (.sc (.int .u32 0)))]⟩
 |182=>some ⟨.sc,1,8, [(.d (.sc .nilFunc))]⟩
 |183=>some ⟨.sc,1,8, [(.d (.sc .nilFunc))]⟩
 |184=>some ⟨.sc,1,8, [(.d (.sc .nilFunc))]⟩
 |185=>some ⟨.sc,1,8, [(.d (.sc .nilFunc))]⟩
 |186=>some ⟨(.int .u64),1,8, [(.d (.sc (.int .u64 0)))]⟩
 |187=>some ⟨.sc,1,8, [(.d (.sc .nilFunc))]⟩
 |188=>some ⟨.sc,1,8, [(.d (.sc .nilFunc))]⟩
 |189=>some ⟨.sc,1,8, [(.d (.sc .nilFunc))]⟩
 |190=>some ⟨(.pt 3),1,8, [(.d (.sc (.pointer none)))]⟩
 |191=>some ⟨.sc,1,8, [(.d (.sc .nilFunc))]⟩
 |192=>some ⟨.sc,1,8, [(.d (.sc .nilFunc))]⟩
 |193=>some ⟨.sc,1,8, [(.d (.sc .nilFunc))]⟩
 |194=>some ⟨.sc,1,8, [(.d (.sc .nilFunc))]⟩
 |195=>some ⟨.sc,1,8, [(.d (.sc .nilFunc))]⟩
 |196=>some ⟨.sc,1,8, [(.d (.sc .nilFunc))]⟩
 |197=>some ⟨(.pt 186),1,8, [(.d (.sc (.pointer none)))]⟩
 |199=>some ⟨.sc,1,8, [(.d (.sc .nilFunc))]⟩
 |200=>some ⟨.sc,1,8, [(.d (.sc .nilFunc))]⟩
 |201=>some ⟨.sc,1,8, [(.d (.sc .nilFunc))]⟩
 |202=>some ⟨.sc,1,8, [(.d (.sc .nilFunc))]⟩
 |203=>some ⟨.sc,1,8, [(.d (.sc .nilFunc))]⟩
 |204=>some ⟨.sc,1,8, [(.d (.sc .nilFunc))]⟩
 |205=>some ⟨.sc,1,8, [(.d (.sc .nilFunc))]⟩
 |206=>some ⟨.sc,1,8, [(.d (.sc .nilFunc))]⟩
 |207=>some ⟨.sc,1,8, [(.d (.sc .nilFunc))]⟩
 |208=>some ⟨.sc,1,8, [(.d (.sc .nilFunc))]⟩
 |209=>some ⟨.sc,1,8, [(.d (.sc .nilFunc))]⟩
 |215=>some ⟨.sc,1,8, [(.d (.sc .nilFunc))]⟩
 |219=>some ⟨(.pt 5),1,8, [(.d (.sc (.pointer none)))]⟩
 |_=>none
theorem T1:T 1=some ⟨.sc,1,8, [(.d (.sc .nilFunc))]⟩:=rfl
theorem T2:T 2=some ⟨(.int .i64),1,8, [(.d (.sc (.int .i64 0)))]⟩:=rfl
theorem T3:T 3=some ⟨(.int .i64),1,8, [(.d (.sc (.int .i64 0)))]⟩:=rfl
theorem T4:T 4=some ⟨.bool,1,1, [(.d (.sc (.bool false)))]⟩:=rfl
theorem T5:T 5=some ⟨(.int .u8),1,1, [(.d (.sc (.int .u8 0)))]⟩:=rfl
theorem T9:T 9=some ⟨.sc,1,16, [(.d (.sc (.string ⟨#[]⟩)))]⟩:=rfl
theorem T12:T 12=some ⟨(.int .u64),1,8, [(.d (.sc (.int .u64 0)))]⟩:=rfl
theorem T21:T 21=some ⟨(.int .i32),1,4, [(.d (.sc (.int .i32 0)))]⟩:=rfl
theorem T22:T 22=some ⟨(.sl 58),1,24, [(.nil 58)]⟩:=rfl
theorem T24:T 24=some ⟨(.st [(0,3),(1,22)]),2,32, [(.d (.sc (.int .i64 0))),(.nil 58)]⟩:=rfl
theorem T25:T 25=some ⟨(.sl 3),1,24, [(.nil 3)]⟩:=rfl
theorem T26:T 26=some ⟨(.sl 25),1,24, [(.nil 25)]⟩:=rfl
theorem T28:T 28=some ⟨(.st [(0,25),(1,26)]),2,48, [(.nil 3),(.nil 25)]⟩:=rfl
theorem T29:T 29=some ⟨.sc,1,8, [(.d (.sc .nilFunc))]⟩:=rfl
theorem T30:T 30=some ⟨.sc,1,8, [(.d (.sc .nilFunc))]⟩:=rfl
theorem T32:T 32=some ⟨(.st [(0,25),(1,25),(2,25),(3,25)]),4,96, [(.nil 3),(.nil 3),(.nil 3),(.nil 3)]⟩:=rfl
theorem T33:T 33=some ⟨(.int .i64),1,8, [(.d (.sc (.int .i64 0)))]⟩:=rfl
theorem T35:T 35=some ⟨.sc,1,8, [(.d (.sc .nilFunc))]⟩:=rfl
theorem T36:T 36=some ⟨.sc,1,8, [(.d (.sc .nilFunc))]⟩:=rfl
theorem T37:T 37=some ⟨(.st [(0,25),(1,25),(2,25),(3,25)]),4,96, [(.nil 3),(.nil 3),(.nil 3),(.nil 3)]⟩:=rfl
theorem T39:T 39=some ⟨.sc,1,8, [(.d (.sc .nilFunc))]⟩:=rfl
theorem T40:T 40=some ⟨.sc,1,8, [(.d (.sc .nilFunc))]⟩:=rfl
theorem T41:T 41=some ⟨.sc,1,8, [(.d (.sc .nilFunc))]⟩:=rfl
theorem T42:T 42=some ⟨.sc,1,8, [(.d (.sc .nilFunc))]⟩:=rfl
theorem T43:T 43=some ⟨.sc,1,8, [(.d (.sc .nilFunc))]⟩:=rfl
theorem T44:T 44=some ⟨.sc,1,8, [(.d (.sc .nilFunc))]⟩:=rfl
theorem T45:T 45=some ⟨(.pt 100),1,8, [(.d (.sc (.pointer none)))]⟩:=rfl
theorem T46:T 46=some ⟨.sc,1,8, [(.d (.sc .nilFunc))]⟩:=rfl
theorem T48:T 48=some ⟨.sc,1,8, [(.d (.sc .nilFunc))]⟩:=rfl
theorem T49:T 49=some ⟨.sc,1,8, [(.d (.sc .nilFunc))]⟩:=rfl
theorem T50:T 50=some ⟨(.sl 25),1,24, [(.nil 25)]⟩:=rfl
theorem T52:T 52=some ⟨.sc,1,8, [(.d (.sc .nilFunc))]⟩:=rfl
theorem T53:T 53=some ⟨.sc,1,8, [(.d (.sc .nilFunc))]⟩:=rfl
theorem T54:T 54=some ⟨.sc,1,8, [(.d (.sc .nilFunc))]⟩:=rfl
theorem T55:T 55=some ⟨(.sl 60),1,24, [(.nil 60)]⟩:=rfl
theorem T56:T 56=some ⟨.sc,1,8, [(.d (.sc .nilFunc))]⟩:=rfl
theorem T58:T 58=some ⟨(.st [(0,3),(1,3)]),2,16, [(.d (.sc (.int .i64 0))),(.d (.sc (.int .i64 0)))]⟩:=rfl
theorem T59:T 59=some ⟨(.int .u64),1,8, [(.d (.sc (.int .u64 0)))]⟩:=rfl
theorem T60:T 60=some ⟨(.int .u64),1,8, [(.d (.sc (.int .u64 0)))]⟩:=rfl
theorem T61:T 61=some ⟨.sc,1,8, [(.d (.sc .nilFunc))]⟩:=rfl
theorem T62:T 62=some ⟨(.ar 4 4),4,4, [(.d (.sc (.bool false))),(.d (.sc (.bool false))),(.d (.sc (.bool false))),(.d (.sc (.bool false)))]⟩:=rfl
theorem T64:T 64=some ⟨(.st [(0,25),(1,25),(2,25),(3,25)]),4,96, [(.nil 3),(.nil 3),(.nil 3),(.nil 3)]⟩:=rfl
theorem T66:T 66=some ⟨.sc,1,8, [(.d (.sc .nilFunc))]⟩:=rfl
theorem T67:T 67=some ⟨(.st [(0,25),(1,25),(2,25),(3,25)]),4,96, [(.nil 3),(.nil 3),(.nil 3),(.nil 3)]⟩:=rfl
theorem T69:T 69=some ⟨.sc,1,8, [(.d (.sc .nilFunc))]⟩:=rfl
theorem T71:T 71=some ⟨.sc,1,8, [(.d (.sc .nilFunc))]⟩:=rfl
theorem T72:T 72=some ⟨.sc,1,8, [(.d (.sc .nilFunc))]⟩:=rfl
theorem T73:T 73=some ⟨.sc,1,8, [(.d (.sc .nilFunc))]⟩:=rfl
theorem T75:T 75=some ⟨.sc,1,8, [(.d (.sc .nilFunc))]⟩:=rfl
theorem T76:T 76=some ⟨.sc,1,8, [(.d (.sc .nilFunc))]⟩:=rfl
theorem T77:T 77=some ⟨.sc,1,8, [(.d (.sc .nilFunc))]⟩:=rfl
theorem T78:T 78=some ⟨.sc,1,8, [(.d (.sc .nilFunc))]⟩:=rfl
theorem T79:T 79=some ⟨(.sl 80),1,24, [(.nil 80)]⟩:=rfl
theorem T80:T 80=some ⟨(.sl 96),1,24, [(.nil 96)]⟩:=rfl
theorem T82:T 82=some ⟨(.st [(0,33),(1,3),(2,25)]),3,40, [(.d (.sc (.int .i64 0))),(.d (.sc (.int .i64 0))),(.nil 3)]⟩:=rfl
theorem T84:T 84=some ⟨.sc,1,8, [(.d (.sc .nilFunc))]⟩:=rfl
theorem T85:T 85=some ⟨.sc,1,8, [(.d (.sc .nilFunc))]⟩:=rfl
theorem T86:T 86=some ⟨.sc,1,8, [(.d (.sc .nilFunc))]⟩:=rfl
theorem T87:T 87=some ⟨.sc,1,8, [(.d (.sc .nilFunc))]⟩:=rfl
theorem T88:T 88=some ⟨(.pt 90),1,8, [(.d (.sc (.pointer none)))]⟩:=rfl
theorem T90:T 90=some ⟨(.st [(0,25),(1,25),(2,32)]),6,144, [(.nil 3),(.nil 3),(.nil 3),(.nil 3),(.nil 3),(.nil 3)]⟩:=rfl
theorem T91:T 91=some ⟨.sc,1,8, [(.d (.sc .nilFunc))]⟩:=rfl
theorem T92:T 92=some ⟨.sc,1,8, [(.d (.sc .nilFunc))]⟩:=rfl
theorem T93:T 93=some ⟨.sc,1,8, [(.d (.sc .nilFunc))]⟩:=rfl
theorem T94:T 94=some ⟨.sc,1,8, [(.d (.sc .nilFunc))]⟩:=rfl
theorem T96:T 96=some ⟨(.st [(0,3),(1,3),(2,3)]),3,24, [(.d (.sc (.int .i64 0))),(.d (.sc (.int .i64 0))),(.d (.sc (.int .i64 0)))]⟩:=rfl
theorem T97:T 97=some ⟨.sc,1,8, [(.d (.sc .nilFunc))]⟩:=rfl
theorem T98:T 98=some ⟨.sc,1,8, [(.d (.sc .nilFunc))]⟩:=rfl
theorem T100:T 100=some ⟨(.st [(0,24),(2,26),(3,26)]),4,80, [(.d (.sc (.int .i64 0))),(.nil 58),(.nil 25),(.nil 25)]⟩:=rfl
theorem T101:T 101=some ⟨.sc,1,8, [(.d (.sc .nilFunc))]⟩:=rfl
theorem T103:T 103=some ⟨.sc,1,8, [(.d (.sc .nilFunc))]⟩:=rfl
theorem T104:T 104=some ⟨.sc,1,8, [(.d (.sc .nilFunc))]⟩:=rfl
theorem T105:T 105=some ⟨.sc,1,8, [(.d (.sc .nilFunc))]⟩:=rfl
theorem T106:T 106=some ⟨.sc,1,8, [(.d (.sc .nilFunc))]⟩:=rfl
theorem T107:T 107=some ⟨.sc,1,8, [(.d (.sc .nilFunc))]⟩:=rfl
theorem T108:T 108=some ⟨.sc,1,8, [(.d (.sc .nilFunc))]⟩:=rfl
theorem T109:T 109=some ⟨.sc,1,8, [(.d (.sc .nilFunc))]⟩:=rfl
theorem T110:T 110=some ⟨.sc,1,8, [(.d (.sc .nilFunc))]⟩:=rfl
theorem T112:T 112=some ⟨.sc,1,8, [(.d (.sc .nilFunc))]⟩:=rfl
theorem T113:T 113=some ⟨.sc,1,8, [(.d (.sc .nilFunc))]⟩:=rfl
theorem T114:T 114=some ⟨.sc,1,8, [(.d (.sc .nilFunc))]⟩:=rfl
theorem T115:T 115=some ⟨.sc,1,8, [(.d (.sc .nilFunc))]⟩:=rfl
theorem T116:T 116=some ⟨.sc,1,8, [(.d (.sc .nilFunc))]⟩:=rfl
theorem T117:T 117=some ⟨.sc,1,8, [(.d (.sc .nilFunc))]⟩:=rfl
theorem T118:T 118=some ⟨.sc,1,8, [(.d (.sc .nilFunc))]⟩:=rfl
theorem T119:T 119=some ⟨.sc,1,8, [(.d (.sc .nilFunc))]⟩:=rfl
theorem T120:T 120=some ⟨.sc,1,8, [(.d (.sc .nilFunc))]⟩:=rfl
theorem T121:T 121=some ⟨.sc,1,8, [(.d (.sc .nilFunc))]⟩:=rfl
theorem T122:T 122=some ⟨(.sl 4),1,24, [(.nil 4)]⟩:=rfl
theorem T123:T 123=some ⟨(.pt 133),1,8, [(.d (.sc (.pointer none)))]⟩:=rfl
theorem T125:T 125=some ⟨.sc,1,8, [(.d (.sc .nilFunc))]⟩:=rfl
theorem T126:T 126=some ⟨.sc,1,8, [(.d (.sc .nilFunc))]⟩:=rfl
theorem T128:T 128=some ⟨.sc,1,8, [(.d (.sc .nilFunc))]⟩:=rfl
theorem T129:T 129=some ⟨.sc,1,8, [(.d (.sc .nilFunc))]⟩:=rfl
theorem T131:T 131=some ⟨(.st [(0,80)]),1,24, [(.nil 96)]⟩:=rfl
theorem T133:T 133=some ⟨(.st [(0,131),(1,45),(2,25)]),3,56, [(.nil 96),(.d (.sc (.pointer none))),(.nil 3)]⟩:=rfl
theorem T135:T 135=some ⟨.sc,1,8, [(.d (.sc .nilFunc))]⟩:=rfl
theorem T136:T 136=some ⟨.sc,1,8, [(.d (.sc .nilFunc))]⟩:=rfl
theorem T137:T 137=some ⟨.sc,1,8, [(.d (.sc .nilFunc))]⟩:=rfl
theorem T138:T 138=some ⟨.sc,1,8, [(.d (.sc .nilFunc))]⟩:=rfl
theorem T139:T 139=some ⟨.sc,1,8, [(.d (.sc .nilFunc))]⟩:=rfl
theorem T140:T 140=some ⟨.sc,1,8, [(.d (.sc .nilFunc))]⟩:=rfl
theorem T141:T 141=some ⟨.sc,1,8, [(.d (.sc .nilFunc))]⟩:=rfl
theorem T143:T 143=some ⟨.sc,1,8, [(.d (.sc .nilFunc))]⟩:=rfl
theorem T145:T 145=some ⟨.sc,1,8, [(.d (.sc .nilFunc))]⟩:=rfl
theorem T146:T 146=some ⟨.sc,1,8, [(.d (.sc .nilFunc))]⟩:=rfl
theorem T147:T 147=some ⟨.sc,1,8, [(.d (.sc .nilFunc))]⟩:=rfl
theorem T148:T 148=some ⟨.sc,1,8, [(.d (.sc .nilFunc))]⟩:=rfl
theorem T149:T 149=some ⟨.sc,1,8, [(.d (.sc .nilFunc))]⟩:=rfl
theorem T150:T 150=some ⟨.sc,1,8, [(.d (.sc .nilFunc))]⟩:=rfl
theorem T151:T 151=some ⟨.sc,1,8, [(.d (.sc .nilFunc))]⟩:=rfl
theorem T152:T 152=some ⟨(.int .u64),1,8, [(.d (.sc (.int .u64 0)))]⟩:=rfl
theorem T153:T 153=some ⟨.sc,1,8, [(.d (.sc .nilFunc))]⟩:=rfl
theorem T154:T 154=some ⟨.sc,1,8, [(.d (.sc .nilFunc))]⟩:=rfl
theorem T155:T 155=some ⟨.sc,1,8, [(.d (.sc .nilFunc))]⟩:=rfl
theorem T156:T 156=some ⟨.sc,1,8, [(.d (.sc .nilFunc))]⟩:=rfl
theorem T158:T 158=some ⟨.sc,1,8, [(.d (.sc .nilFunc))]⟩:=rfl
theorem T159:T 159=some ⟨.sc,1,8, [(.d (.sc .nilFunc))]⟩:=rfl
theorem T160:T 160=some ⟨.sc,1,8, [(.d (.sc .nilFunc))]⟩:=rfl
theorem T161:T 161=some ⟨(.pt 131),1,8, [(.d (.sc (.pointer none)))]⟩:=rfl
theorem T162:T 162=some ⟨.sc,1,8, [(.d (.sc .nilFunc))]⟩:=rfl
theorem T163:T 163=some ⟨(.pt 165),1,8, [(.d (.sc (.pointer none)))]⟩:=rfl
theorem T165:T 165=some ⟨(.st [(0,24),(2,80),(3,25)]),4,80, [(.d (.sc (.int .i64 0))),(.nil 58),(.nil 96),(.nil 3)]⟩:=rfl
theorem T167:T 167=some ⟨.sc,1,8, [(.d (.sc .nilFunc))]⟩:=rfl
theorem T168:T 168=some ⟨.sc,1,8, [(.d (.sc .nilFunc))]⟩:=rfl
theorem T169:T 169=some ⟨.sc,1,8, [(.d (.sc .nilFunc))]⟩:=rfl
theorem T170:T 170=some ⟨.sc,1,8, [(.d (.sc .nilFunc))]⟩:=rfl
theorem T171:T 171=some ⟨.sc,1,8, [(.d (.sc .nilFunc))]⟩:=rfl
theorem T172:T 172=some ⟨.sc,1,8, [(.d (.sc .nilFunc))]⟩:=rfl
theorem T173:T 173=some ⟨(.int .i64),1,8, [(.d (.sc (.int .i64 0)))]⟩:=rfl
theorem T175:T 175=some ⟨.sc,1,8, [(.d (.sc .nilFunc))]⟩:=rfl
theorem T176:T 176=some ⟨.sc,1,8, [(.d (.sc .nilFunc))]⟩:=rfl
theorem T177:T 177=some ⟨.sc,1,8, [(.d (.sc .nilFunc))]⟩:=rfl
theorem T179:T 179=some ⟨.sc,1,8, [(.d (.sc .nilFunc))]⟩:=rfl
theorem T180:T 180=some ⟨.sc,1,8, [(.d (.sc .nilFunc))]⟩:=rfl
theorem T181:T 181=some ⟨(.int .u32),1,4, [(.d (.sc (.int .u32 0)))]⟩:=rfl
theorem T182:T 182=some ⟨.sc,1,8, [(.d (.sc .nilFunc))]⟩:=rfl
theorem T183:T 183=some ⟨.sc,1,8, [(.d (.sc .nilFunc))]⟩:=rfl
theorem T184:T 184=some ⟨.sc,1,8, [(.d (.sc .nilFunc))]⟩:=rfl
theorem T185:T 185=some ⟨.sc,1,8, [(.d (.sc .nilFunc))]⟩:=rfl
theorem T186:T 186=some ⟨(.int .u64),1,8, [(.d (.sc (.int .u64 0)))]⟩:=rfl
theorem T187:T 187=some ⟨.sc,1,8, [(.d (.sc .nilFunc))]⟩:=rfl
theorem T188:T 188=some ⟨.sc,1,8, [(.d (.sc .nilFunc))]⟩:=rfl
theorem T189:T 189=some ⟨.sc,1,8, [(.d (.sc .nilFunc))]⟩:=rfl
theorem T190:T 190=some ⟨(.pt 3),1,8, [(.d (.sc (.pointer none)))]⟩:=rfl
theorem T191:T 191=some ⟨.sc,1,8, [(.d (.sc .nilFunc))]⟩:=rfl
theorem T192:T 192=some ⟨.sc,1,8, [(.d (.sc .nilFunc))]⟩:=rfl
theorem T193:T 193=some ⟨.sc,1,8, [(.d (.sc .nilFunc))]⟩:=rfl
theorem T194:T 194=some ⟨.sc,1,8, [(.d (.sc .nilFunc))]⟩:=rfl
theorem T195:T 195=some ⟨.sc,1,8, [(.d (.sc .nilFunc))]⟩:=rfl
theorem T196:T 196=some ⟨.sc,1,8, [(.d (.sc .nilFunc))]⟩:=rfl
theorem T197:T 197=some ⟨(.pt 186),1,8, [(.d (.sc (.pointer none)))]⟩:=rfl
theorem T199:T 199=some ⟨.sc,1,8, [(.d (.sc .nilFunc))]⟩:=rfl
theorem T200:T 200=some ⟨.sc,1,8, [(.d (.sc .nilFunc))]⟩:=rfl
theorem T201:T 201=some ⟨.sc,1,8, [(.d (.sc .nilFunc))]⟩:=rfl
theorem T202:T 202=some ⟨.sc,1,8, [(.d (.sc .nilFunc))]⟩:=rfl
theorem T203:T 203=some ⟨.sc,1,8, [(.d (.sc .nilFunc))]⟩:=rfl
theorem T204:T 204=some ⟨.sc,1,8, [(.d (.sc .nilFunc))]⟩:=rfl
theorem T205:T 205=some ⟨.sc,1,8, [(.d (.sc .nilFunc))]⟩:=rfl
theorem T206:T 206=some ⟨.sc,1,8, [(.d (.sc .nilFunc))]⟩:=rfl
theorem T207:T 207=some ⟨.sc,1,8, [(.d (.sc .nilFunc))]⟩:=rfl
theorem T208:T 208=some ⟨.sc,1,8, [(.d (.sc .nilFunc))]⟩:=rfl
theorem T209:T 209=some ⟨.sc,1,8, [(.d (.sc .nilFunc))]⟩:=rfl
theorem T215:T 215=some ⟨.sc,1,8, [(.d (.sc .nilFunc))]⟩:=rfl
theorem T219:T 219=some ⟨(.pt 5),1,8, [(.d (.sc (.pointer none)))]⟩:=rfl
def x9:Nat→Option Nat
 |58=>some 2
 |96=>some 3
 |_=>none
theorem eqn58:x9 58=some 2:=rfl
theorem eqn96:x9 96=some 3:=rfl
theorem N5:ag Tryz.prog 1 ⟨.sc,1,8, [(.d (.sc .nilFunc))]⟩:=ag.mk' (by kernel_rfl) (by kernel_rfl) rfl ⟨_,Tryz.underlying1,trivial⟩
theorem N6:ag Tryz.prog 2 ⟨(.int .i64),1,8, [(.d (.sc (.int .i64 0)))]⟩:=ag.mk' (by kernel_rfl) (by kernel_rfl) rfl Tryz.underlying2
theorem N7:ag Tryz.prog 3 ⟨(.int .i64),1,8, [(.d (.sc (.int .i64 0)))]⟩:=ag.mk' (by kernel_rfl) (by kernel_rfl) rfl Tryz.underlying3
theorem N8:ag Tryz.prog 4 ⟨.bool,1,1, [(.d (.sc (.bool false)))]⟩:=ag.mk' (by kernel_rfl) (by kernel_rfl) rfl Tryz.underlying4
theorem N9:ag Tryz.prog 5 ⟨(.int .u8),1,1, [(.d (.sc (.int .u8 0)))]⟩:=ag.mk' (by kernel_rfl) (by kernel_rfl) rfl Tryz.underlying5
theorem Oa:ag Tryz.prog 9 ⟨.sc,1,16, [(.d (.sc (.string ⟨#[]⟩)))]⟩:=ag.mk' (by kernel_rfl) (by kernel_rfl) rfl ⟨_,Tryz.underlying9,trivial⟩
theorem Kz:ag Tryz.prog 12 ⟨(.int .u64),1,8, [(.d (.sc (.int .u64 0)))]⟩:=ag.mk' (by kernel_rfl) (by kernel_rfl) rfl Tryz.underlying12
theorem KA:ag Tryz.prog 21 ⟨(.int .i32),1,4, [(.d (.sc (.int .i32 0)))]⟩:=ag.mk' (by kernel_rfl) (by kernel_rfl) rfl Tryz.underlying21
theorem KB:ag Tryz.prog 22 ⟨(.sl 58),1,24, [(.nil 58)]⟩:=ag.mk' (by kernel_rfl) (by kernel_rfl) rfl Tryz.underlying22
theorem KC:ag Tryz.prog 24 ⟨(.st [(0,3),(1,22)]),2,32, [(.d (.sc (.int .i64 0))),(.nil 58)]⟩:=ag.mk' (by kernel_rfl) (by kernel_rfl) rfl ⟨_,Tryz.underlying24,rfl⟩
theorem KE:ag Tryz.prog 25 ⟨(.sl 3),1,24, [(.nil 3)]⟩:=ag.mk' (by kernel_rfl) (by kernel_rfl) rfl Tryz.underlying25
theorem KF:ag Tryz.prog 26 ⟨(.sl 25),1,24, [(.nil 25)]⟩:=ag.mk' (by kernel_rfl) (by kernel_rfl) rfl Tryz.underlying26
theorem KG:ag Tryz.prog 28 ⟨(.st [(0,25),(1,26)]),2,48, [(.nil 3),(.nil 25)]⟩:=ag.mk' (by kernel_rfl) (by kernel_rfl) rfl ⟨_,Tryz.underlying28,rfl⟩
theorem KH:ag Tryz.prog 29 ⟨.sc,1,8, [(.d (.sc .nilFunc))]⟩:=ag.mk' (by kernel_rfl) (by kernel_rfl) rfl ⟨_,Tryz.underlying29,trivial⟩
theorem KI:ag Tryz.prog 30 ⟨.sc,1,8, [(.d (.sc .nilFunc))]⟩:=ag.mk' (by kernel_rfl) (by kernel_rfl) rfl ⟨_,Tryz.underlying30,trivial⟩
theorem KJ:ag Tryz.prog 32 ⟨(.st [(0,25),(1,25),(2,25),(3,25)]),4,96, [(.nil 3),(.nil 3),(.nil 3),(.nil 3)]⟩:=ag.mk' (by kernel_rfl) (by kernel_rfl) rfl ⟨_,Tryz.underlying32,rfl⟩
theorem KK:ag Tryz.prog 33 ⟨(.int .i64),1,8, [(.d (.sc (.int .i64 0)))]⟩:=ag.mk' (by kernel_rfl) (by kernel_rfl) rfl Tryz.underlying33
theorem KL:ag Tryz.prog 35 ⟨.sc,1,8, [(.d (.sc .nilFunc))]⟩:=ag.mk' (by kernel_rfl) (by kernel_rfl) rfl ⟨_,Tryz.underlying35,trivial⟩
theorem KM:ag Tryz.prog 36 ⟨.sc,1,8, [(.d (.sc .nilFunc))]⟩:=ag.mk' (by kernel_rfl) (by kernel_rfl) rfl ⟨_,Tryz.underlying36,trivial⟩
theorem KN:ag Tryz.prog 37 ⟨(.st [(0,25),(1,25),(2,25),(3,25)]),4,96, [(.nil 3),(.nil 3),(.nil 3),(.nil 3)]⟩:=ag.mk' (by kernel_rfl) (by kernel_rfl) rfl ⟨_,Tryz.underlying37,rfl⟩
theorem KO:ag Tryz.prog 39 ⟨.sc,1,8, [(.d (.sc .nilFunc))]⟩:=ag.mk' (by kernel_rfl) (by kernel_rfl) rfl ⟨_,Tryz.underlying39,trivial⟩
theorem KP:ag Tryz.prog 40 ⟨.sc,1,8, [(.d (.sc .nilFunc))]⟩:=ag.mk' (by kernel_rfl) (by kernel_rfl) rfl ⟨_,Tryz.underlying40,trivial⟩
theorem KQ:ag Tryz.prog 41 ⟨.sc,1,8, [(.d (.sc .nilFunc))]⟩:=ag.mk' (by kernel_rfl) (by kernel_rfl) rfl ⟨_,Tryz.underlying41,trivial⟩
theorem KR:ag Tryz.prog 42 ⟨.sc,1,8, [(.d (.sc .nilFunc))]⟩:=ag.mk' (by kernel_rfl) (by kernel_rfl) rfl ⟨_,Tryz.underlying42,trivial⟩
theorem KS:ag Tryz.prog 43 ⟨.sc,1,8, [(.d (.sc .nilFunc))]⟩:=ag.mk' (by kernel_rfl) (by kernel_rfl) rfl ⟨_,Tryz.underlying43,trivial⟩
theorem KT:ag Tryz.prog 44 ⟨.sc,1,8, [(.d (.sc .nilFunc))]⟩:=ag.mk' (by kernel_rfl) (by kernel_rfl) rfl ⟨_,Tryz.underlying44,trivial⟩
theorem KU:ag Tryz.prog 45 ⟨(.pt 100),1,8, [(.d (.sc (.pointer none)))]⟩:=ag.mk' (by kernel_rfl) (by kernel_rfl) rfl Tryz.underlying45
theorem KW:ag Tryz.prog 46 ⟨.sc,1,8, [(.d (.sc .nilFunc))]⟩:=ag.mk' (by kernel_rfl) (by kernel_rfl) rfl ⟨_,Tryz.underlying46,trivial⟩
theorem KX:ag Tryz.prog 48 ⟨.sc,1,8, [(.d (.sc .nilFunc))]⟩:=ag.mk' (by kernel_rfl) (by kernel_rfl) rfl ⟨_,Tryz.underlying48,trivial⟩
theorem KY:ag Tryz.prog 49 ⟨.sc,1,8, [(.d (.sc .nilFunc))]⟩:=ag.mk' (by kernel_rfl) (by kernel_rfl) rfl ⟨_,Tryz.underlying49,trivial⟩
theorem KZ:ag Tryz.prog 50 ⟨(.sl 25),1,24, [(.nil 25)]⟩:=ag.mk' (by kernel_rfl) (by kernel_rfl) rfl Tryz.underlying50
theorem K0:ag Tryz.prog 52 ⟨.sc,1,8, [(.d (.sc .nilFunc))]⟩:=ag.mk' (by kernel_rfl) (by kernel_rfl) rfl ⟨_,Tryz.underlying52,trivial⟩
theorem K1:ag Tryz.prog 53 ⟨.sc,1,8, [(.d (.sc .nilFunc))]⟩:=ag.mk' (by kernel_rfl) (by kernel_rfl) rfl ⟨_,Tryz.underlying53,trivial⟩
theorem K2:ag Tryz.prog 54 ⟨.sc,1,8, [(.d (.sc .nilFunc))]⟩:=ag.mk' (by kernel_rfl) (by kernel_rfl) rfl ⟨_,Tryz.underlying54,trivial⟩
theorem K3:ag Tryz.prog 55 ⟨(.sl 60),1,24, [(.nil 60)]⟩:=ag.mk' (by kernel_rfl) (by kernel_rfl) rfl Tryz.underlying55
theorem K4:ag Tryz.prog 56 ⟨.sc,1,8, [(.d (.sc .nilFunc))]⟩:=ag.mk' (by kernel_rfl) (by kernel_rfl) rfl ⟨_,Tryz.underlying56,trivial⟩
theorem K5:ag Tryz.prog 58 ⟨(.st [(0,3),(1,3)]),2,16, [(.d (.sc (.int .i64 0))),(.d (.sc (.int .i64 0)))]⟩:=ag.mk' (by kernel_rfl) (by kernel_rfl) rfl ⟨_,Tryz.underlying58,rfl⟩
theorem K6:ag Tryz.prog 59 ⟨(.int .u64),1,8, [(.d (.sc (.int .u64 0)))]⟩:=ag.mk' (by kernel_rfl) (by kernel_rfl) rfl Tryz.underlying59
theorem K7:ag Tryz.prog 60 ⟨(.int .u64),1,8, [(.d (.sc (.int .u64 0)))]⟩:=ag.mk' (by kernel_rfl) (by kernel_rfl) rfl Tryz.underlying60
theorem K8:ag Tryz.prog 61 ⟨.sc,1,8, [(.d (.sc .nilFunc))]⟩:=ag.mk' (by kernel_rfl) (by kernel_rfl) rfl ⟨_,Tryz.underlying61,trivial⟩
theorem K9:ag Tryz.prog 62 ⟨(.ar 4 4),4,4, [(.d (.sc (.bool false))),(.d (.sc (.bool false))),(.d (.sc (.bool false))),(.d (.sc (.bool false)))]⟩:=ag.mk' (by kernel_rfl) (by kernel_rfl) rfl Tryz.underlying62
theorem La:ag Tryz.prog 64 ⟨(.st [(0,25),(1,25),(2,25),(3,25)]),4,96, [(.nil 3),(.nil 3),(.nil 3),(.nil 3)]⟩:=ag.mk' (by kernel_rfl) (by kernel_rfl) rfl ⟨_,Tryz.underlying64,rfl⟩
theorem Lb:ag Tryz.prog 66 ⟨.sc,1,8, [(.d (.sc .nilFunc))]⟩:=ag.mk' (by kernel_rfl) (by kernel_rfl) rfl ⟨_,Tryz.underlying66,trivial⟩
theorem Lc:ag Tryz.prog 67 ⟨(.st [(0,25),(1,25),(2,25),(3,25)]),4,96, [(.nil 3),(.nil 3),(.nil 3),(.nil 3)]⟩:=ag.mk' (by kernel_rfl) (by kernel_rfl) rfl ⟨_,Tryz.underlying67,rfl⟩
theorem Ld:ag Tryz.prog 69 ⟨.sc,1,8, [(.d (.sc .nilFunc))]⟩:=ag.mk' (by kernel_rfl) (by kernel_rfl) rfl ⟨_,Tryz.underlying69,trivial⟩
theorem Lg:ag Tryz.prog 71 ⟨.sc,1,8, [(.d (.sc .nilFunc))]⟩:=ag.mk' (by kernel_rfl) (by kernel_rfl) rfl ⟨_,Tryz.underlying71,trivial⟩
theorem Lh:ag Tryz.prog 72 ⟨.sc,1,8, [(.d (.sc .nilFunc))]⟩:=ag.mk' (by kernel_rfl) (by kernel_rfl) rfl ⟨_,Tryz.underlying72,trivial⟩
theorem Li:ag Tryz.prog 73 ⟨.sc,1,8, [(.d (.sc .nilFunc))]⟩:=ag.mk' (by kernel_rfl) (by kernel_rfl) rfl ⟨_,Tryz.underlying73,trivial⟩
theorem Lj:ag Tryz.prog 75 ⟨.sc,1,8, [(.d (.sc .nilFunc))]⟩:=ag.mk' (by kernel_rfl) (by kernel_rfl) rfl ⟨_,Tryz.underlying75,trivial⟩
theorem Lk:ag Tryz.prog 76 ⟨.sc,1,8, [(.d (.sc .nilFunc))]⟩:=ag.mk' (by kernel_rfl) (by kernel_rfl) rfl ⟨_,Tryz.underlying76,trivial⟩
theorem Ll:ag Tryz.prog 77 ⟨.sc,1,8, [(.d (.sc .nilFunc))]⟩:=ag.mk' (by kernel_rfl) (by kernel_rfl) rfl ⟨_,Tryz.underlying77,trivial⟩
theorem Lm:ag Tryz.prog 78 ⟨.sc,1,8, [(.d (.sc .nilFunc))]⟩:=ag.mk' (by kernel_rfl) (by kernel_rfl) rfl ⟨_,Tryz.underlying78,trivial⟩
theorem Ln:ag Tryz.prog 79 ⟨(.sl 80),1,24, [(.nil 80)]⟩:=ag.mk' (by kernel_rfl) (by kernel_rfl) rfl Tryz.underlying79
theorem Lo:ag Tryz.prog 80 ⟨(.sl 96),1,24, [(.nil 96)]⟩:=ag.mk' (by kernel_rfl) (by kernel_rfl) rfl Tryz.underlying80
theorem Lq:ag Tryz.prog 82 ⟨(.st [(0,33),(1,3),(2,25)]),3,40, [(.d (.sc (.int .i64 0))),(.d (.sc (.int .i64 0))),(.nil 3)]⟩:=ag.mk' (by kernel_rfl) (by kernel_rfl) rfl ⟨_,Tryz.underlying82,rfl⟩
theorem Lr:ag Tryz.prog 84 ⟨.sc,1,8, [(.d (.sc .nilFunc))]⟩:=ag.mk' (by kernel_rfl) (by kernel_rfl) rfl ⟨_,Tryz.underlying84,trivial⟩
theorem Ls:ag Tryz.prog 85 ⟨.sc,1,8, [(.d (.sc .nilFunc))]⟩:=ag.mk' (by kernel_rfl) (by kernel_rfl) rfl ⟨_,Tryz.underlying85,trivial⟩
theorem Lt:ag Tryz.prog 86 ⟨.sc,1,8, [(.d (.sc .nilFunc))]⟩:=ag.mk' (by kernel_rfl) (by kernel_rfl) rfl ⟨_,Tryz.underlying86,trivial⟩
theorem Lu:ag Tryz.prog 87 ⟨.sc,1,8, [(.d (.sc .nilFunc))]⟩:=ag.mk' (by kernel_rfl) (by kernel_rfl) rfl ⟨_,Tryz.underlying87,trivial⟩
theorem Lv:ag Tryz.prog 88 ⟨(.pt 90),1,8, [(.d (.sc (.pointer none)))]⟩:=ag.mk' (by kernel_rfl) (by kernel_rfl) rfl Tryz.underlying88
theorem Lw:ag Tryz.prog 90 ⟨(.st [(0,25),(1,25),(2,32)]),6,144, [(.nil 3),(.nil 3),(.nil 3),(.nil 3),(.nil 3),(.nil 3)]⟩:=ag.mk' (by kernel_rfl) (by kernel_rfl) rfl ⟨_,Tryz.underlying90,rfl⟩
theorem Lx:ag Tryz.prog 91 ⟨.sc,1,8, [(.d (.sc .nilFunc))]⟩:=ag.mk' (by kernel_rfl) (by kernel_rfl) rfl ⟨_,Tryz.underlying91,trivial⟩
theorem Lz:ag Tryz.prog 92 ⟨.sc,1,8, [(.d (.sc .nilFunc))]⟩:=ag.mk' (by kernel_rfl) (by kernel_rfl) rfl ⟨_,Tryz.underlying92,trivial⟩
theorem LB:ag Tryz.prog 93 ⟨.sc,1,8, [(.d (.sc .nilFunc))]⟩:=ag.mk' (by kernel_rfl) (by kernel_rfl) rfl ⟨_,Tryz.underlying93,trivial⟩
theorem LC:ag Tryz.prog 94 ⟨.sc,1,8, [(.d (.sc .nilFunc))]⟩:=ag.mk' (by kernel_rfl) (by kernel_rfl) rfl ⟨_,Tryz.underlying94,trivial⟩
theorem LD:ag Tryz.prog 96 ⟨(.st [(0,3),(1,3),(2,3)]),3,24, [(.d (.sc (.int .i64 0))),(.d (.sc (.int .i64 0))),(.d (.sc (.int .i64 0)))]⟩:=ag.mk' (by kernel_rfl) (by kernel_rfl) rfl ⟨_,Tryz.underlying96,rfl⟩
theorem LF:ag Tryz.prog 97 ⟨.sc,1,8, [(.d (.sc .nilFunc))]⟩:=ag.mk' (by kernel_rfl) (by kernel_rfl) rfl ⟨_,Tryz.underlying97,trivial⟩
theorem LG:ag Tryz.prog 98 ⟨.sc,1,8, [(.d (.sc .nilFunc))]⟩:=ag.mk' (by kernel_rfl) (by kernel_rfl) rfl ⟨_,Tryz.underlying98,trivial⟩
theorem GX:ag Tryz.prog 100 ⟨(.st [(0,24),(2,26),(3,26)]),4,80, [(.d (.sc (.int .i64 0))),(.nil 58),(.nil 25),(.nil 25)]⟩:=ag.mk' (by kernel_rfl) (by kernel_rfl) rfl ⟨_,Tryz.underlying100,rfl⟩
theorem GY:ag Tryz.prog 101 ⟨.sc,1,8, [(.d (.sc .nilFunc))]⟩:=ag.mk' (by kernel_rfl) (by kernel_rfl) rfl ⟨_,Tryz.underlying101,trivial⟩
theorem GZ:ag Tryz.prog 103 ⟨.sc,1,8, [(.d (.sc .nilFunc))]⟩:=ag.mk' (by kernel_rfl) (by kernel_rfl) rfl ⟨_,Tryz.underlying103,trivial⟩
theorem G0:ag Tryz.prog 104 ⟨.sc,1,8, [(.d (.sc .nilFunc))]⟩:=ag.mk' (by kernel_rfl) (by kernel_rfl) rfl ⟨_,Tryz.underlying104,trivial⟩
theorem G3:ag Tryz.prog 105 ⟨.sc,1,8, [(.d (.sc .nilFunc))]⟩:=ag.mk' (by kernel_rfl) (by kernel_rfl) rfl ⟨_,Tryz.underlying105,trivial⟩
theorem G4:ag Tryz.prog 106 ⟨.sc,1,8, [(.d (.sc .nilFunc))]⟩:=ag.mk' (by kernel_rfl) (by kernel_rfl) rfl ⟨_,Tryz.underlying106,trivial⟩
theorem G5:ag Tryz.prog 107 ⟨.sc,1,8, [(.d (.sc .nilFunc))]⟩:=ag.mk' (by kernel_rfl) (by kernel_rfl) rfl ⟨_,Tryz.underlying107,trivial⟩
theorem G6:ag Tryz.prog 108 ⟨.sc,1,8, [(.d (.sc .nilFunc))]⟩:=ag.mk' (by kernel_rfl) (by kernel_rfl) rfl ⟨_,Tryz.underlying108,trivial⟩
theorem G7:ag Tryz.prog 109 ⟨.sc,1,8, [(.d (.sc .nilFunc))]⟩:=ag.mk' (by kernel_rfl) (by kernel_rfl) rfl ⟨_,Tryz.underlying109,trivial⟩
theorem G8:ag Tryz.prog 110 ⟨.sc,1,8, [(.d (.sc .nilFunc))]⟩:=ag.mk' (by kernel_rfl) (by kernel_rfl) rfl ⟨_,Tryz.underlying110,trivial⟩
theorem G9:ag Tryz.prog 112 ⟨.sc,1,8, [(.d (.sc .nilFunc))]⟩:=ag.mk' (by kernel_rfl) (by kernel_rfl) rfl ⟨_,Tryz.underlying112,trivial⟩
theorem He:ag Tryz.prog 113 ⟨.sc,1,8, [(.d (.sc .nilFunc))]⟩:=ag.mk' (by kernel_rfl) (by kernel_rfl) rfl ⟨_,Tryz.underlying113,trivial⟩
theorem Hf:ag Tryz.prog 114 ⟨.sc,1,8, [(.d (.sc .nilFunc))]⟩:=ag.mk' (by kernel_rfl) (by kernel_rfl) rfl ⟨_,Tryz.underlying114,trivial⟩
theorem Hg:ag Tryz.prog 115 ⟨.sc,1,8, [(.d (.sc .nilFunc))]⟩:=ag.mk' (by kernel_rfl) (by kernel_rfl) rfl ⟨_,Tryz.underlying115,trivial⟩
theorem Hh:ag Tryz.prog 116 ⟨.sc,1,8, [(.d (.sc .nilFunc))]⟩:=ag.mk' (by kernel_rfl) (by kernel_rfl) rfl ⟨_,Tryz.underlying116,trivial⟩
theorem Hj:ag Tryz.prog 117 ⟨.sc,1,8, [(.d (.sc .nilFunc))]⟩:=ag.mk' (by kernel_rfl) (by kernel_rfl) rfl ⟨_,Tryz.underlying117,trivial⟩
theorem Hl:ag Tryz.prog 118 ⟨.sc,1,8, [(.d (.sc .nilFunc))]⟩:=ag.mk' (by kernel_rfl) (by kernel_rfl) rfl ⟨_,Tryz.underlying118,trivial⟩
theorem Ho:ag Tryz.prog 119 ⟨.sc,1,8, [(.d (.sc .nilFunc))]⟩:=ag.mk' (by kernel_rfl) (by kernel_rfl) rfl ⟨_,Tryz.underlying119,trivial⟩
theorem Hp:ag Tryz.prog 120 ⟨.sc,1,8, [(.d (.sc .nilFunc))]⟩:=ag.mk' (by kernel_rfl) (by kernel_rfl) rfl ⟨_,Tryz.underlying120,trivial⟩
theorem Hq:ag Tryz.prog 121 ⟨.sc,1,8, [(.d (.sc .nilFunc))]⟩:=ag.mk' (by kernel_rfl) (by kernel_rfl) rfl ⟨_,Tryz.underlying121,trivial⟩
theorem Hr:ag Tryz.prog 122 ⟨(.sl 4),1,24, [(.nil 4)]⟩:=ag.mk' (by kernel_rfl) (by kernel_rfl) rfl Tryz.underlying122
theorem Hs:ag Tryz.prog 123 ⟨(.pt 133),1,8, [(.d (.sc (.pointer none)))]⟩:=ag.mk' (by kernel_rfl) (by kernel_rfl) rfl Tryz.underlying123
theorem Ht:ag Tryz.prog 125 ⟨.sc,1,8, [(.d (.sc .nilFunc))]⟩:=ag.mk' (by kernel_rfl) (by kernel_rfl) rfl ⟨_,Tryz.underlying125,trivial⟩
theorem Hu:ag Tryz.prog 126 ⟨.sc,1,8, [(.d (.sc .nilFunc))]⟩:=ag.mk' (by kernel_rfl) (by kernel_rfl) rfl ⟨_,Tryz.underlying126,trivial⟩
theorem Hv:ag Tryz.prog 128 ⟨.sc,1,8, [(.d (.sc .nilFunc))]⟩:=ag.mk' (by kernel_rfl) (by kernel_rfl) rfl ⟨_,Tryz.underlying128,trivial⟩
theorem Hw:ag Tryz.prog 129 ⟨.sc,1,8, [(.d (.sc .nilFunc))]⟩:=ag.mk' (by kernel_rfl) (by kernel_rfl) rfl ⟨_,Tryz.underlying129,trivial⟩
theorem Hx:ag Tryz.prog 131 ⟨(.st [(0,80)]),1,24, [(.nil 96)]⟩:=ag.mk' (by kernel_rfl) (by kernel_rfl) rfl ⟨_,Tryz.underlying131,rfl⟩
theorem Hy:ag Tryz.prog 133 ⟨(.st [(0,131),(1,45),(2,25)]),3,56, [(.nil 96),(.d (.sc (.pointer none))),(.nil 3)]⟩:=ag.mk' (by kernel_rfl) (by kernel_rfl) rfl ⟨_,Tryz.underlying133,rfl⟩
theorem Hz:ag Tryz.prog 135 ⟨.sc,1,8, [(.d (.sc .nilFunc))]⟩:=ag.mk' (by kernel_rfl) (by kernel_rfl) rfl ⟨_,Tryz.underlying135,trivial⟩
theorem HA:ag Tryz.prog 136 ⟨.sc,1,8, [(.d (.sc .nilFunc))]⟩:=ag.mk' (by kernel_rfl) (by kernel_rfl) rfl ⟨_,Tryz.underlying136,trivial⟩
theorem HB:ag Tryz.prog 137 ⟨.sc,1,8, [(.d (.sc .nilFunc))]⟩:=ag.mk' (by kernel_rfl) (by kernel_rfl) rfl ⟨_,Tryz.underlying137,trivial⟩
theorem HC:ag Tryz.prog 138 ⟨.sc,1,8, [(.d (.sc .nilFunc))]⟩:=ag.mk' (by kernel_rfl) (by kernel_rfl) rfl ⟨_,Tryz.underlying138,trivial⟩
theorem HD:ag Tryz.prog 139 ⟨.sc,1,8, [(.d (.sc .nilFunc))]⟩:=ag.mk' (by kernel_rfl) (by kernel_rfl) rfl ⟨_,Tryz.underlying139,trivial⟩
theorem HE:ag Tryz.prog 140 ⟨.sc,1,8, [(.d (.sc .nilFunc))]⟩:=ag.mk' (by kernel_rfl) (by kernel_rfl) rfl ⟨_,Tryz.underlying140,trivial⟩
theorem HF:ag Tryz.prog 141 ⟨.sc,1,8, [(.d (.sc .nilFunc))]⟩:=ag.mk' (by kernel_rfl) (by kernel_rfl) rfl ⟨_,Tryz.underlying141,trivial⟩
theorem HG:ag Tryz.prog 143 ⟨.sc,1,8, [(.d (.sc .nilFunc))]⟩:=ag.mk' (by kernel_rfl) (by kernel_rfl) rfl ⟨_,Tryz.underlying143,trivial⟩
theorem HH:ag Tryz.prog 145 ⟨.sc,1,8, [(.d (.sc .nilFunc))]⟩:=ag.mk' (by kernel_rfl) (by kernel_rfl) rfl ⟨_,Tryz.underlying145,trivial⟩
theorem HJ:ag Tryz.prog 146 ⟨.sc,1,8, [(.d (.sc .nilFunc))]⟩:=ag.mk' (by kernel_rfl) (by kernel_rfl) rfl ⟨_,Tryz.underlying146,trivial⟩
theorem HK:ag Tryz.prog 147 ⟨.sc,1,8, [(.d (.sc .nilFunc))]⟩:=ag.mk' (by kernel_rfl) (by kernel_rfl) rfl ⟨_,Tryz.underlying147,trivial⟩
theorem HL:ag Tryz.prog 148 ⟨.sc,1,8, [(.d (.sc .nilFunc))]⟩:=ag.mk' (by kernel_rfl) (by kernel_rfl) rfl ⟨_,Tryz.underlying148,trivial⟩
theorem HM:ag Tryz.prog 149 ⟨.sc,1,8, [(.d (.sc .nilFunc))]⟩:=ag.mk' (by kernel_rfl) (by kernel_rfl) rfl ⟨_,Tryz.underlying149,trivial⟩
theorem HN:ag Tryz.prog 150 ⟨.sc,1,8, [(.d (.sc .nilFunc))]⟩:=ag.mk' (by kernel_rfl) (by kernel_rfl) rfl ⟨_,Tryz.underlying150,trivial⟩
theorem HO:ag Tryz.prog 151 ⟨.sc,1,8, [(.d (.sc .nilFunc))]⟩:=ag.mk' (by kernel_rfl) (by kernel_rfl) rfl ⟨_,Tryz.underlying151,trivial⟩
theorem HP:ag Tryz.prog 152 ⟨(.int .u64),1,8, [(.d (.sc (.int .u64 0)))]⟩:=ag.mk' (by kernel_rfl) (by kernel_rfl) rfl Tryz.underlying152
theorem HQ:ag Tryz.prog 153 ⟨.sc,1,8, [(.d (.sc .nilFunc))]⟩:=ag.mk' (by kernel_rfl) (by kernel_rfl) rfl ⟨_,Tryz.underlying153,trivial⟩
theorem HR:ag Tryz.prog 154 ⟨.sc,1,8, [(.d (.sc .nilFunc))]⟩:=ag.mk' (by kernel_rfl) (by kernel_rfl) rfl ⟨_,Tryz.underlying154,trivial⟩
theorem HS:ag Tryz.prog 155 ⟨.sc,1,8, [(.d (.sc .nilFunc))]⟩:=ag.mk' (by kernel_rfl) (by kernel_rfl) rfl ⟨_,Tryz.underlying155,trivial⟩
theorem HT:ag Tryz.prog 156 ⟨.sc,1,8, [(.d (.sc .nilFunc))]⟩:=ag.mk' (by kernel_rfl) (by kernel_rfl) rfl ⟨_,Tryz.underlying156,trivial⟩
theorem HU:ag Tryz.prog 158 ⟨.sc,1,8, [(.d (.sc .nilFunc))]⟩:=ag.mk' (by kernel_rfl) (by kernel_rfl) rfl ⟨_,Tryz.underlying158,trivial⟩
theorem HV:ag Tryz.prog 159 ⟨.sc,1,8, [(.d (.sc .nilFunc))]⟩:=ag.mk' (by kernel_rfl) (by kernel_rfl) rfl ⟨_,Tryz.underlying159,trivial⟩
theorem HW:ag Tryz.prog 160 ⟨.sc,1,8, [(.d (.sc .nilFunc))]⟩:=ag.mk' (by kernel_rfl) (by kernel_rfl) rfl ⟨_,Tryz.underlying160,trivial⟩
theorem HX:ag Tryz.prog 161 ⟨(.pt 131),1,8, [(.d (.sc (.pointer none)))]⟩:=ag.mk' (by kernel_rfl) (by kernel_rfl) rfl Tryz.underlying161
theorem HY:ag Tryz.prog 162 ⟨.sc,1,8, [(.d (.sc .nilFunc))]⟩:=ag.mk' (by kernel_rfl) (by kernel_rfl) rfl ⟨_,Tryz.underlying162,trivial⟩
theorem HZ:ag Tryz.prog 163 ⟨(.pt 165),1,8, [(.d (.sc (.pointer none)))]⟩:=ag.mk' (by kernel_rfl) (by kernel_rfl) rfl Tryz.underlying163
theorem H6:ag Tryz.prog 165 ⟨(.st [(0,24),(2,80),(3,25)]),4,80, [(.d (.sc (.int .i64 0))),(.nil 58),(.nil 96),(.nil 3)]⟩:=ag.mk' (by kernel_rfl) (by kernel_rfl) rfl ⟨_,Tryz.underlying165,rfl⟩
theorem H7:ag Tryz.prog 167 ⟨.sc,1,8, [(.d (.sc .nilFunc))]⟩:=ag.mk' (by kernel_rfl) (by kernel_rfl) rfl ⟨_,Tryz.underlying167,trivial⟩
theorem H8:ag Tryz.prog 168 ⟨.sc,1,8, [(.d (.sc .nilFunc))]⟩:=ag.mk' (by kernel_rfl) (by kernel_rfl) rfl ⟨_,Tryz.underlying168,trivial⟩
theorem H9:ag Tryz.prog 169 ⟨.sc,1,8, [(.d (.sc .nilFunc))]⟩:=ag.mk' (by kernel_rfl) (by kernel_rfl) rfl ⟨_,Tryz.underlying169,trivial⟩
theorem Ia:ag Tryz.prog 170 ⟨.sc,1,8, [(.d (.sc .nilFunc))]⟩:=ag.mk' (by kernel_rfl) (by kernel_rfl) rfl ⟨_,Tryz.underlying170,trivial⟩
theorem Ib:ag Tryz.prog 171 ⟨.sc,1,8, [(.d (.sc .nilFunc))]⟩:=ag.mk' (by kernel_rfl) (by kernel_rfl) rfl ⟨_,Tryz.underlying171,trivial⟩
theorem Ic:ag Tryz.prog 172 ⟨.sc,1,8, [(.d (.sc .nilFunc))]⟩:=ag.mk' (by kernel_rfl) (by kernel_rfl) rfl ⟨_,Tryz.underlying172,trivial⟩
theorem Ie:ag Tryz.prog 173 ⟨(.int .i64),1,8, [(.d (.sc (.int .i64 0)))]⟩:=ag.mk' (by kernel_rfl) (by kernel_rfl) rfl Tryz.underlying173
theorem Ig:ag Tryz.prog 175 ⟨.sc,1,8, [(.d (.sc .nilFunc))]⟩:=ag.mk' (by kernel_rfl) (by kernel_rfl) rfl ⟨_,Tryz.underlying175,trivial⟩
theorem Ih:ag Tryz.prog 176 ⟨.sc,1,8, [(.d (.sc .nilFunc))]⟩:=ag.mk' (by kernel_rfl) (by kernel_rfl) rfl ⟨_,Tryz.underlying176,trivial⟩
theorem Ii:ag Tryz.prog 177 ⟨.sc,1,8, [(.d (.sc .nilFunc))]⟩:=ag.mk' (by kernel_rfl) (by kernel_rfl) rfl ⟨_,Tryz.underlying177,trivial⟩
theorem Ij:ag Tryz.prog 179 ⟨.sc,1,8, [(.d (.sc .nilFunc))]⟩:=ag.mk' (by kernel_rfl) (by kernel_rfl) rfl ⟨_,Tryz.underlying179,trivial⟩
theorem Ik:ag Tryz.prog 180 ⟨.sc,1,8, [(.d (.sc .nilFunc))]⟩:=ag.mk' (by kernel_rfl) (by kernel_rfl) rfl ⟨_,Tryz.underlying180,trivial⟩
theorem Il:ag Tryz.prog 181 ⟨(.int .u32),1,4, [(.d (.sc (.int .u32 0)))]⟩:=ag.mk' (by kernel_rfl) (by kernel_rfl) rfl Tryz.underlying181
theorem Im:ag Tryz.prog 182 ⟨.sc,1,8, [(.d (.sc .nilFunc))]⟩:=ag.mk' (by kernel_rfl) (by kernel_rfl) rfl ⟨_,Tryz.underlying182,trivial⟩
theorem Io:ag Tryz.prog 183 ⟨.sc,1,8, [(.d (.sc .nilFunc))]⟩:=ag.mk' (by kernel_rfl) (by kernel_rfl) rfl ⟨_,Tryz.underlying183,trivial⟩
theorem Ip:ag Tryz.prog 184 ⟨.sc,1,8, [(.d (.sc .nilFunc))]⟩:=ag.mk' (by kernel_rfl) (by kernel_rfl) rfl ⟨_,Tryz.underlying184,trivial⟩
theorem Iq:ag Tryz.prog 185 ⟨.sc,1,8, [(.d (.sc .nilFunc))]⟩:=ag.mk' (by kernel_rfl) (by kernel_rfl) rfl ⟨_,Tryz.underlying185,trivial⟩
theorem Ir:ag Tryz.prog 186 ⟨(.int .u64),1,8, [(.d (.sc (.int .u64 0)))]⟩:=ag.mk' (by kernel_rfl) (by kernel_rfl) rfl Tryz.underlying186
theorem Is:ag Tryz.prog 187 ⟨.sc,1,8, [(.d (.sc .nilFunc))]⟩:=ag.mk' (by kernel_rfl) (by kernel_rfl) rfl ⟨_,Tryz.underlying187,trivial⟩
theorem Iu:ag Tryz.prog 188 ⟨.sc,1,8, [(.d (.sc .nilFunc))]⟩:=ag.mk' (by kernel_rfl) (by kernel_rfl) rfl ⟨_,Tryz.underlying188,trivial⟩
theorem Iv:ag Tryz.prog 189 ⟨.sc,1,8, [(.d (.sc .nilFunc))]⟩:=ag.mk' (by kernel_rfl) (by kernel_rfl) rfl ⟨_,Tryz.underlying189,trivial⟩
theorem Iw:ag Tryz.prog 190 ⟨(.pt 3),1,8, [(.d (.sc (.pointer none)))]⟩:=ag.mk' (by kernel_rfl) (by kernel_rfl) rfl Tryz.underlying190
theorem Iy:ag Tryz.prog 191 ⟨.sc,1,8, [(.d (.sc .nilFunc))]⟩:=ag.mk' (by kernel_rfl) (by kernel_rfl) rfl ⟨_,Tryz.underlying191,trivial⟩
theorem Iz:ag Tryz.prog 192 ⟨.sc,1,8, [(.d (.sc .nilFunc))]⟩:=ag.mk' (by kernel_rfl) (by kernel_rfl) rfl ⟨_,Tryz.underlying192,trivial⟩
theorem IA:ag Tryz.prog 193 ⟨.sc,1,8, [(.d (.sc .nilFunc))]⟩:=ag.mk' (by kernel_rfl) (by kernel_rfl) rfl ⟨_,Tryz.underlying193,trivial⟩
theorem IB:ag Tryz.prog 194 ⟨.sc,1,8, [(.d (.sc .nilFunc))]⟩:=ag.mk' (by kernel_rfl) (by kernel_rfl) rfl ⟨_,Tryz.underlying194,trivial⟩
theorem IC:ag Tryz.prog 195 ⟨.sc,1,8, [(.d (.sc .nilFunc))]⟩:=ag.mk' (by kernel_rfl) (by kernel_rfl) rfl ⟨_,Tryz.underlying195,trivial⟩
theorem ID:ag Tryz.prog 196 ⟨.sc,1,8, [(.d (.sc .nilFunc))]⟩:=ag.mk' (by kernel_rfl) (by kernel_rfl) rfl ⟨_,Tryz.underlying196,trivial⟩
theorem IE:ag Tryz.prog 197 ⟨(.pt 186),1,8, [(.d (.sc (.pointer none)))]⟩:=ag.mk' (by kernel_rfl) (by kernel_rfl) rfl Tryz.underlying197
theorem IF:ag Tryz.prog 199 ⟨.sc,1,8, [(.d (.sc .nilFunc))]⟩:=ag.mk' (by kernel_rfl) (by kernel_rfl) rfl ⟨_,Tryz.underlying199,trivial⟩
theorem IG:ag Tryz.prog 200 ⟨.sc,1,8, [(.d (.sc .nilFunc))]⟩:=ag.mk' (by kernel_rfl) (by kernel_rfl) rfl ⟨_,Tryz.underlying200,trivial⟩
theorem II:ag Tryz.prog 201 ⟨.sc,1,8, [(.d (.sc .nilFunc))]⟩:=ag.mk' (by kernel_rfl) (by kernel_rfl) rfl ⟨_,Tryz.underlying201,trivial⟩
theorem IJ:ag Tryz.prog 202 ⟨.sc,1,8, [(.d (.sc .nilFunc))]⟩:=ag.mk' (by kernel_rfl) (by kernel_rfl) rfl ⟨_,Tryz.underlying202,trivial⟩
theorem IK:ag Tryz.prog 203 ⟨.sc,1,8, [(.d (.sc .nilFunc))]⟩:=ag.mk' (by kernel_rfl) (by kernel_rfl) rfl ⟨_,Tryz.underlying203,trivial⟩
theorem IL:ag Tryz.prog 204 ⟨.sc,1,8, [(.d (.sc .nilFunc))]⟩:=ag.mk' (by kernel_rfl) (by kernel_rfl) rfl ⟨_,Tryz.underlying204,trivial⟩
theorem IM:ag Tryz.prog 205 ⟨.sc,1,8, [(.d (.sc .nilFunc))]⟩:=ag.mk' (by kernel_rfl) (by kernel_rfl) rfl ⟨_,Tryz.underlying205,trivial⟩
theorem IN:ag Tryz.prog 206 ⟨.sc,1,8, [(.d (.sc .nilFunc))]⟩:=ag.mk' (by kernel_rfl) (by kernel_rfl) rfl ⟨_,Tryz.underlying206,trivial⟩
theorem IP:ag Tryz.prog 207 ⟨.sc,1,8, [(.d (.sc .nilFunc))]⟩:=ag.mk' (by kernel_rfl) (by kernel_rfl) rfl ⟨_,Tryz.underlying207,trivial⟩
theorem IQ:ag Tryz.prog 208 ⟨.sc,1,8, [(.d (.sc .nilFunc))]⟩:=ag.mk' (by kernel_rfl) (by kernel_rfl) rfl ⟨_,Tryz.underlying208,trivial⟩
theorem IS:ag Tryz.prog 209 ⟨.sc,1,8, [(.d (.sc .nilFunc))]⟩:=ag.mk' (by kernel_rfl) (by kernel_rfl) rfl ⟨_,Tryz.underlying209,trivial⟩
theorem IT:ag Tryz.prog 215 ⟨.sc,1,8, [(.d (.sc .nilFunc))]⟩:=ag.mk' (by kernel_rfl) (by kernel_rfl) rfl ⟨_,Tryz.underlying215,trivial⟩
theorem IU:ag Tryz.prog 219 ⟨(.pt 5),1,8, [(.d (.sc (.pointer none)))]⟩:=ag.mk' (by kernel_rfl) (by kernel_rfl) rfl Tryz.underlying219
theorem LH:mq Tryz.prog 58 2:=mq.two (by kernel_rfl) (by kernel_rfl) Tryz.underlying58 (by decide) rfl Tryz.underlying3 (by decide) rfl Tryz.underlying3
theorem LI:mq Tryz.prog 96 3:=mq.three (by kernel_rfl) (by kernel_rfl) Tryz.underlying96 (by decide) rfl Tryz.underlying3 (by decide) rfl Tryz.underlying3 (by decide) rfl Tryz.underlying3
theorem Ob:∀t ti,T t=some ti→ag Tryz.prog t ti:=by
 intro t ti h
 unfold T at h
 split at h
 ·cases h;exact N5
 ·cases h;exact N6
 ·cases h;exact N7
 ·cases h;exact N8
 ·cases h;exact N9
 ·cases h;exact Oa
 ·cases h;exact Kz
 ·cases h;exact KA
 ·cases h;exact KB
 ·cases h;exact KC
 ·cases h;exact KE
 ·cases h;exact KF
 ·cases h;exact KG
 ·cases h;exact KH
 ·cases h;exact KI
 ·cases h;exact KJ
 ·cases h;exact KK
 ·cases h;exact KL
 ·cases h;exact KM
 ·cases h;exact KN
 ·cases h;exact KO
 ·cases h;exact KP
 ·cases h;exact KQ
 ·cases h;exact KR
 ·cases h;exact KS
 ·cases h;exact KT
 ·cases h;exact KU
 ·cases h;exact KW
 ·cases h;exact KX
 ·cases h;exact KY
 ·cases h;exact KZ
 ·cases h;exact K0
 ·cases h;exact K1
 ·cases h;exact K2
 ·cases h;exact K3
 ·cases h;exact K4
 ·cases h;exact K5
 ·cases h;exact K6
 ·cases h;exact K7
 ·cases h;exact K8
 ·cases h;exact K9
 ·cases h;exact La
 ·cases h;exact Lb
 ·cases h;exact Lc
 ·cases h;exact Ld
 ·cases h;exact Lg
 ·cases h;exact Lh
 ·cases h;exact Li
 ·cases h;exact Lj
 ·cases h;exact Lk
 ·cases h;exact Ll
 ·cases h;exact Lm
 ·cases h;exact Ln
 ·cases h;exact Lo
 ·cases h;exact Lq
 ·cases h;exact Lr
 ·cases h;exact Ls
 ·cases h;exact Lt
 ·cases h;exact Lu
 ·cases h;exact Lv
 ·cases h;exact Lw
 ·cases h;exact Lx
 ·cases h;exact Lz
 ·cases h;exact LB
 ·cases h;exact LC
 ·cases h;exact LD
 ·cases h;exact LF
 ·cases h;exact LG
 ·cases h;exact GX
 ·cases h;exact GY
 ·cases h;exact GZ
 ·cases h;exact G0
 ·cases h;exact G3
 ·cases h;exact G4
 ·cases h;exact G5
 ·cases h;exact G6
 ·cases h;exact G7
 ·cases h;exact G8
 ·cases h;exact G9
 ·cases h;exact He
 ·cases h;exact Hf
 ·cases h;exact Hg
 ·cases h;exact Hh
 ·cases h;exact Hj
 ·cases h;exact Hl
 ·cases h;exact Ho
 ·cases h;exact Hp
 ·cases h;exact Hq
 ·cases h;exact Hr
 ·cases h;exact Hs
 ·cases h;exact Ht
 ·cases h;exact Hu
 ·cases h;exact Hv
 ·cases h;exact Hw
 ·cases h;exact Hx
 ·cases h;exact Hy
 ·cases h;exact Hz
 ·cases h;exact HA
 ·cases h;exact HB
 ·cases h;exact HC
 ·cases h;exact HD
 ·cases h;exact HE
 ·cases h;exact HF
 ·cases h;exact HG
 ·cases h;exact HH
 ·cases h;exact HJ
 ·cases h;exact HK
 ·cases h;exact HL
 ·cases h;exact HM
 ·cases h;exact HN
 ·cases h;exact HO
 ·cases h;exact HP
 ·cases h;exact HQ
 ·cases h;exact HR
 ·cases h;exact HS
 ·cases h;exact HT
 ·cases h;exact HU
 ·cases h;exact HV
 ·cases h;exact HW
 ·cases h;exact HX
 ·cases h;exact HY
 ·cases h;exact HZ
 ·cases h;exact H6
 ·cases h;exact H7
 ·cases h;exact H8
 ·cases h;exact H9
 ·cases h;exact Ia
 ·cases h;exact Ib
 ·cases h;exact Ic
 ·cases h;exact Ie
 ·cases h;exact Ig
 ·cases h;exact Ih
 ·cases h;exact Ii
 ·cases h;exact Ij
 ·cases h;exact Ik
 ·cases h;exact Il
 ·cases h;exact Im
 ·cases h;exact Io
 ·cases h;exact Ip
 ·cases h;exact Iq
 ·cases h;exact Ir
 ·cases h;exact Is
 ·cases h;exact Iu
 ·cases h;exact Iv
 ·cases h;exact Iw
 ·cases h;exact Iy
 ·cases h;exact Iz
 ·cases h;exact IA
 ·cases h;exact IB
 ·cases h;exact IC
 ·cases h;exact ID
 ·cases h;exact IE
 ·cases h;exact IF
 ·cases h;exact IG
 ·cases h;exact II
 ·cases h;exact IJ
 ·cases h;exact IK
 ·cases h;exact IL
 ·cases h;exact IM
 ·cases h;exact IN
 ·cases h;exact IP
 ·cases h;exact IQ
 ·cases h;exact IS
 ·cases h;exact IT
 ·cases h;exact IU
 ·cases h
theorem Oc:∀t n,x9 t=some n→mq Tryz.prog t n:=by
 intro t n h
 unfold x9 at h
 split at h
 ·cases h;exact LH
 ·cases h;exact LI
 ·cases h
def cfg (own wZ:List Nat):Cfg:=⟨T,own,x9,wZ⟩
theorem cfg_T (own wZ:List Nat):(cfg own wZ).T=T:=rfl
theorem cfg_own (own wZ:List Nat):(cfg own wZ).own=own:=rfl
theorem cfg_nst (own wZ:List Nat):(cfg own wZ).wZ=wZ:=rfl
theorem cfg_eqn (own wZ:List Nat):(cfg own wZ).x9=x9:=rfl
theorem ak (own wZ:List Nat):(cfg own wZ).Ok Tryz.prog:=⟨Ob,Oc⟩
theorem mixed:Tryz.prog.follows .mixedOrders=true:=by kernel_rfl
attribute [go_sem] T1 T2 T3 T4 T5 T9 T12 T21 T22 T24 T25 T26 T28 T29 T30 T32 T33 T35 T36 T37 T39 T40 T41 T42 T43 T44 T45 T46 T48 T49 T50 T52 T53 T54 T55 T56 T58 T59 T60 T61 T62 T64 T66 T67 T69 T71 T72 T73 T75 T76 T77 T78 T79 T80 T82 T84 T85 T86 T87 T88 T90 T91 T92 T93 T94 T96 T97 T98 T100 T101 T103 T104 T105 T106 T107 T108 T109 T110 T112 T113 T114 T115 T116 T117 T118 T119 T120 T121 T122 T123 T125 T126 T128 T129 T131 T133 T135 T136 T137 T138 T139 T140 T141 T143 T145 T146 T147 T148 T149 T150 T151 T152 T153 T154 T155 T156 T158 T159 T160 T161 T162 T163 T165 T167 T168 T169 T170 T171 T172 T173 T175 T176 T177 T179 T180 T181 T182 T183 T184 T185 T186 T187 T188 T189 T190 T191 T192 T193 T194 T195 T196 T197 T199 T200 T201 T202 T203 T204 T205 T206 T207 T208 T209 T215 T219 eqn58 eqn96 cfg_T cfg_own cfg_nst cfg_eqn
end Go.Ab.T
end
section
namespace Go.Ab
open Go.Proofs
attribute [local congr] ACall.congr
set_option maxRecDepth 10000
def eN (n:Int):AV:= .d (.sc (.int .i64 n))
def eB (b:Bool):AV:= .d (.sc (.bool b))
abbrev Edge:=Int × Int
structure Gr where
 n:Int
 es:List Edge
def rE (e:Edge):List D:= [.sc (.int .i64 e.1), .sc (.int .i64 e.2)]
def rI (n:Int):List D:= [.sc (.int .i64 n)]
def eE (e:Edge):AV:= .agg [.d (.sc (.int .i64 e.1)), .d (.sc (.int .i64 e.2))]
def sE (es:List Edge):D:= .sl 2 (es.map rE)
def sI (l:List Int):D:= .sl 1 (l.map rI)
def eG (g:Gr):AV:= .agg [eN g.n, .d (sE g.es)]
attribute [go_sem] eN eB eE sE sI eG Args AVrs
theorem getD_rE (ps:List Edge) (i:Nat):(ps.map rE).getD i [.sc (.int .i64 0), .sc (.int .i64 0)]= [.sc (.int .i64 (ps.getD i (0,0)).1), .sc (.int .i64 (ps.getD i (0,0)).2)]:=by
 simp only [List.getD_eq_getElem?_getD,List.getElem?_map]
 cases ps[i]? <;>rfl
theorem getD_rI (ps:List Int) (i:Nat):(ps.map rI).getD i [.sc (.int .i64 0)]= [.sc (.int .i64 (ps.getD i 0))]:=by
 simp only [List.getD_eq_getElem?_getD,List.getElem?_map]
 cases ps[i]? <;>rfl
theorem iz (l:List Int) (k:Nat) (v:Int):(l.map rI).set k [.sc (.int .i64 v)]=(l.set k v).map rI:=by
 rw [List.map_set];rfl
attribute [go_sem] getD_rE getD_rI Int.toNat_natCast List.length_set
def PC (n:Int):Prop:= -9223372036854775808≤n∧n≤9223372036854775807
def Len (n:Nat):Prop:=n≤9223372036854775807
end Go.Ab
end
section
namespace Go.Ab
open Go.Proofs
attribute [local congr] ACall.congr
set_option maxRecDepth 10000
def bJ {α:Type} (g:α→Bool) (ps:List α):Int:=match ps.findIdx? g with|some i=>i|none=> -1
theorem b9 {α:Type} {g:α→Bool} {ps:List α} (d:α) (h:∀j,j<ps.length→g (ps.getD j d)=false):bJ g ps= -1:=by
 have:ps.findIdx? g=none:=by
  rw [List.findIdx?_eq_none_iff]
  intro x hx
  obtain ⟨j,hj,rfl⟩:=List.getElem_of_mem hx
  simpa [List.getD_eq_getElem?_getD,List.getElem?_eq_getElem hj] using h j hj
 simp [bJ,this]
theorem cZ {α:Type} {g:α→Bool} {ps:List α} {d:α} {k:Nat} (hk:k<ps.length) (h:∀j,j<k→g (ps.getD j d)=false) (hg:g (ps.getD k d)=true):bJ g ps=k:=by
 have:ps.findIdx? g=some k:=by
  rw [List.findIdx?_eq_some_iff_getElem]
  refine ⟨hk,by simpa [List.getD_eq_getElem?_getD,List.getElem?_eq_getElem hk] using hg,fun j hj=> ?_⟩
  have:=h j hj
  simpa [List.getD_eq_getElem?_getD,List.getElem?_eq_getElem (Nat.lt_trans hj hk)] using this
 simp [bJ,this]
theorem fu {α:Type} (g:α→Bool) (ps:List α):decide (0≤bJ g ps)=ps.any g:=by
 cases h:ps.findIdx? g with
 |none=>
  have:bJ g ps= -1:=by simp [bJ,h]
  rw [this]
  rw [List.findIdx?_eq_none_iff] at h
  symm
  simpa using h
 |some i=>
  have:bJ g ps=i:=by simp [bJ,h]
  rw [this]
  obtain ⟨hi,hg,_⟩:=List.findIdx?_eq_some_iff_getElem.1 h
  have:ps.any g=true:=List.any_eq_true.2 ⟨_,List.getElem_mem hi,hg⟩
  rw [this];simp
theorem vO {α:Type} (g:α→Bool) (ps:List α):bJ g ps= -1∨(0≤bJ g ps∧bJ g ps<ps.length):=by
 cases h:ps.findIdx? g with
 |none=>exact .inl (by simp [bJ,h])
 |some i=>
  obtain ⟨hi,hg,_⟩:=List.findIdx?_eq_some_iff_getElem.1 h
  exact .inr (by simp [bJ,h];omega)
theorem vP (rn:List (Nat × Nat)) (h0:rn= []) {m:List (Nat × AObj)} :∀ {r:List (Nat × AObj)},(∀p∈r,look m p.1=some p.2)→leR m rn r
 | [],_=>trivial
 |p::r,h=>by
  subst h0
  have h1:=h p List.mem_cons_self
  refine ⟨?_,vP [] rfl fun q hq=>h q (List.mem_cons_of_mem _ hq)⟩
  have e:renO [] p.2=p.2:=rfl
  show look m p.1=some (renO [] p.2)
  rw [e];exact h1
theorem eO {m:List (Nat × AObj)} (h:bk m):leR m [] m:=vP [] rfl fun _ hp=>aM h.nd hp
theorem bz {m:List (Nat × AObj)} (hR:bk m) (f:Nat) (caps:List AV) (g:Edge→Bool) (hf:∀p,Spec Tryz.prog f (Args (eE p::caps)) m (eB (g p)) m) (ps:List Edge) (hl:ps.length≤9223372036854775807):
 Spec Tryz.prog 100 (Args [.d (sE ps), .fn f [] caps]) m (eN (bJ g ps)) m:=by
 (refine Spec.intro (C:=T.cfg [] []) (rs:= [.t 4]) (T.ak _ _) Tryz.func100 rfl rfl Tryz.ntmps100 Tryz.results100 (fun p hp=>⟨(bk.low hR p hp).1,bk.nest hR p hp⟩) (fun p hp=>⟨(bk.low hR p hp).2,bk.nest hR p hp⟩) (by kernel_rfl) ?_;intro X hX hP hC aK aL vals hA;refine ⟨_,by simp,hA, ?_⟩;have af:X.P.follows .mixedOrders=true:=(by rw [hP];exact T.mixed);clear aK aL)
 repeat' (first|fail|((first|((with_reducible (first|apply oA|apply oB));exact rfl;intro K hK)|(refine hK _ ?_;clear hK K)|((with_reducible (first|apply oG|apply oH));iterate 3 exact rfl)|((with_reducible apply oI);(iterate 2 exact rfl);intro K hK)|(with_reducible (first|apply wI|apply wJ|apply wK)));try simp only [go_sem,simprocAttr])|fail|(with_reducible (first|apply oC|apply oJ|exact oK|apply wA|apply wB|apply wC hX hC|apply wD hX hC|apply wE hX hC af|apply wF hX hC af|apply wG|apply wH|apply And.intro))|((with_reducible refine oD ?_ ?_);first|fail|kernel_rfl)|((with_reducible (first|apply oE|apply oF));(iterate 3 exact rfl);all_goals (intro h;first|(exact absurd h (by decide))|((try simp only [go_sem,simprocAttr] at h);(try with_reducible intro K hK);simp only [go_sem,simprocAttr])))|((first|((with_reducible apply wL);exact rfl)|((with_reducible apply wM);exact rfl));all_goals (try ((with_reducible intro h);first|(exact absurd h (by decide))|(try simp only [go_sem,simprocAttr] at h))))|omega|((first|(first|(refine aX hX hC hP hR (hf _) rfl rfl rfl ?_ ?_ rfl rfl ?_;(focus (simp only [go_sem,simprocAttr];done));(focus (first|(intro p hp;exact aM (bk.nd hR) hp)|(simp [go_sem,simprocAttr];done))))|(refine aX hX hC hP hR (hf _) rfl rfl rfl ?_ ?_ ?_ rfl ?_;(focus (simp only [go_sem,simprocAttr];done));(focus (first|(intro p hp;exact aM (bk.nd hR) hp)|(simp [go_sem,simprocAttr];done)));(focus (simp [go_sem,simprocAttr];done)))));try simp only [go_sem,simprocAttr])|(intro h))
 refine aj (fun k:Nat=>k≤ps.length∧∀j,j<k→g (ps.getD j (0,0))=false) (fun k=>⟨[(0, .d (sE ps)),(1, .fn f [] caps),(7,eN ps.length),(8,eN k)],m⟩) (fun k=>ps.length - k) 0 (by simp) ?_ ?_
 ·(refine ⟨bV ?_,fun _ _ h=>h⟩;simp [go_sem,simprocAttr])
 rintro k ⟨hk,hg⟩
 repeat' (first|fail|((first|((with_reducible (first|apply oA|apply oB));exact rfl;intro K hK)|(refine hK _ ?_;clear hK K)|((with_reducible (first|apply oG|apply oH));iterate 3 exact rfl)|((with_reducible apply oI);(iterate 2 exact rfl);intro K hK)|(with_reducible (first|apply wI|apply wJ|apply wK)));try simp only [go_sem,simprocAttr])|fail|(with_reducible (first|apply oC|apply oJ|exact oK|apply wA|apply wB|apply wC hX hC|apply wD hX hC|apply wE hX hC af|apply wF hX hC af|apply wG|apply wH|apply And.intro))|((with_reducible refine oD ?_ ?_);first|fail|kernel_rfl)|((with_reducible (first|apply oE|apply oF));(iterate 3 exact rfl);all_goals (intro h;first|(exact absurd h (by decide))|((try simp only [go_sem,simprocAttr] at h);(try with_reducible intro K hK);simp only [go_sem,simprocAttr])))|((first|((with_reducible apply wL);exact rfl)|((with_reducible apply wM);exact rfl));all_goals (try ((with_reducible intro h);first|(exact absurd h (by decide))|(try simp only [go_sem,simprocAttr] at h))))|omega|((first|(first|(refine aX hX hC hP hR (hf _) rfl rfl rfl ?_ ?_ rfl rfl ?_;(focus (simp only [go_sem,simprocAttr];done));(focus (first|(intro p hp;exact aM (bk.nd hR) hp)|(simp [go_sem,simprocAttr];done))))|(refine aX hX hC hP hR (hf _) rfl rfl rfl ?_ ?_ ?_ rfl ?_;(focus (simp only [go_sem,simprocAttr];done));(focus (first|(intro p hp;exact aM (bk.nd hR) hp)|(simp [go_sem,simprocAttr];done)));(focus (simp [go_sem,simprocAttr];done)))));try simp only [go_sem,simprocAttr])|(intro h))
 ·exact (cZ (by omega) hg h).symm
 ·exact eO hR
 ·refine ⟨k+1,⟨by omega,fun j hj=> ?_⟩, ?_,by omega⟩
  ·by_cases hjk:j=k
   ·subst hjk;exact h
   ·exact hg j (by omega)
  ·(refine ⟨bV ?_,fun _ _ h=>h⟩;simp [go_sem,simprocAttr])
 ·exact (b9 (0,0) fun j hj=>hg j (by omega)).symm
 ·exact eO hR
theorem cn {m:List (Nat × AObj)} (hR:bk m) (f:Nat) (caps:List AV) (g:Int→Bool) (hf:∀p,Spec Tryz.prog f (Args (eN p::caps)) m (eB (g p)) m) (ps:List Int) (hl:ps.length≤9223372036854775807):
 Spec Tryz.prog 121 (Args [.d (sI ps), .fn f [] caps]) m (eN (bJ g ps)) m:=by
 (refine Spec.intro (C:=T.cfg [] []) (rs:= [.t 4]) (T.ak _ _) Tryz.func121 rfl rfl Tryz.ntmps121 Tryz.results121 (fun p hp=>⟨(bk.low hR p hp).1,bk.nest hR p hp⟩) (fun p hp=>⟨(bk.low hR p hp).2,bk.nest hR p hp⟩) (by kernel_rfl) ?_;intro X hX hP hC aK aL vals hA;refine ⟨_,by simp,hA, ?_⟩;have af:X.P.follows .mixedOrders=true:=(by rw [hP];exact T.mixed);clear aK aL)
 repeat' (first|fail|((first|((with_reducible (first|apply oA|apply oB));exact rfl;intro K hK)|(refine hK _ ?_;clear hK K)|((with_reducible (first|apply oG|apply oH));iterate 3 exact rfl)|((with_reducible apply oI);(iterate 2 exact rfl);intro K hK)|(with_reducible (first|apply wI|apply wJ|apply wK)));try simp only [go_sem,simprocAttr])|fail|(with_reducible (first|apply oC|apply oJ|exact oK|apply wA|apply wB|apply wC hX hC|apply wD hX hC|apply wE hX hC af|apply wF hX hC af|apply wG|apply wH|apply And.intro))|((with_reducible refine oD ?_ ?_);first|fail|kernel_rfl)|((with_reducible (first|apply oE|apply oF));(iterate 3 exact rfl);all_goals (intro h;first|(exact absurd h (by decide))|((try simp only [go_sem,simprocAttr] at h);(try with_reducible intro K hK);simp only [go_sem,simprocAttr])))|((first|((with_reducible apply wL);exact rfl)|((with_reducible apply wM);exact rfl));all_goals (try ((with_reducible intro h);first|(exact absurd h (by decide))|(try simp only [go_sem,simprocAttr] at h))))|omega|((first|(first|(refine aX hX hC hP hR (hf _) rfl rfl rfl ?_ ?_ rfl rfl ?_;(focus (simp only [go_sem,simprocAttr];done));(focus (first|(intro p hp;exact aM (bk.nd hR) hp)|(simp [go_sem,simprocAttr];done))))|(refine aX hX hC hP hR (hf _) rfl rfl rfl ?_ ?_ ?_ rfl ?_;(focus (simp only [go_sem,simprocAttr];done));(focus (first|(intro p hp;exact aM (bk.nd hR) hp)|(simp [go_sem,simprocAttr];done)));(focus (simp [go_sem,simprocAttr];done)))));try simp only [go_sem,simprocAttr])|(intro h))
 refine aj (fun k:Nat=>k≤ps.length∧∀j,j<k→g (ps.getD j 0)=false) (fun k=>⟨[(0, .d (sI ps)),(1, .fn f [] caps),(7,eN ps.length),(8,eN k)],m⟩) (fun k=>ps.length - k) 0 (by simp) ?_ ?_
 ·(refine ⟨bV ?_,fun _ _ h=>h⟩;simp [go_sem,simprocAttr])
 rintro k ⟨hk,hg⟩
 repeat' (first|fail|((first|((with_reducible (first|apply oA|apply oB));exact rfl;intro K hK)|(refine hK _ ?_;clear hK K)|((with_reducible (first|apply oG|apply oH));iterate 3 exact rfl)|((with_reducible apply oI);(iterate 2 exact rfl);intro K hK)|(with_reducible (first|apply wI|apply wJ|apply wK)));try simp only [go_sem,simprocAttr])|fail|(with_reducible (first|apply oC|apply oJ|exact oK|apply wA|apply wB|apply wC hX hC|apply wD hX hC|apply wE hX hC af|apply wF hX hC af|apply wG|apply wH|apply And.intro))|((with_reducible refine oD ?_ ?_);first|fail|kernel_rfl)|((with_reducible (first|apply oE|apply oF));(iterate 3 exact rfl);all_goals (intro h;first|(exact absurd h (by decide))|((try simp only [go_sem,simprocAttr] at h);(try with_reducible intro K hK);simp only [go_sem,simprocAttr])))|((first|((with_reducible apply wL);exact rfl)|((with_reducible apply wM);exact rfl));all_goals (try ((with_reducible intro h);first|(exact absurd h (by decide))|(try simp only [go_sem,simprocAttr] at h))))|omega|((first|(first|(refine aX hX hC hP hR (hf _) rfl rfl rfl ?_ ?_ rfl rfl ?_;(focus (simp only [go_sem,simprocAttr];done));(focus (first|(intro p hp;exact aM (bk.nd hR) hp)|(simp [go_sem,simprocAttr];done))))|(refine aX hX hC hP hR (hf _) rfl rfl rfl ?_ ?_ ?_ rfl ?_;(focus (simp only [go_sem,simprocAttr];done));(focus (first|(intro p hp;exact aM (bk.nd hR) hp)|(simp [go_sem,simprocAttr];done)));(focus (simp [go_sem,simprocAttr];done)))));try simp only [go_sem,simprocAttr])|(intro h))
 ·exact (cZ (by omega) hg h).symm
 ·exact eO hR
 ·refine ⟨k+1,⟨by omega,fun j hj=> ?_⟩, ?_,by omega⟩
  ·by_cases hjk:j=k
   ·subst hjk;exact h
   ·exact hg j (by omega)
  ·(refine ⟨bV ?_,fun _ _ h=>h⟩;simp [go_sem,simprocAttr])
 ·exact (b9 0 fun j hj=>hg j (by omega)).symm
 ·exact eO hR
theorem lQ {m:List (Nat × AObj)} (hR:bk m) (f:Nat) (caps:List AV) (g:Edge→Bool) (hf:∀p,Spec Tryz.prog f (Args (eE p::caps)) m (eB (g p)) m) (ps:List Edge) (hl:ps.length≤9223372036854775807):
 Spec Tryz.prog 93 (Args [.d (sE ps), .fn f [] caps]) m (eB (ps.any g)) m:=by
 (refine Spec.intro (C:=T.cfg [] []) (rs:= [.t 4]) (T.ak _ _) Tryz.func93 rfl rfl Tryz.ntmps93 Tryz.results93 (fun p hp=>⟨(bk.low hR p hp).1,bk.nest hR p hp⟩) (fun p hp=>⟨(bk.low hR p hp).2,bk.nest hR p hp⟩) (by kernel_rfl) ?_;intro X hX hP hC aK aL vals hA;refine ⟨_,by simp,hA, ?_⟩;have af:X.P.follows .mixedOrders=true:=(by rw [hP];exact T.mixed);clear aK aL)
 repeat' (first|fail|((first|((with_reducible (first|apply oA|apply oB));exact rfl;intro K hK)|(refine hK _ ?_;clear hK K)|((with_reducible (first|apply oG|apply oH));iterate 3 exact rfl)|((with_reducible apply oI);(iterate 2 exact rfl);intro K hK)|(with_reducible (first|apply wI|apply wJ|apply wK)));try simp only [go_sem,simprocAttr])|fail|(with_reducible (first|apply oC|apply oJ|exact oK|apply wA|apply wB|apply wC hX hC|apply wD hX hC|apply wE hX hC af|apply wF hX hC af|apply wG|apply wH|apply And.intro))|((with_reducible refine oD ?_ ?_);first|fail|kernel_rfl)|((with_reducible (first|apply oE|apply oF));(iterate 3 exact rfl);all_goals (intro h;first|(exact absurd h (by decide))|((try simp only [go_sem,simprocAttr] at h);(try with_reducible intro K hK);simp only [go_sem,simprocAttr])))|((first|((with_reducible apply wL);exact rfl)|((with_reducible apply wM);exact rfl));all_goals (try ((with_reducible intro h);first|(exact absurd h (by decide))|(try simp only [go_sem,simprocAttr] at h))))|omega|((first|(first|(refine aX hX hC hP hR (bz hR _ _ g hf ps hl) rfl rfl rfl ?_ ?_ rfl rfl ?_;(focus (simp only [go_sem,simprocAttr];done));(focus (first|(intro p hp;exact aM (bk.nd hR) hp)|(simp [go_sem,simprocAttr];done))))|(refine aX hX hC hP hR (bz hR _ _ g hf ps hl) rfl rfl rfl ?_ ?_ ?_ rfl ?_;(focus (simp only [go_sem,simprocAttr];done));(focus (first|(intro p hp;exact aM (bk.nd hR) hp)|(simp [go_sem,simprocAttr];done)));(focus (simp [go_sem,simprocAttr];done)))));try simp only [go_sem,simprocAttr])|(intro h))
 ·exact fu g ps
 ·exact eO hR
def sw (g:Gr) (x:Int):Bool:=decide (x<0)||decide (g.n≤x)
def mL (g:Gr) (e:Edge):Bool:=sw g e.1||sw g e.2
def aO (g:Gr):Bool:=decide (0<g.n)&&decide (g.n≤64)&&decide ((g.es.length:Int)≤128)&& !g.es.any (mL g)
def rG (g:Gr):AObj:= .rob [eN g.n, .d (sE g.es)]
theorem sR (g:Gr) (x:Int):Spec Tryz.prog 92 (Args [eN x, .ptr 10000 0]) [(10000,rG g)] (eB (sw g x)) [(10000,rG g)]:=by
 unfold rG
 (refine Spec.intro (C:=T.cfg [] []) (rs:= [.t 3]) (T.ak _ _) Tryz.func92 rfl rfl Tryz.ntmps92 Tryz.results92 (by simp [AObj.isNest]) (by simp [AObj.isNest]) (by kernel_rfl) ?_;intro X hX hP hC aK aL vals hA;refine ⟨_,by simp,hA, ?_⟩;have af:X.P.follows .mixedOrders=true:=(by rw [hP];exact T.mixed);clear aK aL)
 repeat' (first|fail|((first|((with_reducible (first|apply oA|apply oB));exact rfl;intro K hK)|(refine hK _ ?_;clear hK K)|((with_reducible (first|apply oG|apply oH));iterate 3 exact rfl)|((with_reducible apply oI);(iterate 2 exact rfl);intro K hK)|(with_reducible (first|apply wI|apply wJ|apply wK)));try simp only [go_sem,simprocAttr])|fail|(with_reducible (first|apply oC|apply oJ|exact oK|apply wA|apply wB|apply wC hX hC|apply wD hX hC|apply wE hX hC af|apply wF hX hC af|apply wG|apply wH|apply And.intro))|((with_reducible refine oD ?_ ?_);first|fail|kernel_rfl)|((with_reducible (first|apply oE|apply oF));(iterate 3 exact rfl);all_goals (intro h;first|(exact absurd h (by decide))|((try simp only [go_sem,simprocAttr] at h);(try with_reducible intro K hK);simp only [go_sem,simprocAttr])))|((first|((with_reducible apply wL);exact rfl)|((with_reducible apply wM);exact rfl));all_goals (try ((with_reducible intro h);first|(exact absurd h (by decide))|(try simp only [go_sem,simprocAttr] at h))))|omega|((first|(first|(refine aX hX hC hP hR (bz hR _ _ g hf ps hl) rfl rfl rfl ?_ ?_ rfl rfl ?_;(focus (simp only [go_sem,simprocAttr];done));(focus (first|(intro p hp;exact aM (bk.nd hR) hp)|(simp [go_sem,simprocAttr];done))))|(refine aX hX hC hP hR (bz hR _ _ g hf ps hl) rfl rfl rfl ?_ ?_ ?_ rfl ?_;(focus (simp only [go_sem,simprocAttr];done));(focus (first|(intro p hp;exact aM (bk.nd hR) hp)|(simp [go_sem,simprocAttr];done)));(focus (simp [go_sem,simprocAttr];done)))));try simp only [go_sem,simprocAttr])|(intro h))
 ·simp [sw, *]
 ·simp [sw, *]
theorem Dz (g:Gr):bk [(10000,rG g)]:=⟨by simp [rG,AObj.ro],by simp [nodupM,look],by simp,by simp [rG,AObj.ids,AV.ids,AV.idss,eN]⟩
def rF:AObj:= .rob [.fn 92 [] [.ptr 10000 0]]
attribute [go_sem] rG rF
theorem zD (g:Gr) (e:Edge):Spec Tryz.prog 94 (Args [eE e, .ptr 10001 0]) [(10001,rF),(10000,rG g)] (eB (mL g e)) [(10001,rF),(10000,rG g)]:=by
 unfold rF rG
 (refine Spec.intro (C:=T.cfg [] []) (rs:= [.t 3]) (T.ak _ _) Tryz.func94 rfl rfl Tryz.ntmps94 Tryz.results94 (by simp [AObj.isNest]) (by simp [AObj.isNest]) (by kernel_rfl) ?_;intro X hX hP hC aK aL vals hA;refine ⟨_,by simp,hA, ?_⟩;have af:X.P.follows .mixedOrders=true:=(by rw [hP];exact T.mixed);clear aK aL)
 repeat' (first|fail|((first|((with_reducible (first|apply oA|apply oB));exact rfl;intro K hK)|(refine hK _ ?_;clear hK K)|((with_reducible (first|apply oG|apply oH));iterate 3 exact rfl)|((with_reducible apply oI);(iterate 2 exact rfl);intro K hK)|(with_reducible (first|apply wI|apply wJ|apply wK)));try simp only [go_sem,simprocAttr])|fail|(with_reducible (first|apply oC|apply oJ|exact oK|apply wA|apply wB|apply wC hX hC|apply wD hX hC|apply wE hX hC af|apply wF hX hC af|apply wG|apply wH|apply And.intro))|((with_reducible refine oD ?_ ?_);first|fail|kernel_rfl)|((with_reducible (first|apply oE|apply oF));(iterate 3 exact rfl);all_goals (intro h;first|(exact absurd h (by decide))|((try simp only [go_sem,simprocAttr] at h);(try with_reducible intro K hK);simp only [go_sem,simprocAttr])))|((first|((with_reducible apply wL);exact rfl)|((with_reducible apply wM);exact rfl));all_goals (try ((with_reducible intro h);first|(exact absurd h (by decide))|(try simp only [go_sem,simprocAttr] at h))))|omega|((first|(first|(refine aX hX hC hP (Dz g) (sR g _) rfl rfl rfl ?_ ?_ rfl rfl ?_;(focus (simp only [go_sem,simprocAttr];done));(focus (first|(intro p hp;exact aM (bk.nd (Dz g)) hp)|(simp [go_sem,simprocAttr];done))))|(refine aX hX hC hP (Dz g) (sR g _) rfl rfl rfl ?_ ?_ ?_ rfl ?_;(focus (simp only [go_sem,simprocAttr];done));(focus (first|(intro p hp;exact aM (bk.nd (Dz g)) hp)|(simp [go_sem,simprocAttr];done)));(focus (simp [go_sem,simprocAttr];done)))));try simp only [go_sem,simprocAttr])|(intro h))
 ·simp [mL, *]
 ·simp [mL, *]
theorem LJ (g:Gr):bk [(10001,rF),(10000,rG g)]:=⟨by simp [rG,rF,AObj.ro],by simp [nodupM,look],by simp,by simp [rG,rF,AObj.ids,AV.ids,AV.idss,eN,look]⟩
theorem eP (g:Gr) (hl:g.es.length≤9223372036854775807):Spec Tryz.prog 58 (Args [eG g]) [] (eB (aO g)) []:=by
 (refine Spec.intro (C:=T.cfg [] []) (rs:= [.t 2]) (T.ak _ _) Tryz.func58 rfl rfl Tryz.ntmps58 Tryz.results58 (by simp [AObj.isNest]) (by simp [AObj.isNest]) (by kernel_rfl) ?_;intro X hX hP hC aK aL vals hA;refine ⟨_,by simp,hA, ?_⟩;have af:X.P.follows .mixedOrders=true:=(by rw [hP];exact T.mixed);clear aK aL)
 repeat' (first|fail|((first|((with_reducible (first|apply oA|apply oB));exact rfl;intro K hK)|(refine hK _ ?_;clear hK K)|((with_reducible (first|apply oG|apply oH));iterate 3 exact rfl)|((with_reducible apply oI);(iterate 2 exact rfl);intro K hK)|(with_reducible (first|apply wI|apply wJ|apply wK)));try simp only [go_sem,simprocAttr])|fail|(with_reducible (first|apply oC|apply oJ|exact oK|apply wA|apply wB|apply wC hX hC|apply wD hX hC|apply wE hX hC af|apply wF hX hC af|apply wG|apply wH|apply And.intro))|((with_reducible refine oD ?_ ?_);first|fail|kernel_rfl)|((with_reducible (first|apply oE|apply oF));(iterate 3 exact rfl);all_goals (intro h;first|(exact absurd h (by decide))|((try simp only [go_sem,simprocAttr] at h);(try with_reducible intro K hK);simp only [go_sem,simprocAttr])))|((first|((with_reducible apply wL);exact rfl)|((with_reducible apply wM);exact rfl));all_goals (try ((with_reducible intro h);first|(exact absurd h (by decide))|(try simp only [go_sem,simprocAttr] at h))))|omega|((first|(refine cm hX hC hP [(10000,1),(10001,3)] (lQ (LJ g) _ _ (mL g) (zD g) g.es hl) rfl rfl rfl ?_ ?_ ?_ ?_ ?_ ?_ rfl rfl ?_ ?_;(focus (simp only [go_sem,simprocAttr];done));(iterate 6 (focus (simp [go_sem,simprocAttr];done)));simp only [go_sem,simprocAttr,List.map_cons,List.map_nil]));try simp only [go_sem,simprocAttr])|(intro h))
 all_goals simp [aO, *]
end Go.Ab
end
section
namespace Go.Ab
open Go.Proofs
attribute [local congr] ACall.congr
set_option maxRecDepth 10000
def c7 (l:List Int) (x:Int):Int:=bJ (fun y=>decide (x=y)) l
def Fb (l:List Edge) (x:Edge):Int:=bJ (fun y=>decide (x=y)) l
theorem By (l:List Int) (x:Int):decide (0≤c7 l x)=decide (x∈l):=by
 unfold c7;rw [fu,Bool.eq_iff_iff];simp
theorem Bz (l:List Edge) (x:Edge):decide (0≤Fb l x)=decide (x∈l):=by
 unfold Fb;rw [fu,Bool.eq_iff_iff];simp [-Prod.exists, -Prod.forall]
theorem iT (x y:Edge):(decide (x.1=y.1)&&decide (x.2=y.2))=decide (x=y):=by
 obtain ⟨a,b⟩:=x;obtain ⟨c,d⟩:=y
 rw [Bool.eq_iff_iff];simp
theorem aQ (ps:List Int) (x:Int) (hl:ps.length≤9223372036854775807):
 Spec Tryz.prog 55 (Args [.d (sI ps),eN x]) [] (eN (c7 ps x)) []:=by
 (refine Spec.intro (C:=T.cfg [] []) (rs:= [.t 4]) (T.ak _ _) Tryz.func55 rfl rfl Tryz.ntmps55 Tryz.results55 (by simp [AObj.isNest]) (by simp [AObj.isNest]) (by kernel_rfl) ?_;intro X hX hP hC aK aL vals hA;refine ⟨_,by simp,hA, ?_⟩;have af:X.P.follows .mixedOrders=true:=(by rw [hP];exact T.mixed);clear aK aL)
 repeat' (first|fail|((first|((with_reducible (first|apply oA|apply oB));exact rfl;intro K hK)|(refine hK _ ?_;clear hK K)|((with_reducible (first|apply oG|apply oH));iterate 3 exact rfl)|((with_reducible apply oI);(iterate 2 exact rfl);intro K hK)|(with_reducible (first|apply wI|apply wJ|apply wK)));try simp only [go_sem,simprocAttr])|fail|(with_reducible (first|apply oC|apply oJ|exact oK|apply wA|apply wB|apply wC hX hC|apply wD hX hC|apply wE hX hC af|apply wF hX hC af|apply wG|apply wH|apply And.intro))|((with_reducible refine oD ?_ ?_);first|fail|kernel_rfl)|((with_reducible (first|apply oE|apply oF));(iterate 3 exact rfl);all_goals (intro h;first|(exact absurd h (by decide))|((try simp only [go_sem,simprocAttr] at h);(try with_reducible intro K hK);simp only [go_sem,simprocAttr])))|((first|((with_reducible apply wL);exact rfl)|((with_reducible apply wM);exact rfl));all_goals (try ((with_reducible intro h);first|(exact absurd h (by decide))|(try simp only [go_sem,simprocAttr] at h))))|omega|((first|fail);try simp only [go_sem,simprocAttr])|(intro h))
 refine aj (fun k:Nat=>k≤ps.length∧∀j,j<k→decide (x=ps.getD j 0)=false) (fun k=>⟨[(0, .d (sI ps)),(1,eN x),(7,eN ps.length),(8,eN k)], []⟩) (fun k=>ps.length - k) 0 (by simp) ?_ ?_
 ·(refine ⟨bV ?_,fun _ _ h=>h⟩;simp [go_sem,simprocAttr])
 rintro k ⟨hk,hg⟩
 repeat' (first|fail|((first|((with_reducible (first|apply oA|apply oB));exact rfl;intro K hK)|(refine hK _ ?_;clear hK K)|((with_reducible (first|apply oG|apply oH));iterate 3 exact rfl)|((with_reducible apply oI);(iterate 2 exact rfl);intro K hK)|(with_reducible (first|apply wI|apply wJ|apply wK)));try simp only [go_sem,simprocAttr])|fail|(with_reducible (first|apply oC|apply oJ|exact oK|apply wA|apply wB|apply wC hX hC|apply wD hX hC|apply wE hX hC af|apply wF hX hC af|apply wG|apply wH|apply And.intro))|((with_reducible refine oD ?_ ?_);first|fail|kernel_rfl)|((with_reducible (first|apply oE|apply oF));(iterate 3 exact rfl);all_goals (intro h;first|(exact absurd h (by decide))|((try simp only [go_sem,simprocAttr] at h);(try with_reducible intro K hK);simp only [go_sem,simprocAttr])))|((first|((with_reducible apply wL);exact rfl)|((with_reducible apply wM);exact rfl));all_goals (try ((with_reducible intro h);first|(exact absurd h (by decide))|(try simp only [go_sem,simprocAttr] at h))))|omega|((first|fail);try simp only [go_sem,simprocAttr])|(intro h))
 ·exact (cZ (by omega) hg (by simpa using h)).symm
 ·refine ⟨k+1,⟨by omega,fun j hj=> ?_⟩, ?_,by omega⟩
  ·by_cases hjk:j=k
   ·subst hjk;simpa using h
   ·simpa using hg j (by omega)
  ·(refine ⟨bV ?_,fun _ _ h=>h⟩;simp [go_sem,simprocAttr])
 ·exact (b9 0 fun j hj=>hg j (by omega)).symm
theorem aZ (ps:List Int) (x:Int) (hl:ps.length≤9223372036854775807):
 Spec Tryz.prog 123 (Args [.d (sI ps),eN x]) [] (eB (decide (x∈ps))) []:=by
 rw [← By]
 (refine Spec.intro (C:=T.cfg [] []) (rs:= [.t 4]) (T.ak _ _) Tryz.func123 rfl rfl Tryz.ntmps123 Tryz.results123 (by simp [AObj.isNest]) (by simp [AObj.isNest]) (by kernel_rfl) ?_;intro X hX hP hC aK aL vals hA;refine ⟨_,by simp,hA, ?_⟩;have af:X.P.follows .mixedOrders=true:=(by rw [hP];exact T.mixed);clear aK aL)
 repeat' (first|fail|((first|((with_reducible (first|apply oA|apply oB));exact rfl;intro K hK)|(refine hK _ ?_;clear hK K)|((with_reducible (first|apply oG|apply oH));iterate 3 exact rfl)|((with_reducible apply oI);(iterate 2 exact rfl);intro K hK)|(with_reducible (first|apply wI|apply wJ|apply wK)));try simp only [go_sem,simprocAttr])|fail|(with_reducible (first|apply oC|apply oJ|exact oK|apply wA|apply wB|apply wC hX hC|apply wD hX hC|apply wE hX hC af|apply wF hX hC af|apply wG|apply wH|apply And.intro))|((with_reducible refine oD ?_ ?_);first|fail|kernel_rfl)|((with_reducible (first|apply oE|apply oF));(iterate 3 exact rfl);all_goals (intro h;first|(exact absurd h (by decide))|((try simp only [go_sem,simprocAttr] at h);(try with_reducible intro K hK);simp only [go_sem,simprocAttr])))|((first|((with_reducible apply wL);exact rfl)|((with_reducible apply wM);exact rfl));all_goals (try ((with_reducible intro h);first|(exact absurd h (by decide))|(try simp only [go_sem,simprocAttr] at h))))|omega|((first|refine aa hX hC hP (aQ ps x hl) rfl rfl rfl (by simp only [go_sem,simprocAttr]) rfl ?_);try simp only [go_sem,simprocAttr])|(intro h))
theorem vQ (ps:List Edge) (x:Edge) (hl:ps.length≤9223372036854775807):
 Spec Tryz.prog 120 (Args [.d (sE ps),eE x]) [] (eN (Fb ps x)) []:=by
 (refine Spec.intro (C:=T.cfg [] []) (rs:= [.t 4]) (T.ak _ _) Tryz.func120 rfl rfl Tryz.ntmps120 Tryz.results120 (by simp [AObj.isNest]) (by simp [AObj.isNest]) (by kernel_rfl) ?_;intro X hX hP hC aK aL vals hA;refine ⟨_,by simp,hA, ?_⟩;have af:X.P.follows .mixedOrders=true:=(by rw [hP];exact T.mixed);clear aK aL)
 repeat' (first|fail|((first|((with_reducible (first|apply oA|apply oB));exact rfl;intro K hK)|(refine hK _ ?_;clear hK K)|((with_reducible (first|apply oG|apply oH));iterate 3 exact rfl)|((with_reducible apply oI);(iterate 2 exact rfl);intro K hK)|(with_reducible (first|apply wI|apply wJ|apply wK)));try simp only [go_sem,simprocAttr])|fail|(with_reducible (first|apply oC|apply oJ|exact oK|apply wA|apply wB|apply wC hX hC|apply wD hX hC|apply wE hX hC af|apply wF hX hC af|apply wG|apply wH|apply And.intro))|((with_reducible refine oD ?_ ?_);first|fail|kernel_rfl)|((with_reducible (first|apply oE|apply oF));(iterate 3 exact rfl);all_goals (intro h;first|(exact absurd h (by decide))|((try simp only [go_sem,simprocAttr] at h);(try with_reducible intro K hK);simp only [go_sem,simprocAttr])))|((first|((with_reducible apply wL);exact rfl)|((with_reducible apply wM);exact rfl));all_goals (try ((with_reducible intro h);first|(exact absurd h (by decide))|(try simp only [go_sem,simprocAttr] at h))))|omega|((first|fail);try simp only [go_sem,simprocAttr])|(intro h))
 refine aj (fun k:Nat=>k≤ps.length∧∀j,j<k→decide (x=ps.getD j (0,0))=false) (fun k=>⟨[(0, .d (sE ps)),(3, .ptr 3 0),(7,eN ps.length),(8,eN k)], [(3, .box [eN x.1,eN x.2])]⟩) (fun k=>ps.length - k) 0 (by simp) ?_ ?_
 ·(refine Le.of ?_ ?_<;>simp [go_sem,simprocAttr])
 rintro k ⟨hk,hg⟩
 repeat' (first|fail|((first|((with_reducible (first|apply oA|apply oB));exact rfl;intro K hK)|(refine hK _ ?_;clear hK K)|((with_reducible (first|apply oG|apply oH));iterate 3 exact rfl)|((with_reducible apply oI);(iterate 2 exact rfl);intro K hK)|(with_reducible (first|apply wI|apply wJ|apply wK)));try simp only [go_sem,simprocAttr,iT])|fail|(with_reducible (first|apply oC|apply oJ|exact oK|apply wA|apply wB|apply wC hX hC|apply wD hX hC|apply wE hX hC af|apply wF hX hC af|apply wG|apply wH|apply And.intro))|((with_reducible refine oD ?_ ?_);first|fail|kernel_rfl)|((with_reducible (first|apply oE|apply oF));(iterate 3 exact rfl);all_goals (intro h;first|(exact absurd h (by decide))|((try simp only [go_sem,simprocAttr,iT] at h);(try with_reducible intro K hK);simp only [go_sem,simprocAttr,iT])))|((first|((with_reducible apply wL);exact rfl)|((with_reducible apply wM);exact rfl));all_goals (try ((with_reducible intro h);first|(exact absurd h (by decide))|(try simp only [go_sem,simprocAttr,iT] at h))))|omega|((first|fail);try simp only [go_sem,simprocAttr,iT])|(intro h))
 ·exact (cZ (d:=(0,0)) (by omega) hg (by simpa using h)).symm
 ·refine ⟨k+1,⟨by omega,fun j hj=> ?_⟩, ?_,by omega⟩
  ·by_cases hjk:j=k
   ·subst hjk;exact h
   ·simpa using hg j (by omega)
  ·(refine Le.of ?_ ?_<;>simp [go_sem,simprocAttr,iT])
 ·exact (b9 (0,0) fun j hj=>hg j (by omega)).symm
theorem dx (ps:List Edge) (x:Edge) (hl:ps.length≤9223372036854775807):
 Spec Tryz.prog 102 (Args [.d (sE ps),eE x]) [] (eB (decide (x∈ps))) []:=by
 rw [← Bz]
 (refine Spec.intro (C:=T.cfg [] []) (rs:= [.t 4]) (T.ak _ _) Tryz.func102 rfl rfl Tryz.ntmps102 Tryz.results102 (by simp [AObj.isNest]) (by simp [AObj.isNest]) (by kernel_rfl) ?_;intro X hX hP hC aK aL vals hA;refine ⟨_,by simp,hA, ?_⟩;have af:X.P.follows .mixedOrders=true:=(by rw [hP];exact T.mixed);clear aK aL)
 repeat' (first|fail|((first|((with_reducible (first|apply oA|apply oB));exact rfl;intro K hK)|(refine hK _ ?_;clear hK K)|((with_reducible (first|apply oG|apply oH));iterate 3 exact rfl)|((with_reducible apply oI);(iterate 2 exact rfl);intro K hK)|(with_reducible (first|apply wI|apply wJ|apply wK)));try simp only [go_sem,simprocAttr,iT])|fail|(with_reducible (first|apply oC|apply oJ|exact oK|apply wA|apply wB|apply wC hX hC|apply wD hX hC|apply wE hX hC af|apply wF hX hC af|apply wG|apply wH|apply And.intro))|((with_reducible refine oD ?_ ?_);first|fail|kernel_rfl)|((with_reducible (first|apply oE|apply oF));(iterate 3 exact rfl);all_goals (intro h;first|(exact absurd h (by decide))|((try simp only [go_sem,simprocAttr,iT] at h);(try with_reducible intro K hK);simp only [go_sem,simprocAttr,iT])))|((first|((with_reducible apply wL);exact rfl)|((with_reducible apply wM);exact rfl));all_goals (try ((with_reducible intro h);first|(exact absurd h (by decide))|(try simp only [go_sem,simprocAttr,iT] at h))))|omega|((first|refine aa hX hC hP (vQ ps x hl) rfl rfl rfl (by simp only [go_sem,simprocAttr,iT]) rfl ?_);try simp only [go_sem,simprocAttr,iT])|(intro h))
theorem j7 (ps:List Edge) (hl:ps.length≤1000000):
 Spec Tryz.prog 59 (Args [.d (sE ps)]) [] (.d (sE ps)) []:=by
 (refine Spec.intro (C:=T.cfg [] []) (rs:= [.t 2]) (T.ak _ _) Tryz.func59 rfl rfl Tryz.ntmps59 Tryz.results59 (by simp [AObj.isNest]) (by simp [AObj.isNest]) (by kernel_rfl) ?_;intro X hX hP hC aK aL vals hA;refine ⟨_,by simp,hA, ?_⟩;have af:X.P.follows .mixedOrders=true:=(by rw [hP];exact T.mixed);clear aK aL)
 repeat' (first|fail|((first|((with_reducible (first|apply oA|apply oB));exact rfl;intro K hK)|(refine hK _ ?_;clear hK K)|((with_reducible (first|apply oG|apply oH));iterate 3 exact rfl)|((with_reducible apply oI);(iterate 2 exact rfl);intro K hK)|(with_reducible (first|apply wI|apply wJ|apply wK)));try simp only [go_sem,simprocAttr])|fail|(with_reducible (first|apply oC|apply oJ|exact oK|apply wA|apply wB|apply wC hX hC|apply wD hX hC|apply wE hX hC af|apply wF hX hC af|apply wG|apply wH|apply And.intro))|((with_reducible refine oD ?_ ?_);first|fail|kernel_rfl)|((with_reducible (first|apply oE|apply oF));(iterate 3 exact rfl);all_goals (intro h;first|(exact absurd h (by decide))|((try simp only [go_sem,simprocAttr] at h);(try with_reducible intro K hK);simp only [go_sem,simprocAttr])))|((first|((with_reducible apply wL);exact rfl)|((with_reducible apply wM);exact rfl));all_goals (try ((with_reducible intro h);first|(exact absurd h (by decide))|(try simp only [go_sem,simprocAttr] at h))))|omega|((first|fail);try simp only [go_sem,simprocAttr])|(intro h))
 exact h.symm
theorem j8 (ps:List Int) (hl:ps.length≤1000000):
 Spec Tryz.prog 53 (Args [.d (sI ps)]) [] (.d (sI ps)) []:=by
 (refine Spec.intro (C:=T.cfg [] []) (rs:= [.t 2]) (T.ak _ _) Tryz.func53 rfl rfl Tryz.ntmps53 Tryz.results53 (by simp [AObj.isNest]) (by simp [AObj.isNest]) (by kernel_rfl) ?_;intro X hX hP hC aK aL vals hA;refine ⟨_,by simp,hA, ?_⟩;have af:X.P.follows .mixedOrders=true:=(by rw [hP];exact T.mixed);clear aK aL)
 repeat' (first|fail|((first|((with_reducible (first|apply oA|apply oB));exact rfl;intro K hK)|(refine hK _ ?_;clear hK K)|((with_reducible (first|apply oG|apply oH));iterate 3 exact rfl)|((with_reducible apply oI);(iterate 2 exact rfl);intro K hK)|(with_reducible (first|apply wI|apply wJ|apply wK)));try simp only [go_sem,simprocAttr])|fail|(with_reducible (first|apply oC|apply oJ|exact oK|apply wA|apply wB|apply wC hX hC|apply wD hX hC|apply wE hX hC af|apply wF hX hC af|apply wG|apply wH|apply And.intro))|((with_reducible refine oD ?_ ?_);first|fail|kernel_rfl)|((with_reducible (first|apply oE|apply oF));(iterate 3 exact rfl);all_goals (intro h;first|(exact absurd h (by decide))|((try simp only [go_sem,simprocAttr] at h);(try with_reducible intro K hK);simp only [go_sem,simprocAttr])))|((first|((with_reducible apply wL);exact rfl)|((with_reducible apply wM);exact rfl));all_goals (try ((with_reducible intro h);first|(exact absurd h (by decide))|(try simp only [go_sem,simprocAttr] at h))))|omega|((first|fail);try simp only [go_sem,simprocAttr])|(intro h))
 exact h.symm
theorem sS {α:Type} {xs ys:List α} (d:α) {k:Nat} (h1:k<xs.length) (h2:k<ys.length) (h:xs.take k=ys.take k) (he:xs.getD k d=ys.getD k d):xs.take (k+1)=ys.take (k+1):=by
 rw [List.take_add_one,List.take_add_one,h,List.getElem?_eq_getElem h1,List.getElem?_eq_getElem h2]
 simp only [List.getD_eq_getElem?_getD,List.getElem?_eq_getElem h1,List.getElem?_eq_getElem h2,Option.getD_some] at he
 rw [he]
theorem iA (xs ys:List Int) (hlen:xs.length≤9223372036854775807):Spec Tryz.prog 21 (Args [.d (sI xs), .d (sI ys)]) [] (eB (decide (xs=ys))) []:=by
 (refine Spec.intro (C:=T.cfg [] []) (rs:= [.t 4]) (T.ak _ _) Tryz.func21 rfl rfl Tryz.ntmps21 Tryz.results21 (by simp [AObj.isNest]) (by simp [AObj.isNest]) (by kernel_rfl) ?_;intro X hX hP hC aK aL vals hA;refine ⟨_,by simp,hA, ?_⟩;have af:X.P.follows .mixedOrders=true:=(by rw [hP];exact T.mixed);clear aK aL)
 repeat' (first|fail|((first|((with_reducible (first|apply oA|apply oB));exact rfl;intro K hK)|(refine hK _ ?_;clear hK K)|((with_reducible (first|apply oG|apply oH));iterate 3 exact rfl)|((with_reducible apply oI);(iterate 2 exact rfl);intro K hK)|(with_reducible (first|apply wI|apply wJ|apply wK)));try simp only [go_sem,simprocAttr])|fail|(with_reducible (first|apply oC|apply oJ|exact oK|apply wA|apply wB|apply wC hX hC|apply wD hX hC|apply wE hX hC af|apply wF hX hC af|apply wG|apply wH|apply And.intro))|((with_reducible refine oD ?_ ?_);first|fail|kernel_rfl)|((with_reducible (first|apply oE|apply oF));(iterate 3 exact rfl);all_goals (intro h;first|(exact absurd h (by decide))|((try simp only [go_sem,simprocAttr] at h);(try with_reducible intro K hK);simp only [go_sem,simprocAttr])))|((first|((with_reducible apply wL);exact rfl)|((with_reducible apply wM);exact rfl));all_goals (try ((with_reducible intro h);first|(exact absurd h (by decide))|(try simp only [go_sem,simprocAttr] at h))))|omega|((first|fail);try simp only [go_sem,simprocAttr])|(intro h))
 ·have:xs≠ys:=fun e=>h (by rw [e])
  simp [this]
 refine aj (fun k:Nat=>k≤xs.length∧xs.take k=ys.take k) (fun k=>⟨[(0, .d (sI xs)),(1, .d (sI ys)),(5,eN k)], []⟩) (fun k=>xs.length - k) 0 (by simp) ?_ ?_
 ·(refine ⟨bV ?_,fun _ _ h=>h⟩;simp [go_sem,simprocAttr])
 rintro k ⟨hk,hp⟩
 have zh:xs.length=ys.length:=by omega
 repeat' (first|fail|((first|((with_reducible (first|apply oA|apply oB));exact rfl;intro K hK)|(refine hK _ ?_;clear hK K)|((with_reducible (first|apply oG|apply oH));iterate 3 exact rfl)|((with_reducible apply oI);(iterate 2 exact rfl);intro K hK)|(with_reducible (first|apply wI|apply wJ|apply wK)));try simp only [go_sem,simprocAttr])|fail|(with_reducible (first|apply oC|apply oJ|exact oK|apply wA|apply wB|apply wC hX hC|apply wD hX hC|apply wE hX hC af|apply wF hX hC af|apply wG|apply wH|apply And.intro))|((with_reducible refine oD ?_ ?_);first|fail|kernel_rfl)|((with_reducible (first|apply oE|apply oF));(iterate 3 exact rfl);all_goals (intro h;first|(exact absurd h (by decide))|((try simp only [go_sem,simprocAttr] at h);(try with_reducible intro K hK);simp only [go_sem,simprocAttr])))|((first|((with_reducible apply wL);exact rfl)|((with_reducible apply wM);exact rfl));all_goals (try ((with_reducible intro h);first|(exact absurd h (by decide))|(try simp only [go_sem,simprocAttr] at h))))|omega|((first|fail);try simp only [go_sem,simprocAttr])|(intro h))
 ·have:xs≠ys:=fun e=>h (by rw [e])
  simp [this]
 ·refine ⟨k+1,⟨by omega,sS 0 (by omega) (by omega) hp h⟩, ?_,by omega⟩
  (refine ⟨bV ?_,fun _ _ h=>h⟩;simp [go_sem,simprocAttr])
 ·have:k=xs.length:=by omega
  subst this
  rw [List.take_of_length_le (Nat.le_refl _),List.take_of_length_le (by omega)] at hp
  simp [hp]
theorem BA {α:Type} {f:α→Bool} {xs:List α} (d:α) {k:Nat} (h1:k<xs.length) (h:(xs.take k).any f=false) (he:f (xs.getD k d)=false):(xs.take (k+1)).any f=false:=by
 rw [List.take_add_one,List.any_append,h,List.getElem?_eq_getElem h1]
 simp only [List.getD_eq_getElem?_getD,List.getElem?_eq_getElem h1,Option.getD_some] at he
 simp [he]
theorem Fe {α:Type} {f:α→Bool} {xs:List α} {d:α} {k:Nat} (h1:k<xs.length) (he:f (xs.getD k d)=true):xs.any f=true:=by
 rw [List.any_eq_true]
 refine ⟨_,List.getElem_mem h1, ?_⟩
 simpa only [List.getD_eq_getElem?_getD,List.getElem?_eq_getElem h1,Option.getD_some] using he
theorem vR {g:Gr} {k:Nat} (h1:k<g.es.length) (he:mL g (g.es.getD k (0,0))=true):false=aO g:=by
 simp [aO,Fe h1 he]
theorem cw (g:Gr) (hl:g.es.length≤9223372036854775807):Spec Tryz.prog 63 (Args [eG g]) [] (eB (aO g)) []:=by
 (refine Spec.intro (C:=T.cfg [] []) (rs:= [.t 2]) (T.ak _ _) Tryz.func63 rfl rfl Tryz.ntmps63 Tryz.results63 (by simp [AObj.isNest]) (by simp [AObj.isNest]) (by kernel_rfl) ?_;intro X hX hP hC aK aL vals hA;refine ⟨_,by simp,hA, ?_⟩;have af:X.P.follows .mixedOrders=true:=(by rw [hP];exact T.mixed);clear aK aL)
 repeat' (first|fail|((first|((with_reducible (first|apply oA|apply oB));exact rfl;intro K hK)|(refine hK _ ?_;clear hK K)|((with_reducible (first|apply oG|apply oH));iterate 3 exact rfl)|((with_reducible apply oI);(iterate 2 exact rfl);intro K hK)|(with_reducible (first|apply wI|apply wJ|apply wK)));try simp only [go_sem,simprocAttr])|fail|(with_reducible (first|apply oC|apply oJ|exact oK|apply wA|apply wB|apply wC hX hC|apply wD hX hC|apply wE hX hC af|apply wF hX hC af|apply wG|apply wH|apply And.intro))|((with_reducible refine oD ?_ ?_);first|fail|kernel_rfl)|((with_reducible (first|apply oE|apply oF));(iterate 3 exact rfl);all_goals (intro h;first|(exact absurd h (by decide))|((try simp only [go_sem,simprocAttr] at h);(try with_reducible intro K hK);simp only [go_sem,simprocAttr])))|((first|((with_reducible apply wL);exact rfl)|((with_reducible apply wM);exact rfl));all_goals (try ((with_reducible intro h);first|(exact absurd h (by decide))|(try simp only [go_sem,simprocAttr] at h))))|omega|((first|fail);try simp only [go_sem,simprocAttr])|(intro h))
 any_goals (simp [aO];omega)
 refine aj (fun k:Nat=>k≤g.es.length∧(g.es.take k).any (mL g)=false) (fun k=>⟨[(1, .ptr 1 0),(3,eN k)], [(1, .box [eN g.n, .d (sE g.es)])]⟩) (fun k=>g.es.length - k) 0 (by simp) ?_ ?_
 ·(refine Le.of ?_ ?_<;>simp [go_sem,simprocAttr])
 rintro k ⟨hk,hp⟩
 repeat' (first|fail|((first|((with_reducible (first|apply oA|apply oB));exact rfl;intro K hK)|(refine hK _ ?_;clear hK K)|((with_reducible (first|apply oG|apply oH));iterate 3 exact rfl)|((with_reducible apply oI);(iterate 2 exact rfl);intro K hK)|(with_reducible (first|apply wI|apply wJ|apply wK)));try simp only [go_sem,simprocAttr])|fail|(with_reducible (first|apply oC|apply oJ|exact oK|apply wA|apply wB|apply wC hX hC|apply wD hX hC|apply wE hX hC af|apply wF hX hC af|apply wG|apply wH|apply And.intro))|((with_reducible refine oD ?_ ?_);first|fail|kernel_rfl)|((with_reducible (first|apply oE|apply oF));(iterate 3 exact rfl);all_goals (intro h;first|(exact absurd h (by decide))|((try simp only [go_sem,simprocAttr] at h);(try with_reducible intro K hK);simp only [go_sem,simprocAttr])))|((first|((with_reducible apply wL);exact rfl)|((with_reducible apply wM);exact rfl));all_goals (try ((with_reducible intro h);first|(exact absurd h (by decide))|(try simp only [go_sem,simprocAttr] at h))))|omega|((first|fail);try simp only [go_sem,simprocAttr])|(intro h))
 any_goals (refine vR (k:=k) (by omega) ?_;simp only [mL,sw,Bool.or_eq_true,decide_eq_true_eq];omega)
 ·refine ⟨k+1,⟨by omega,BA (0,0) (by omega) hp ?_⟩, ?_,by omega⟩
  ·simp only [mL,sw,Bool.or_eq_false_iff,decide_eq_false_iff_not];omega
  ·(refine Le.of ?_ ?_<;>simp [go_sem,simprocAttr])
 ·rw [List.take_of_length_le (by omega)] at hp
  simp [aO,hp];omega
end Go.Ab
end
section
namespace Go.Ab
open Go.Proofs
attribute [local congr] ACall.congr
set_option maxRecDepth 10000
set_option maxHeartbeats 8000000
def ej (f:Edge→Int) (es:List Edge) (k:Nat) (x:Nat):List Int:=((List.range k).filter fun i=>decide (f (es.getD i (0,0))=(x:Int))).map Int.ofNat
def lz (f:Edge→Int) (es:List Edge) (n k:Nat):List (List (List D)):=(List.range n).map fun x=>(ej f es k x).map rI
def sL (ls:List (List Int)):D:= .sl 1 (ls.map fun l=> [sI l])
def cD (f:Edge→Int) (g:Gr):List (List Int):=(List.range g.n.toNat).map (ej f g.es g.es.length)
def vw (g:Gr):D:= .pt [.sc (.int .i64 g.n),sE g.es,sL (cD (·.1) g),sL (cD (·.2) g)]
theorem aW {g:Gr} (h:aO g=true):0<g.n∧g.n≤64∧g.es.length≤128:=by
 simp [aO] at h;omega
theorem c9 {g:Gr} (h:aO g=true) {k:Nat} (hk:k<g.es.length):(0≤(g.es.getD k (0,0)).1∧(g.es.getD k (0,0)).1<g.n)∧(0≤(g.es.getD k (0,0)).2∧(g.es.getD k (0,0)).2<g.n):=by
 have h2:=vR (g:=g) hk
 rw [h] at h2
 have h3:¬mL g (g.es.getD k (0,0))=true:=fun e=>by simpa using h2 e
 simp only [mL,sw,Bool.or_eq_true,decide_eq_true_eq] at h3
 omega
theorem bq {f:Edge→Int} {es:List Edge} {n k:Nat} :(lz f es n k).length=n:=by simp [lz]
theorem iU {f:Edge→Int} {es:List Edge} {n k x:Nat} (hx:x<n):(lz f es n k)[x]? =some ((ej f es k x).map rI):=by
 simp [lz,List.getElem?_range hx]
theorem gv {f:Edge→Int} {es:List Edge} {k x:Nat} :(ej f es k x).length≤k:=by
 simpa [ej] using List.length_filter_le (fun i=>decide (f (es.getD i (0,0))=(x:Int))) (List.range k)
theorem xE {f:Edge→Int} {es:List Edge} {k x:Nat} :ej f es (k+1) x=ej f es k x++if f (es.getD k (0,0))=(x:Int) then [(k:Int)] else []:=by
 simp only [ej,List.range_succ,List.filter_append,List.map_append,List.filter_cons,List.filter_nil]
 split<;>simp_all
theorem qN {f:Edge→Int} {es:List Edge} {n k:Nat} (h0:0≤f (es.getD k (0,0))):
 (lz f es n k).set (f (es.getD k (0,0))).toNat ((ej f es k (f (es.getD k (0,0))).toNat).map rI++ [[.sc (.int .i64 k)]])=lz f es n (k+1):=by
 refine List.ext_getElem? fun i=> ?_
 rw [List.getElem?_set,bq]
 by_cases hi:i<n
 ·rw [iU hi,iU hi,xE]
  generalize f (es.getD k (0,0))=e at*
  by_cases hq:e=(i:Int)
  ·subst hq;simp [hi,rI]
  ·have:¬e.toNat=i:=by omega
   simp [hq,this]
 ·rw [List.getElem?_eq_none (by rw [bq];omega),List.getElem?_eq_none (by rw [bq];omega)]
  generalize f (es.getD k (0,0))=e at*
  split
  ·rename_i hq;rw [if_neg (by omega)]
  ·rfl
theorem qO {f:Edge→Int} {es:List Edge} {n:Nat} :List.replicate n []=lz f es n 0:=by
 refine List.ext_getElem? fun i=> ?_
 by_cases hi:i<n
 ·rw [iU hi];simp [hi,ej]
 ·rw [List.getElem?_eq_none (by simp;omega),List.getElem?_eq_none (by rw [bq];omega)]
theorem eR (g:Gr) (hm:aO g=true):Spec Tryz.prog 26 (Args [eG g]) [] (.d (vw g)) []:=by
 have hn:=aW hm
 have hl:g.es.length≤9223372036854775807:=by omega
 have hl':g.es.length≤1000000:=by omega
 (refine Spec.intro (C:=T.cfg [] [13,16]) (rs:= [.t 2]) (T.ak _ _) Tryz.func26 rfl rfl Tryz.ntmps26 Tryz.results26 (by simp [AObj.isNest]) (by simp [AObj.isNest]) (by kernel_rfl) ?_;intro X hX hP hC aK aL vals hA;refine ⟨_,by simp,hA, ?_⟩;have af:X.P.follows .mixedOrders=true:=(by rw [hP];exact T.mixed);clear aK aL)
 repeat' (first|fail|((first|((with_reducible (first|apply oA|apply oB));exact rfl;intro K hK)|(refine hK _ ?_;clear hK K)|((with_reducible (first|apply oG|apply oH));iterate 3 exact rfl)|((with_reducible apply oI);(iterate 2 exact rfl);intro K hK)|(with_reducible (first|apply wI|apply wJ|apply wK)));try simp only [go_sem,simprocAttr,hm])|fail|(with_reducible (first|apply oC|apply oJ|exact oK|apply wA|apply wB|apply wC hX hC|apply wD hX hC|apply wE hX hC af|apply wF hX hC af|apply wG|apply wH|apply And.intro))|((with_reducible refine oD ?_ ?_);first|fail|kernel_rfl)|((with_reducible (first|apply oE|apply oF));(iterate 3 exact rfl);all_goals (intro h;first|(exact absurd h (by decide))|((try simp only [go_sem,simprocAttr,hm] at h);(try with_reducible intro K hK);simp only [go_sem,simprocAttr,hm])))|((first|((with_reducible apply wL);exact rfl)|((with_reducible apply wM);exact rfl));all_goals (try ((with_reducible intro h);first|(exact absurd h (by decide))|(try simp only [go_sem,simprocAttr,hm] at h))))|omega|((first|first|refine aa hX hC hP (eP g hl) rfl rfl rfl (by simp only [go_sem,simprocAttr,hm]) rfl ?_|refine aa hX hC hP (j7 g.es hl') rfl rfl rfl (by simp only [go_sem,simprocAttr,hm]) rfl ?_);try simp only [go_sem,simprocAttr,hm])|(intro h))
 refine vM hX 13 (by simp [go_sem,simprocAttr,hm];exact ⟨rfl,rfl,rfl,rfl⟩) (by decide) (by simp [go_sem,simprocAttr,hm]) (by simp [go_sem,simprocAttr,hm]) ?_
 refine vM hX 16 (by simp [go_sem,simprocAttr,hm];exact ⟨rfl,rfl,rfl,rfl⟩) (by decide) (by simp [go_sem,simprocAttr,hm]) (by simp [go_sem,simprocAttr,hm]) ?_
 simp only [go_sem,simprocAttr,hm]
 refine aj (fun k:Nat=>k≤g.es.length) (fun k=>⟨[(29,eN k),(28,eN g.es.length),(27, .d (sE g.es)),(3, .ptr 18 0)], [(18, .box [eN g.n, .d (sE g.es), .ref 13, .ref 16]),(16, .nest 25 3 1 (lz (·.2) g.es g.n.toNat k) none),(13, .nest 25 3 1 (lz (·.1) g.es g.n.toNat k) none)]⟩) (fun k=>g.es.length - k) 0 (by simp) ?_ ?_
 ·refine Le.of ?_ ?_<;>simp [go_sem,simprocAttr,hm]
  exact ⟨qO,qO⟩
 rintro k hk
 rcases Nat.lt_or_ge k g.es.length with hlt|hge
 ·have hb:decide ((k:Int)<(g.es.length:Int))=true:=decide_eq_true (by omega)
  obtain ⟨sM,w5⟩:=c9 hm hlt
  have DA:=iU (f:=(·.1)) (es:=g.es) (k:=k) (show (g.es.getD k (0,0)).1.toNat<g.n.toNat by omega)
  have DB:=iU (f:=(·.2)) (es:=g.es) (k:=k) (show (g.es.getD k (0,0)).2.toNat<g.n.toNat by omega)
  have sx:=gv (f:=(·.1)) (es:=g.es) (k:=k) (x:=(g.es.getD k (0,0)).1.toNat)
  have um:=gv (f:=(·.2)) (es:=g.es) (k:=k) (x:=(g.es.getD k (0,0)).2.toNat)
  repeat' (first|fail|((first|((with_reducible (first|apply oA|apply oB));exact rfl;intro K hK)|(refine hK _ ?_;clear hK K)|((with_reducible (first|apply oG|apply oH));iterate 3 exact rfl)|((with_reducible apply oI);(iterate 2 exact rfl);intro K hK)|(with_reducible (first|apply wI|apply wJ|apply wK)));try simp only [go_sem,simprocAttr,hm,hb,DA,DB,bq])|fail|(with_reducible (first|apply oC|apply oJ|exact oK|apply wA|apply wB|apply wC hX hC|apply wD hX hC|apply wE hX hC af|apply wF hX hC af|apply wG|apply wH|apply And.intro))|((with_reducible refine oD ?_ ?_);first|(focus (simp only [w6,kP,fW,meets,qB,nM,zo,dw,mI,lu,Rec.rs,Rec.nF,Rec.Eg,eM,Rec.cJ,Rec.names,KV.ids,Bp,Bq,Bt,Bu,Bv,Bw,List.zip_cons_cons,List.zip_nil_right,List.zipIdx_cons,List.zipIdx_nil,List.all_cons,List.all_nil,List.contains_cons,List.contains_nil,List.any_cons,List.any_nil,List.flatMap_nil,List.reverse_cons,List.reverse_nil,iy,Ax,Region.binds,go_sem,simprocAttr,hm,hb,DA,DB,bq];done))|kernel_rfl)|((with_reducible (first|apply oE|apply oF));(iterate 3 exact rfl);all_goals (intro h;first|(exact absurd h (by decide))|((try simp only [go_sem,simprocAttr,hm,hb,DA,DB,bq] at h);(try with_reducible intro K hK);simp only [go_sem,simprocAttr,hm,hb,DA,DB,bq])))|((first|((with_reducible apply wL);exact rfl)|((with_reducible apply wM);exact rfl));all_goals (try ((with_reducible intro h);first|(exact absurd h (by decide))|(try simp only [go_sem,simprocAttr,hm,hb,DA,DB,bq] at h))))|omega|((first|first|refine aa hX hC hP (eP g hl) rfl rfl rfl (by simp only [go_sem,simprocAttr,hm,hb,DA,DB,bq]) rfl ?_|refine aa hX hC hP (j7 g.es hl') rfl rfl rfl (by simp only [go_sem,simprocAttr,hm,hb,DA,DB,bq]) rfl ?_);try simp only [go_sem,simprocAttr,hm,hb,DA,DB,bq])|(intro h))
  refine ⟨k+1,by omega, ?_,by omega⟩
  refine Le.of ?_ ?_<;>simp [go_sem,simprocAttr,hm,hb,DA,DB,bq]
  exact ⟨qN (f:=(·.2)) w5.1,qN (f:=(·.1)) sM.1⟩
 ·repeat' (first|fail|((first|((with_reducible (first|apply oA|apply oB));exact rfl;intro K hK)|(refine hK _ ?_;clear hK K)|((with_reducible (first|apply oG|apply oH));iterate 3 exact rfl)|((with_reducible apply oI);(iterate 2 exact rfl);intro K hK)|(with_reducible (first|apply wI|apply wJ|apply wK)));try simp only [go_sem,simprocAttr])|fail|(with_reducible (first|apply oC|apply oJ|exact oK|apply wA|apply wB|apply wC hX hC|apply wD hX hC|apply wE hX hC af|apply wF hX hC af|apply wG|apply wH|apply And.intro))|((with_reducible refine oD ?_ ?_);first|(focus (simp only [w6,kP,fW,meets,qB,nM,zo,dw,mI,lu,Rec.rs,Rec.nF,Rec.Eg,eM,Rec.cJ,Rec.names,KV.ids,Bp,Bq,Bt,Bu,Bv,Bw,List.zip_cons_cons,List.zip_nil_right,List.zipIdx_cons,List.zipIdx_nil,List.all_cons,List.all_nil,List.contains_cons,List.contains_nil,List.any_cons,List.any_nil,List.flatMap_nil,List.reverse_cons,List.reverse_nil,iy,Ax,Region.binds,go_sem,simprocAttr];done))|kernel_rfl)|((with_reducible (first|apply oE|apply oF));(iterate 3 exact rfl);all_goals (intro h;first|(exact absurd h (by decide))|((try simp only [go_sem,simprocAttr] at h);(try with_reducible intro K hK);simp only [go_sem,simprocAttr])))|((first|((with_reducible apply wL);exact rfl)|((with_reducible apply wM);exact rfl));all_goals (try ((with_reducible intro h);first|(exact absurd h (by decide))|(try simp only [go_sem,simprocAttr] at h))))|omega|((first|first|refine aa hX hC hP (eP g hl) rfl rfl rfl (by simp only [go_sem,simprocAttr]) rfl ?_|refine aa hX hC hP (j7 g.es hl') rfl rfl rfl (by simp only [go_sem,simprocAttr]) rfl ?_);try simp only [go_sem,simprocAttr])|(intro h))
  have:k=g.es.length:=by omega
  subst this
  simp only [vw,sE,sL,cD,lz,List.map_map]
  rfl
end Go.Ab
end
section
namespace Go.Ab
open Go.Proofs
attribute [local congr] ACall.congr
set_option maxRecDepth 10000
def tl (g:Gr) (i:Nat):Int:=(g.es.getD i (0,0)).1
def hd (g:Gr) (i:Nat):Int:=(g.es.getD i (0,0)).2
def wt (g:Gr) (out:List Int) (y:Nat):Int:=
 if (y:Int)∈out then -1 else (((List.range g.es.length).countP fun i=>decide (hd g i=(y:Int))&& !decide (tl g i∈out):Nat):Int)
def b8 (g:Gr) (out:List Int):List Int:=(List.range g.n.toNat).map (wt g out)
def sy (g:Gr):Nat→List Int→List Int
 |0,out=>out
 |f+1,out=>if c7 (b8 g out) 0<0 then out else sy g f (out++ [c7 (b8 g out) 0])
def aG (g:Gr):List Int:=sy g g.n.toNat []
structure dK (g:Gr) (out:List Int):Prop where
 lo:∀x∈out,0≤x∧x<g.n
 back:∀i,i<g.es.length→hd g i∈out→tl g i∈out
 fuel:out.length+(List.range g.n.toNat).countP (fun y:Nat=> !decide ((y:Int)∈out))=g.n.toNat
theorem fy {α:Type} {f:α→Bool} {l:List α} (d:α):bJ f l= -1∧(∀x∈l,f x=false)∨∃k:Nat,bJ f l=k∧k<l.length∧f (l.getD k d)=true∧∀j,j<k→f (l.getD j d)=false:=by
 cases h:l.findIdx? f with
 |none=>
  rw [List.findIdx?_eq_none_iff] at h
  exact .inl ⟨by simp [bJ,List.findIdx?_eq_none_iff.2 h],h⟩
 |some i=>
  obtain ⟨hi,hg,hb⟩:=List.findIdx?_eq_some_iff_getElem.1 h
  refine .inr ⟨i,by simp [bJ,h],hi,by simpa [List.getD_eq_getElem?_getD,List.getElem?_eq_getElem hi] using hg,fun j hj=> ?_⟩
  have hjl:j<l.length:=by omega
  have:=hb j hj
  simpa [List.getD_eq_getElem?_getD,List.getElem?_eq_getElem hjl] using this
theorem wts_length {g:Gr} {out:List Int} :(b8 g out).length=g.n.toNat:=by simp [b8]
theorem j9 {g:Gr} {out:List Int} {y:Nat} (h:y<g.n.toNat) (d:Int):(b8 g out).getD y d=wt g out y:=by
 simp [b8,List.getD_eq_getElem?_getD,List.getElem?_range h]
theorem ke {p:Nat→Bool} {x:Nat} (hx:p x=true):∀ {n:Nat},x<n→(List.range n).countP (fun y=>p y&& !decide (y=x))+1=(List.range n).countP p
 |0,h=>by omega
 |n+1,h=>by
  rw [List.range_succ,List.countP_append,List.countP_append]
  by_cases zE:x=n
  ·subst zE
   have:(List.range x).countP (fun y=>p y&& !decide (y=x))=(List.range x).countP p:=by
    refine List.countP_congr fun y hy=> ?_
    have:y≠x:=by have:=List.mem_range.1 hy;omega
    simp [this]
   rw [this]
   simp [List.countP_cons,hx]
  ·have:=ke hx (n:=n) (by omega)
   have hn:n≠x:=fun e=>zE e.symm
   simp only [List.countP_cons,List.countP_nil,hn,decide_false,Bool.not_false,Bool.and_true]
   omega
theorem dK.nil (g:Gr):dK g []:=⟨by simp,by simp,by rw [List.countP_eq_length_filter,List.filter_eq_self.2 (by simp)];simp⟩
theorem dK.next {g:Gr} (hm:aO g=true) {out:List Int} (h:dK g out) {x:Nat} (hx:x<g.n.toNat) (hw:wt g out x=0):dK g (out++ [(x:Int)])∧(x:Int)∉out∧(∀i,i<g.es.length→hd g i=x→tl g i∈out):=by
 have j5:(x:Int)∉out:=fun hi=>by simp [wt,hi] at hw
 have hb:∀i,i<g.es.length→hd g i=x→tl g i∈out:=by
  intro i hi he
  simp only [wt,j5,if_false] at hw
  have:=List.countP_eq_zero.1 (Int.ofNat.inj hw) i (List.mem_range.2 hi)
  simpa [he] using this
 refine ⟨⟨?_, ?_, ?_⟩,j5,hb⟩
 ·intro y hy
  rcases List.mem_append.1 hy with hy|hy
  ·exact h.lo y hy
  ·simp at hy;omega
 ·intro i hi hh
  rcases List.mem_append.1 hh with hh|hh
  ·exact List.mem_append_left _ (h.back i hi hh)
  ·simp at hh
   exact List.mem_append_left _ (hb i hi hh)
 ·have h1:=h.fuel
  have h2:=ke (p:=fun y:Nat=> !decide ((y:Int)∈out)) (x:=x) (by simp [j5]) hx
  have h3:(List.range g.n.toNat).countP (fun y:Nat=> !decide ((y:Int)∈out++ [(x:Int)]))=(List.range g.n.toNat).countP (fun y:Nat=>(!decide ((y:Int)∈out))&& !decide (y=x)):=by
   refine List.countP_congr fun y _=> ?_
   simp;omega
  rw [h3,List.length_append,List.length_singleton]
  omega
def gV (g:Gr) (x:Nat):List Int:=ej (·.1) g.es g.es.length x
def nO (g:Gr) (x:Nat):List Int:=ej (·.2) g.es g.es.length x
theorem BB {g:Gr} {x:Nat} {e:Int} (h:e∈gV g x):∃i:Nat,e=i∧i<g.es.length∧tl g i=x:=by
 simp only [gV,ej,List.mem_map,List.mem_filter,List.mem_range,decide_eq_true_eq] at h
 obtain ⟨i,⟨h1,h2⟩,rfl⟩:=h
 exact ⟨i,rfl,h1,h2⟩
def Ay (g:Gr) (out:List Int) (x j y:Nat):Int:=
 if (y:Int)∈out++ [(x:Int)] then -1 else (((List.range g.es.length).countP fun i=>decide (hd g i=(y:Int))&& !decide (tl g i∈out):Nat):Int) - (((gV g x).take j).countP fun e=>decide (hd g e.toNat=(y:Int)):Nat)
def sC (g:Gr) (out:List Int) (x j:Nat):List Int:=(List.range g.n.toNat).map (Ay g out x j)
theorem wtps_length {g:Gr} {out:List Int} {x j:Nat} :(sC g out x j).length=g.n.toNat:=by simp [sC]
theorem mM {g:Gr} {out:List Int} {x j y:Nat} (h:y<g.n.toNat):(sC g out x j)[y]? =some (Ay g out x j y):=by
 simp [sC,List.getElem?_range h]
theorem jB {g:Gr} {out:List Int} {y:Nat} (h:y<g.n.toNat):(b8 g out)[y]? =some (wt g out y):=by
 simp [b8,List.getElem?_range h]
theorem zF {g:Gr} {out:List Int} {x:Nat} :(b8 g out).set x (-1)=sC g out x 0:=by
 refine List.ext_getElem? fun i=> ?_
 rw [List.getElem?_set,wts_length]
 by_cases hi:i<g.n.toNat
 ·rw [jB hi,mM hi]
  by_cases hx:x=i
  ·subst hx;simp [hi,Ay]
  ·have:¬i=x:=fun e=>hx e.symm
   simp only [hx,if_false,Ay,wt,List.mem_append,List.mem_singleton,List.take_zero,List.countP_nil]
   have h2:¬(i:Int)=(x:Int):=by omega
   simp [h2]
 ·rw [List.getElem?_eq_none (by rw [wts_length];omega),List.getElem?_eq_none (by rw [wtps_length];omega)]
  split
  ·rw [if_neg (by omega)]
  ·rfl
theorem jC {α:Type} {p q r:α→Bool} :∀ {l:List α},(∀a∈l,p a=(q a||r a)∧(q a&&r a)=false)→l.countP p=l.countP q+l.countP r
 | [],_=>rfl
 |a::l,h=>by
  obtain ⟨h1,h2⟩:=h a List.mem_cons_self
  have:=jC (l:=l) fun b hb=>h b (List.mem_cons_of_mem _ hb)
  simp only [List.countP_cons,this,h1]
  cases hq:q a<;>cases hr:r a<;>simp [hq,hr] at h2 ⊢ <;>omega
theorem BC {g:Gr} {out:List Int} {x j:Nat} (hx:(x:Int)∉out) (hj:(gV g x).length≤j):sC g out x j=b8 g (out++ [(x:Int)]):=by
 refine List.map_congr_left fun y _=> ?_
 simp only [Ay,wt]
 split
 ·rfl
 ·rw [List.take_of_length_le hj]
  have h1:(gV g x).countP (fun e=>decide (hd g e.toNat=(y:Int)))=(List.range g.es.length).countP (fun i=>decide (hd g i=(y:Int))&&decide (tl g i=(x:Int))):=by
   simp only [gV,ej,List.countP_map,List.countP_filter]
   exact List.countP_congr fun i _=>by simp [tl]
  have h2:=jC (p:=fun i=>decide (hd g i=(y:Int))&& !decide (tl g i∈out)) (q:=fun i=>decide (hd g i=(y:Int))&& !decide (tl g i∈out++ [(x:Int)])) (r:=fun i=>decide (hd g i=(y:Int))&&decide (tl g i=(x:Int))) (l:=List.range g.es.length) (fun i _=>by
   by_cases h3:tl g i=x
   ·simp [h3,hx]
   ·simp [h3])
  rw [h1,h2];omega
theorem Ff {g:Gr} {out:List Int} {x:Nat} (hP:dK g out) (j5:(x:Int)∉out) (hb:∀i,i<g.es.length→hd g i=x→tl g i∈out) {i:Nat} (hi:i<g.es.length) (ht:tl g i=x):hd g i∉out++ [(x:Int)]:=by
 intro h
 rcases List.mem_append.1 h with h|h
 ·exact j5 (ht ▸ hP.back i hi h)
 ·simp at h
  exact j5 (ht ▸ hb i hi h)
theorem zG {g:Gr} {out:List Int} {x j i:Nat} (hj:(gV g x)[j]? =some (i:Int)) (h0:0≤hd g i) (hn:hd g i∉out++ [(x:Int)]):
 (sC g out x j).set (hd g i).toNat (Ay g out x j (hd g i).toNat - 1)=sC g out x (j+1):=by
 refine List.ext_getElem? fun y=> ?_
 rw [List.getElem?_set,wtps_length]
 by_cases hy:y<g.n.toNat
 ·rw [mM hy,mM hy]
  have ht:((gV g x).take (j+1)).countP (fun e=>decide (hd g e.toNat=(y:Int)))=((gV g x).take j).countP (fun e=>decide (hd g e.toNat=(y:Int)))+if hd g i=(y:Int) then 1 else 0:=by
   rw [List.take_add_one,List.countP_append,hj]
   simp [List.countP_cons]
  by_cases hq:(hd g i).toNat=y
  ·subst hq
   have he:((hd g i).toNat:Int)=hd g i:=by omega
   rw [if_pos rfl,if_pos (by assumption)]
   rw [he,if_pos rfl] at ht
   simp only [Ay,he,hn,if_false,ht]
   congr 1;omega
  ·rw [if_neg hq]
   have ld:¬hd g i=(y:Int):=by omega
   simp only [Ay,ht,ld,if_false,Nat.add_zero]
 ·rw [List.getElem?_eq_none (by rw [wtps_length];omega),List.getElem?_eq_none (by rw [wtps_length];omega)]
  split
  ·rw [if_neg (by omega)]
  ·rfl
def DC (f:Edge→Int) (g:Gr):List (List D):=(cD f g).map fun l=> [sI l]
theorem mN {f:Edge→Int} {g:Gr} {x:Nat} (h:x<g.n.toNat) (d:List D):(DC f g).getD x d= [sI (ej f g.es g.es.length x)]:=by
 simp [DC,cD,List.getD_eq_getElem?_getD,List.getElem?_range h]
theorem vwl_length {f:Edge→Int} {g:Gr} :(DC f g).length=g.n.toNat:=by simp [DC,cD]
def F3 (g:Gr):D:= .pt [.sc (.int .i64 g.n),sE g.es, .sl 1 (DC (·.1) g), .sl 1 (DC (·.2) g)]
theorem ah (g:Gr):vw g=F3 g:=rfl
attribute [go_sem] F3 wtps_length wts_length vwl_length
theorem BD {g:Gr} {k:Nat} (h:k<g.n.toNat):(b8 g []).take (k+1)=(b8 g []).take k++ [((nO g k).length:Int)]:=by
 rw [List.take_add_one,jB h]
 simp [wt,nO,ej,hd,List.countP_eq_length_filter]
theorem zH {g:Gr} (hm:aO g=true) {out:List Int} {x j y:Nat} : -1000≤Ay g out x j y∧Ay g out x j y≤1000:=by
 have hn:=aW hm
 have h1:=List.countP_le_length (p:=fun i=>decide (hd g i=(y:Int))&& !decide (tl g i∈out)) (l:=List.range g.es.length)
 have h2:=List.countP_le_length (p:=fun e:Int=>decide (hd g e.toNat=(y:Int))) (l:=(gV g x).take j)
 have h3:((gV g x).take j).length≤g.es.length:=Nat.le_trans (List.length_take_le' _ _) gv
 simp only [List.length_range] at h1
 unfold Ay
 split<;>omega
theorem vS {g:Gr} {out:List Int} (h:c7 (b8 g out) 0<0):∀f,sy g f out=out
 |0=>rfl
 |f+1=>by simp [sy,h]
def left (g:Gr) (out:List Int):Nat:=(List.range g.n.toNat).countP (fun y:Nat=> !decide ((y:Int)∈out))
theorem sV {g:Gr} {out:List Int} {x:Nat} (h:dK g out) (h':dK g (out++ [(x:Int)])):left g out=left g (out++ [(x:Int)])+1:=by
 have h1:=h.fuel
 have h2:=h'.fuel
 rw [List.length_append,List.length_singleton] at h2
 unfold left;omega
theorem IV {g:Gr} (out:List Int):c7 (b8 g out) 0= -1∨∃x:Nat,c7 (b8 g out) 0=x∧x<g.n.toNat∧wt g out x=0:=by
 rcases fy (f:=fun y:Int=>decide (0=y)) (l:=b8 g out) 0 with ⟨h,_⟩|⟨k,h1,h2,h3,_⟩
 ·exact .inl h
 ·rw [wts_length] at h2
  rw [j9 h2] at h3
  exact .inr ⟨k,h1,h2,by simpa using (of_decide_eq_true h3).symm⟩
theorem fN (g:Gr) (hm:aO g=true):Spec Tryz.prog 60 (Args [.d (vw g)]) [] (.tup [.d (sI (aG g)), .d (sI (b8 g (aG g)))]) []:=by
 rw [ah]
 have hn:=aW hm
 (refine Spec.intro (C:=T.cfg [22] []) (rs:= [.t 2, .t 3]) (T.ak _ _) Tryz.func60 rfl rfl Tryz.ntmps60 Tryz.results60 (by simp [AObj.isNest]) (by simp [AObj.isNest]) (by kernel_rfl) ?_;intro X hX hP hC aK aL vals hA;refine ⟨_,by simp,hA, ?_⟩;have af:X.P.follows .mixedOrders=true:=(by rw [hP];exact T.mixed);clear aK aL)
 repeat' (first|fail|((first|((with_reducible (first|apply oA|apply oB));exact rfl;intro K hK)|(refine hK _ ?_;clear hK K)|((with_reducible (first|apply oG|apply oH));iterate 3 exact rfl)|((with_reducible apply oI);(iterate 2 exact rfl);intro K hK)|(with_reducible (first|apply wI|apply wJ|apply wK)));try simp only [go_sem,simprocAttr])|fail|(with_reducible (first|apply oC|apply oJ|exact oK|apply wA|apply wB|apply wC hX hC|apply wD hX hC|apply wE hX hC af|apply wF hX hC af|apply wG|apply wH|apply And.intro))|((with_reducible refine oD ?_ ?_);first|fail|kernel_rfl)|((with_reducible (first|apply oE|apply oF));(iterate 3 exact rfl);all_goals (intro h;first|(exact absurd h (by decide))|((try simp only [go_sem,simprocAttr] at h);(try with_reducible intro K hK);simp only [go_sem,simprocAttr])))|((first|((with_reducible apply wL);exact rfl)|((with_reducible apply wM);exact rfl));all_goals (try ((with_reducible intro h);first|(exact absurd h (by decide))|(try simp only [go_sem,simprocAttr] at h))))|omega|((first|(refine ai hX hC hP (aQ (b8 g out) 0 yA) rfl rfl rfl ?_ ?_ ?_ ?_;iterate 3 (focus (simp only [go_sem,simprocAttr];done))));try simp only [go_sem,simprocAttr])|(intro h))
 (refine jA hX 3 22 (.own 3 1 []) (by simp only [go_sem,simprocAttr]) (by simp only [go_sem,simprocAttr]) (by decide) ⟨3,1,by decide, .inl rfl⟩ ?_;simp only [go_sem,simprocAttr])
 refine aj (fun k:Nat=>k≤g.n.toNat) (fun k=>⟨[(14,eN k),(13,eN g.n.toNat),(12, .d (.sl 1 (DC (·.2) g))),(3, .ref 22),(2, .nil 3),(0, .d (F3 g))], [(22, .own 3 1 (((b8 g []).take k).map rI))]⟩) (fun k=>g.n.toNat - k) 0 (by simp) ?_ ?_
 ·(refine Le.of ?_ ?_<;>simp [go_sem,simprocAttr])
 ·rintro k hk
  rcases Nat.lt_or_ge k g.n.toNat with hlt|hge
  ·have hb:decide ((k:Int)<(g.n.toNat:Int))=true:=decide_eq_true (by omega)
   have hv:=mN (f:=(·.2)) hlt
   have sx:(nO g k).length≤g.es.length:=gv
   have hlt':((b8 g []).take k).length≤64:=by rw [List.length_take,wts_length];omega
   repeat' (first|fail|((first|((with_reducible (first|apply oA|apply oB));exact rfl;intro K hK)|(refine hK _ ?_;clear hK K)|((with_reducible (first|apply oG|apply oH));iterate 3 exact rfl)|((with_reducible apply oI);(iterate 2 exact rfl);intro K hK)|(with_reducible (first|apply wI|apply wJ|apply wK)));try simp only [go_sem,simprocAttr,hb,hv])|fail|(with_reducible (first|apply oC|apply oJ|exact oK|apply wA|apply wB|apply wC hX hC|apply wD hX hC|apply wE hX hC af|apply wF hX hC af|apply wG|apply wH|apply And.intro))|((with_reducible refine oD ?_ ?_);first|fail|kernel_rfl)|((with_reducible (first|apply oE|apply oF));(iterate 3 exact rfl);all_goals (intro h;first|(exact absurd h (by decide))|((try simp only [go_sem,simprocAttr,hb,hv] at h);(try with_reducible intro K hK);simp only [go_sem,simprocAttr,hb,hv])))|((first|((with_reducible apply wL);exact rfl)|((with_reducible apply wM);exact rfl));all_goals (try ((with_reducible intro h);first|(exact absurd h (by decide))|(try simp only [go_sem,simprocAttr,hb,hv] at h))))|omega|((first|(refine ai hX hC hP (aQ (b8 g out) 0 yA) rfl rfl rfl ?_ ?_ ?_ ?_;iterate 3 (focus (simp only [go_sem,simprocAttr,hb,hv];done))));try simp only [go_sem,simprocAttr,hb,hv])|(intro h))
   refine ⟨k+1,by omega, ?_,by omega⟩
   refine Le.of ?_ ?_<;>simp [go_sem,simprocAttr,hb,hv,BD hlt]
   rfl
  ·obtain rfl:k=g.n.toNat:=by omega
   have hb:decide ((g.n.toNat:Int)<(g.n.toNat:Int))=false:=decide_eq_false (by omega)
   have ht:(b8 g []).take g.n.toNat=b8 g []:=List.take_of_length_le (by rw [wts_length];omega)
   repeat' (first|fail|((first|((with_reducible (first|apply oA|apply oB));exact rfl;intro K hK)|(refine hK _ ?_;clear hK K)|((with_reducible (first|apply oG|apply oH));iterate 3 exact rfl)|((with_reducible apply oI);(iterate 2 exact rfl);intro K hK)|(with_reducible (first|apply wI|apply wJ|apply wK)));try simp only [go_sem,simprocAttr,hb,ht])|fail|(with_reducible (first|apply oC|apply oJ|exact oK|apply wA|apply wB|apply wC hX hC|apply wD hX hC|apply wE hX hC af|apply wF hX hC af|apply wG|apply wH|apply And.intro))|((with_reducible refine oD ?_ ?_);first|fail|kernel_rfl)|((with_reducible (first|apply oE|apply oF));(iterate 3 exact rfl);all_goals (intro h;first|(exact absurd h (by decide))|((try simp only [go_sem,simprocAttr,hb,ht] at h);(try with_reducible intro K hK);simp only [go_sem,simprocAttr,hb,ht])))|((first|((with_reducible apply wL);exact rfl)|((with_reducible apply wM);exact rfl));all_goals (try ((with_reducible intro h);first|(exact absurd h (by decide))|(try simp only [go_sem,simprocAttr,hb,ht] at h))))|omega|((first|(refine ai hX hC hP (aQ (b8 g out) 0 yA) rfl rfl rfl ?_ ?_ ?_ ?_;iterate 3 (focus (simp only [go_sem,simprocAttr,hb,ht];done))));try simp only [go_sem,simprocAttr,hb,ht])|(intro h))
   (refine jA hX 2 33 (.tip 3 1 []) (by simp only [go_sem,simprocAttr,hb,ht]) (by simp only [go_sem,simprocAttr,hb,ht]) (by decide) ⟨3,1,by decide, .inr rfl⟩ ?_;simp only [go_sem,simprocAttr,hb,ht])
   refine aj (fun out:List Int=>dK g out∧sy g (left g out) out=aG g) (fun out=>⟨[(3, .ref 22),(2, .ref 33),(0, .d (F3 g))], [(22, .own 3 1 ((b8 g out).map rI)),(33, .tip 3 1 (out.map rI))]⟩) (left g) [] ⟨dK.nil g, ?_⟩ ?_ ?_
   ·have:=(dK.nil g).fuel
    simp only [List.length_nil,Nat.zero_add] at this
    unfold left aG
    rw [this]
   ·(refine Le.of ?_ ?_<;>simp [go_sem,simprocAttr,hb,ht])
   rintro out ⟨fT,hrun⟩
   have yA:(b8 g out).length≤9223372036854775807:=by rw [wts_length];omega
   have hout:out.length≤64:=by have:=fT.fuel;omega
   rcases IV (g:=g) out with hx|⟨x,hx,zE,hw0⟩
   ·have hr:=vS (g:=g) (out:=out) (by omega) (left g out)
    rw [hrun] at hr
    repeat' (first|fail|((first|((with_reducible (first|apply oA|apply oB));exact rfl;intro K hK)|(refine hK _ ?_;clear hK K)|((with_reducible (first|apply oG|apply oH));iterate 3 exact rfl)|((with_reducible apply oI);(iterate 2 exact rfl);intro K hK)|(with_reducible (first|apply wI|apply wJ|apply wK)));try simp only [go_sem,simprocAttr,hx])|fail|(with_reducible (first|apply oC|apply oJ|exact oK|apply wA|apply wB|apply wC hX hC|apply wD hX hC|apply wE hX hC af|apply wF hX hC af|apply wG|apply wH|apply And.intro))|((with_reducible refine oD ?_ ?_);first|fail|kernel_rfl)|((with_reducible (first|apply oE|apply oF));(iterate 3 exact rfl);all_goals (intro h;first|(exact absurd h (by decide))|((try simp only [go_sem,simprocAttr,hx] at h);(try with_reducible intro K hK);simp only [go_sem,simprocAttr,hx])))|((first|((with_reducible apply wL);exact rfl)|((with_reducible apply wM);exact rfl));all_goals (try ((with_reducible intro h);first|(exact absurd h (by decide))|(try simp only [go_sem,simprocAttr,hx] at h))))|omega|((first|(refine ai hX hC hP (aQ (b8 g out) 0 yA) rfl rfl rfl ?_ ?_ ?_ ?_;iterate 3 (focus (simp only [go_sem,simprocAttr,hx];done))));try simp only [go_sem,simprocAttr,hx])|(intro h))
    ·rw [hr]
    ·rw [hr]
   ·obtain ⟨qA,j5,nP⟩:=fT.next hm zE hw0
    have au:decide ((x:Int)<0)=false:=decide_eq_false (by omega)
    have hv:=mN (f:=(·.1)) zE
    have sx:(gV g x).length≤g.es.length:=gv
    repeat' (first|fail|((first|((with_reducible (first|apply oA|apply oB));exact rfl;intro K hK)|(refine hK _ ?_;clear hK K)|((with_reducible (first|apply oG|apply oH));iterate 3 exact rfl)|((with_reducible apply oI);(iterate 2 exact rfl);intro K hK)|(with_reducible (first|apply wI|apply wJ|apply wK)));try simp only [go_sem,simprocAttr,hx,au,hv])|fail|(with_reducible (first|apply oC|apply oJ|exact oK|apply wA|apply wB|apply wC hX hC|apply wD hX hC|apply wE hX hC af|apply wF hX hC af|apply wG|apply wH|apply And.intro))|((with_reducible refine oD ?_ ?_);first|fail|kernel_rfl)|((with_reducible (first|apply oE|apply oF));(iterate 3 exact rfl);all_goals (intro h;first|(exact absurd h (by decide))|((try simp only [go_sem,simprocAttr,hx,au,hv] at h);(try with_reducible intro K hK);simp only [go_sem,simprocAttr,hx,au,hv])))|((first|((with_reducible apply wL);exact rfl)|((with_reducible apply wM);exact rfl));all_goals (try ((with_reducible intro h);first|(exact absurd h (by decide))|(try simp only [go_sem,simprocAttr,hx,au,hv] at h))))|omega|((first|(refine ai hX hC hP (aQ (b8 g out) 0 yA) rfl rfl rfl ?_ ?_ ?_ ?_;iterate 3 (focus (simp only [go_sem,simprocAttr,hx,au,hv];done))));try simp only [go_sem,simprocAttr,hx,au,hv])|(intro h))
    refine aj (fun j:Nat=>j≤(gV g x).length) (fun j=>⟨[(45,eN j),(44,eN (gV g x).length),(43, .d (sI (gV g x))),(3, .ref 22),(2, .ref 33),(0, .d (F3 g))], [(22, .own 3 1 ((sC g out x j).map rI)),(33, .tip 3 1 ((out++ [(x:Int)]).map rI))]⟩) (fun j=>(gV g x).length - j) 0 (by simp) ?_ ?_
    ·refine Le.of ?_ ?_<;>simp [go_sem,simprocAttr,hx,au,hv,gV,rI]
     rw [← zF,List.map_set];rfl
    rintro j hj
    rcases Nat.lt_or_ge j (gV g x).length with hlt|hge
    ·have an:decide ((j:Int)<((gV g x).length:Int))=true:=decide_eq_true (by omega)
     obtain ⟨i,hi,hil,hit⟩:=BB (List.getElem_mem hlt)
     have hi1:(gV g x)[j]? =some (i:Int):=by rw [List.getElem?_eq_getElem hlt,hi]
     have hi2:(gV g x).getD j 0=(i:Int):=by rw [List.getD_eq_getElem?_getD,hi1];rfl
     have hnew:=Ff fT j5 nP hil hit
     obtain ⟨_,DD,sM⟩:=c9 hm hil
     have hnext:=zG hi1 DD hnew
     have hw:(sC g out x j).getD (g.es.getD i (0,0)).2.toNat 0=Ay g out x j (hd g i).toNat:=by
      rw [List.getD_eq_getElem?_getD,mM (by omega)];rfl
     have hbd:=zH hm (out:=out) (x:=x) (j:=j) (y:=(hd g i).toNat)
     repeat' (first|fail|((first|((with_reducible (first|apply oA|apply oB));exact rfl;intro K hK)|(refine hK _ ?_;clear hK K)|((with_reducible (first|apply oG|apply oH));iterate 3 exact rfl)|((with_reducible apply oI);(iterate 2 exact rfl);intro K hK)|(with_reducible (first|apply wI|apply wJ|apply wK)));try simp only [go_sem,simprocAttr,an,hi2,hw])|fail|(with_reducible (first|apply oC|apply oJ|exact oK|apply wA|apply wB|apply wC hX hC|apply wD hX hC|apply wE hX hC af|apply wF hX hC af|apply wG|apply wH|apply And.intro))|((with_reducible refine oD ?_ ?_);first|fail|kernel_rfl)|((with_reducible (first|apply oE|apply oF));(iterate 3 exact rfl);all_goals (intro h;first|(exact absurd h (by decide))|((try simp only [go_sem,simprocAttr,an,hi2,hw] at h);(try with_reducible intro K hK);simp only [go_sem,simprocAttr,an,hi2,hw])))|((first|((with_reducible apply wL);exact rfl)|((with_reducible apply wM);exact rfl));all_goals (try ((with_reducible intro h);first|(exact absurd h (by decide))|(try simp only [go_sem,simprocAttr,an,hi2,hw] at h))))|omega|((first|(refine ai hX hC hP (aQ (b8 g out) 0 yA) rfl rfl rfl ?_ ?_ ?_ ?_;iterate 3 (focus (simp only [go_sem,simprocAttr,an,hi2,hw];done))));try simp only [go_sem,simprocAttr,an,hi2,hw])|(intro h))
     refine ⟨j+1,by omega, ?_,by omega⟩
     refine Le.of ?_ ?_<;>simp [go_sem,simprocAttr,an,hi2,hw]
     rw [← hnext,List.map_set];rfl
    ·have an:decide ((j:Int)<((gV g x).length:Int))=false:=decide_eq_false (by omega)
     repeat' (first|fail|((first|((with_reducible (first|apply oA|apply oB));exact rfl;intro K hK)|(refine hK _ ?_;clear hK K)|((with_reducible (first|apply oG|apply oH));iterate 3 exact rfl)|((with_reducible apply oI);(iterate 2 exact rfl);intro K hK)|(with_reducible (first|apply wI|apply wJ|apply wK)));try simp only [go_sem,simprocAttr,an])|fail|(with_reducible (first|apply oC|apply oJ|exact oK|apply wA|apply wB|apply wC hX hC|apply wD hX hC|apply wE hX hC af|apply wF hX hC af|apply wG|apply wH|apply And.intro))|((with_reducible refine oD ?_ ?_);first|fail|kernel_rfl)|((with_reducible (first|apply oE|apply oF));(iterate 3 exact rfl);all_goals (intro h;first|(exact absurd h (by decide))|((try simp only [go_sem,simprocAttr,an] at h);(try with_reducible intro K hK);simp only [go_sem,simprocAttr,an])))|((first|((with_reducible apply wL);exact rfl)|((with_reducible apply wM);exact rfl));all_goals (try ((with_reducible intro h);first|(exact absurd h (by decide))|(try simp only [go_sem,simprocAttr,an] at h))))|omega|((first|(refine ai hX hC hP (aQ (b8 g out) 0 yA) rfl rfl rfl ?_ ?_ ?_ ?_;iterate 3 (focus (simp only [go_sem,simprocAttr,an];done))));try simp only [go_sem,simprocAttr,an])|(intro h))
     have uo:=sV fT qA
     refine ⟨out++ [(x:Int)],⟨qA, ?_⟩, ?_,by omega⟩
     ·rw [← hrun,uo]
      simp only [sy,hx]
      rw [if_neg (by omega)]
     ·refine Le.of ?_ ?_<;>simp [go_sem,simprocAttr,an,BC j5 hge]
end Go.Ab
end
section
namespace Go.Ab
open Go.Proofs
attribute [local congr] ACall.congr
set_option maxRecDepth 10000
def jN (l:List Int) (k:Nat):List Int:=(List.range l.length).map fun p=>if p<k∨l.length - 1<p+k then l.getD (l.length - 1 - p) 0 else l.getD p 0
theorem bE {l:List Int} {k:Nat} :(jN l k).length=l.length:=by simp [jN]
theorem iV {l:List Int} {k p:Nat} (h:p<l.length):(jN l k)[p]? =some (if p<k∨l.length - 1<p+k then l.getD (l.length - 1 - p) 0 else l.getD p 0):=by
 simp [jN,List.getElem?_range h]
theorem qP {l:List Int} {k p:Nat} (h:p<l.length) (d:Int):(jN l k).getD p d=if p<k∨l.length - 1<p+k then l.getD (l.length - 1 - p) 0 else l.getD p 0:=by
 rw [List.getD_eq_getElem?_getD,iV h];rfl
theorem xF {l:List Int} :jN l 0=l:=by
 refine List.ext_getElem? fun i=> ?_
 by_cases hi:i<l.length
 ·rw [iV hi,if_neg (by omega),List.getD_eq_getElem?_getD,List.getElem?_eq_getElem hi];rfl
 ·rw [List.getElem?_eq_none (by rw [bE];omega),List.getElem?_eq_none (by omega)]
theorem zI {l:List Int} {k:Nat} (h:l.length≤2*k+1):jN l k=l.reverse:=by
 refine List.ext_getElem? fun i=> ?_
 by_cases hi:i<l.length
 ·rw [iV hi,List.getElem?_reverse hi]
  split
  ·rw [List.getD_eq_getElem?_getD,List.getElem?_eq_getElem (by omega)];rfl
  ·have:i=l.length - 1 - i:=by omega
   rw [← this,List.getD_eq_getElem?_getD,List.getElem?_eq_getElem hi];rfl
 ·rw [List.getElem?_eq_none (by rw [bE];omega),List.getElem?_eq_none (by rw [List.length_reverse];omega)]
theorem xG {l:List Int} {k:Nat} (h:k<l.length - 1 - k):((jN l k).set k ((jN l k).getD (l.length - 1 - k) 0)).set (l.length - 1 - k) ((jN l k).getD k 0)=jN l (k+1):=by
 refine List.ext_getElem? fun i=> ?_
 rw [List.getElem?_set,List.length_set,bE,List.getElem?_set,bE]
 by_cases hi:i<l.length
 ·rw [iV hi,iV hi,qP (by omega),qP (by omega)]
  by_cases h1:l.length - 1 - k=i
  ·rw [if_pos h1,if_pos (by omega),if_neg (by omega),if_pos (by omega)]
   congr 2;omega
  ·rw [if_neg h1]
   by_cases h2:k=i
   ·rw [if_pos h2,if_pos (by omega),if_neg (by omega),if_pos (by omega)]
    congr 2;omega
   ·rw [if_neg h2]
    congr 1
    by_cases h3:i<k∨l.length - 1<i+k
    ·rw [if_pos h3,if_pos (by omega)]
    ·rw [if_neg h3,if_neg (by omega)]
 ·rw [List.getElem?_eq_none (by rw [bE];omega),List.getElem?_eq_none (by rw [bE];omega),if_neg (by omega),if_neg (by omega)]
theorem dF (l:List Int) (hl:l.length≤1000000):Spec Tryz.prog 57 (Args [.ref 10000]) [(10000, .part 3 1 (l.map rI))] (.tup []) [(10000, .part 3 1 (l.reverse.map rI))]:=by
 (refine Spec.intro (C:=T.cfg [] []) (rs:= []) (T.ak _ _) Tryz.func57 rfl rfl Tryz.ntmps57 Tryz.results57 (by simp [AObj.isNest]) (by simp [AObj.isNest]) (by kernel_rfl) ?_;intro X hX hP hC aK aL vals hA;refine ⟨_,by simp,hA, ?_⟩;have af:X.P.follows .mixedOrders=true:=(by rw [hP];exact T.mixed);clear aK aL)
 repeat' (first|fail|((first|((with_reducible (first|apply oA|apply oB));exact rfl;intro K hK)|(refine hK _ ?_;clear hK K)|((with_reducible (first|apply oG|apply oH));iterate 3 exact rfl)|((with_reducible apply oI);(iterate 2 exact rfl);intro K hK)|(with_reducible (first|apply wI|apply wJ|apply wK)));try simp only [go_sem,simprocAttr])|fail|(with_reducible (first|apply oC|apply oJ|exact oK|apply wA|apply wB|apply wC hX hC|apply wD hX hC|apply wE hX hC af|apply wF hX hC af|apply wG|apply wH|apply And.intro))|((with_reducible refine oD ?_ ?_);first|fail|kernel_rfl)|((with_reducible (first|apply oE|apply oF));(iterate 3 exact rfl);all_goals (intro h;first|(exact absurd h (by decide))|((try simp only [go_sem,simprocAttr] at h);(try with_reducible intro K hK);simp only [go_sem,simprocAttr])))|((first|((with_reducible apply wL);exact rfl)|((with_reducible apply wM);exact rfl));all_goals (try ((with_reducible intro h);first|(exact absurd h (by decide))|(try simp only [go_sem,simprocAttr] at h))))|omega|((first|fail);try simp only [go_sem,simprocAttr])|(intro h))
 refine aj (fun k:Nat=>2*k≤l.length+1) (fun k=>⟨[(0, .ref 10000),(2,eN k),(3,eN ((l.length:Int) - 1 - k))], [(10000, .part 3 1 ((jN l k).map rI))]⟩) (fun k=>l.length+1 - k) 0 (by omega) ?_ ?_
 ·refine Le.of ?_ ?_<;>simp [go_sem,simprocAttr,xF]
 rintro k hk
 rcases Nat.lt_or_ge (2*k+1) l.length with hlt|hge
 ·have hb:decide ((k:Int)<(l.length:Int) - 1 - (k:Int))=true:=decide_eq_true (by omega)
  have ht:((l.length:Int) - 1 - (k:Int)).toNat=l.length - 1 - k:=by omega
  repeat' (first|fail|((first|((with_reducible (first|apply oA|apply oB));exact rfl;intro K hK)|(refine hK _ ?_;clear hK K)|((with_reducible (first|apply oG|apply oH));iterate 3 exact rfl)|((with_reducible apply oI);(iterate 2 exact rfl);intro K hK)|(with_reducible (first|apply wI|apply wJ|apply wK)));try simp only [go_sem,simprocAttr,hb,ht,bE,iz])|fail|(with_reducible (first|apply oC|apply oJ|exact oK|apply wA|apply wB|apply wC hX hC|apply wD hX hC|apply wE hX hC af|apply wF hX hC af|apply wG|apply wH|apply And.intro))|((with_reducible refine oD ?_ ?_);first|fail|kernel_rfl)|((with_reducible (first|apply oE|apply oF));(iterate 3 exact rfl);all_goals (intro h;first|(exact absurd h (by decide))|((try simp only [go_sem,simprocAttr,hb,ht,bE,iz] at h);(try with_reducible intro K hK);simp only [go_sem,simprocAttr,hb,ht,bE,iz])))|((first|((with_reducible apply wL);exact rfl)|((with_reducible apply wM);exact rfl));all_goals (try ((with_reducible intro h);first|(exact absurd h (by decide))|(try simp only [go_sem,simprocAttr,hb,ht,bE,iz] at h))))|omega|((first|fail);try simp only [go_sem,simprocAttr,hb,ht,bE,iz])|(intro h))
  refine ⟨k+1,by omega, ?_,by omega⟩
  refine Le.of ?_ ?_<;>simp [go_sem,simprocAttr]
  ·omega
  ·rw [← xG (by omega),List.map_set,List.map_set]
   simp only [List.getD_eq_getElem?_getD]
 ·have hb:decide ((k:Int)<(l.length:Int) - 1 - (k:Int))=false:=decide_eq_false (by omega)
  repeat' (first|fail|((first|((with_reducible (first|apply oA|apply oB));exact rfl;intro K hK)|(refine hK _ ?_;clear hK K)|((with_reducible (first|apply oG|apply oH));iterate 3 exact rfl)|((with_reducible apply oI);(iterate 2 exact rfl);intro K hK)|(with_reducible (first|apply wI|apply wJ|apply wK)));try simp only [go_sem,simprocAttr,hb])|fail|(with_reducible (first|apply oC|apply oJ|exact oK|apply wA|apply wB|apply wC hX hC|apply wD hX hC|apply wE hX hC af|apply wF hX hC af|apply wG|apply wH|apply And.intro))|((with_reducible refine oD ?_ ?_);first|fail|kernel_rfl)|((with_reducible (first|apply oE|apply oF));(iterate 3 exact rfl);all_goals (intro h;first|(exact absurd h (by decide))|((try simp only [go_sem,simprocAttr,hb] at h);(try with_reducible intro K hK);simp only [go_sem,simprocAttr,hb])))|((first|((with_reducible apply wL);exact rfl)|((with_reducible apply wM);exact rfl));all_goals (try ((with_reducible intro h);first|(exact absurd h (by decide))|(try simp only [go_sem,simprocAttr,hb] at h))))|omega|((first|fail);try simp only [go_sem,simprocAttr,hb])|(intro h))
  simp only [go_sem,simprocAttr,hb,zI hge]
def gh:List Int→Int
 | []=>0
 |a::r=>r.foldl min a
theorem zJ {l:List Int} {k:Nat} (h0:0<k) (h:k<l.length):gh (l.take (k+1))=min (gh (l.take k)) (l.getD k 0):=by
 cases l with
 |nil=>simp at h
 |cons a r=>
  obtain ⟨k,rfl⟩:∃j,k=j+1:=⟨k - 1,by omega⟩
  simp only [List.length_cons] at h
  simp only [List.take_succ_cons,gh,List.getD_cons_succ]
  rw [List.take_add_one,List.foldl_append,List.getElem?_eq_getElem (by omega),List.getD_eq_getElem?_getD,List.getElem?_eq_getElem (by omega)]
  rfl
theorem BE {l:List Int} (h:0<l.length):gh (l.take 1)=l.getD 0 0:=by
 cases l with
 |nil=>simp at h
 |cons a r=>simp [gh]
theorem iW (l:List Int) (h0:0<l.length) (hl:l.length≤1000000):Spec Tryz.prog 124 (Args [.d (sI l)]) [] (eN (gh l)) []:=by
 (refine Spec.intro (C:=T.cfg [] []) (rs:= [.t 2]) (T.ak _ _) Tryz.func124 rfl rfl Tryz.ntmps124 Tryz.results124 (by simp [AObj.isNest]) (by simp [AObj.isNest]) (by kernel_rfl) ?_;intro X hX hP hC aK aL vals hA;refine ⟨_,by simp,hA, ?_⟩;have af:X.P.follows .mixedOrders=true:=(by rw [hP];exact T.mixed);clear aK aL)
 repeat' (first|fail|((first|((with_reducible (first|apply oA|apply oB));exact rfl;intro K hK)|(refine hK _ ?_;clear hK K)|((with_reducible (first|apply oG|apply oH));iterate 3 exact rfl)|((with_reducible apply oI);(iterate 2 exact rfl);intro K hK)|(with_reducible (first|apply wI|apply wJ|apply wK)));try simp only [go_sem,simprocAttr])|fail|(with_reducible (first|apply oC|apply oJ|exact oK|apply wA|apply wB|apply wC hX hC|apply wD hX hC|apply wE hX hC af|apply wF hX hC af|apply wG|apply wH|apply And.intro))|((with_reducible refine oD ?_ ?_);first|fail|kernel_rfl)|((with_reducible (first|apply oE|apply oF));(iterate 3 exact rfl);all_goals (intro h;first|(exact absurd h (by decide))|((try simp only [go_sem,simprocAttr] at h);(try with_reducible intro K hK);simp only [go_sem,simprocAttr])))|((first|((with_reducible apply wL);exact rfl)|((with_reducible apply wM);exact rfl));all_goals (try ((with_reducible intro h);first|(exact absurd h (by decide))|(try simp only [go_sem,simprocAttr] at h))))|omega|((first|fail);try simp only [go_sem,simprocAttr])|(intro h))
 refine aj (fun k:Nat=>0<k∧k≤l.length) (fun k=>⟨[(0, .d (sI l)),(3,eN (gh (l.take k))),(4,eN k)], []⟩) (fun k=>l.length - k) 1 (by omega) ?_ ?_
 ·refine Le.of ?_ ?_<;>simp [go_sem,simprocAttr,BE h0]
 rintro k ⟨vm,hk⟩
 repeat' (first|fail|((first|((with_reducible (first|apply oA|apply oB));exact rfl;intro K hK)|(refine hK _ ?_;clear hK K)|((with_reducible (first|apply oG|apply oH));iterate 3 exact rfl)|((with_reducible apply oI);(iterate 2 exact rfl);intro K hK)|(with_reducible (first|apply wI|apply wJ|apply wK)));try simp only [go_sem,simprocAttr])|fail|(with_reducible (first|apply oC|apply oJ|exact oK|apply wA|apply wB|apply wC hX hC|apply wD hX hC|apply wE hX hC af|apply wF hX hC af|apply wG|apply wH|apply And.intro))|((with_reducible refine oD ?_ ?_);first|fail|kernel_rfl)|((with_reducible (first|apply oE|apply oF));(iterate 3 exact rfl);all_goals (intro h;first|(exact absurd h (by decide))|((try simp only [go_sem,simprocAttr] at h);(try with_reducible intro K hK);simp only [go_sem,simprocAttr])))|((first|((with_reducible apply wL);exact rfl)|((with_reducible apply wM);exact rfl));all_goals (try ((with_reducible intro h);first|(exact absurd h (by decide))|(try simp only [go_sem,simprocAttr] at h))))|omega|((first|fail);try simp only [go_sem,simprocAttr])|(intro h))
 ·refine ⟨k+1,by omega, ?_,by omega⟩
  refine Le.of ?_ ?_<;>simp [go_sem,simprocAttr]
  rw [zJ vm (by omega),List.getD_eq_getElem?_getD]
 ·rw [List.take_of_length_le (by omega)]
theorem ek (n:Int) (h0:0<n) (hl:n≤1000000):Spec Tryz.prog 91 (Args [.nil 3,eN n]) [] (.ref 10000) [(10000, .own 3 1 [])]:=by
 (refine Spec.eL (C:=T.cfg [] []) (rs:= [.t 4]) [(10000,25)] (T.ak _ _) Tryz.func91 rfl rfl Tryz.ntmps91 Tryz.results91 (by simp [AObj.isNest]) (by simp [AObj.isNest]) (by first|(simp [look];done)|(simp [asN];done)|(intro l hl;simp only [asN];repeat (rw [if_neg (fun e=>by subst e;simp [look] at hl)]))) (by first|(simp [look];done)|(simp [asN];done)|(intro l hl;simp only [asN];repeat (rw [if_neg (fun e=>by subst e;simp [look] at hl)]))) (by kernel_rfl) ?_;intro X hX hP hC aK aL vals hA;refine ⟨_,by simp,hA, ?_⟩;have af:X.P.follows .mixedOrders=true:=(by rw [hP];exact T.mixed);clear aK aL)
 repeat' (first|fail|((first|((with_reducible (first|apply oA|apply oB));exact rfl;intro K hK)|(refine hK _ ?_;clear hK K)|((with_reducible (first|apply oG|apply oH));iterate 3 exact rfl)|((with_reducible apply oI);(iterate 2 exact rfl);intro K hK)|(with_reducible (first|apply wI|apply wJ|apply wK)));try simp only [go_sem,simprocAttr])|fail|(with_reducible (first|apply oC|apply oJ|exact oK|apply wA|apply wB|apply wC hX hC|apply wD hX hC|apply wE hX hC af|apply wF hX hC af|apply wG|apply wH|apply And.intro))|((with_reducible refine oD ?_ ?_);first|fail|kernel_rfl)|((with_reducible (first|apply oE|apply oF));(iterate 3 exact rfl);all_goals (intro h;first|(exact absurd h (by decide))|((try simp only [go_sem,simprocAttr] at h);(try with_reducible intro K hK);simp only [go_sem,simprocAttr])))|((first|((with_reducible apply wL);exact rfl)|((with_reducible apply wM);exact rfl));all_goals (try ((with_reducible intro h);first|(exact absurd h (by decide))|(try simp only [go_sem,simprocAttr] at h))))|omega|((first|fail);try simp only [go_sem,simprocAttr])|(intro h))
end Go.Ab
end
section
namespace Go.Ab
open Go.Proofs
attribute [local congr] ACall.congr
set_option maxRecDepth 10000
def vL (ls:List (List Int)):List (List D):=ls.map fun l=> [sI l]
theorem vL_length {ls:List (List Int)} :(vL ls).length=ls.length:=by simp [vL]
theorem uq {ls:List (List Int)} {k:Nat} (h:k<ls.length) (d:List D):(vL ls).getD k d= [sI (ls.getD k [])]:=by
 simp [vL,List.getD_eq_getElem?_getD,List.getElem?_eq_getElem h]
attribute [go_sem] vL_length
theorem sW {ls:List (List Int)} {k:Nat} (h:k<ls.length):(ls.take (k+1)).flatten=(ls.take k).flatten++ls.getD k []:=by
 rw [List.take_add_one,List.flatten_append,List.getElem?_eq_getElem h,List.getD_eq_getElem?_getD,List.getElem?_eq_getElem h]
 simp
theorem pL {ls:List (List Int)} {k:Nat} :(ls.take k).flatten.length≤ls.flatten.length:=by
 have:=congrArg (fun x=>x.flatten.length) (List.take_append_drop k ls)
 simp only [List.flatten_append,List.length_append] at this
 omega
theorem dy (ls:List (List Int)) (hn:ls.length≤1000) (h0:0<ls.flatten.length) (hl:ls.flatten.length≤1000000):Spec Tryz.prog 54 (Args [.d (.sl 1 (vL ls))]) [] (.d (sI ls.flatten)) []:=by
 (refine Spec.intro (C:=T.cfg [] []) (rs:= [.t 2]) (T.ak _ _) Tryz.func54 rfl rfl Tryz.ntmps54 Tryz.results54 (by simp [AObj.isNest]) (by simp [AObj.isNest]) (by kernel_rfl) ?_;intro X hX hP hC aK aL vals hA;refine ⟨_,by simp,hA, ?_⟩;have af:X.P.follows .mixedOrders=true:=(by rw [hP];exact T.mixed);clear aK aL)
 repeat' (first|fail|((first|((with_reducible (first|apply oA|apply oB));exact rfl;intro K hK)|(refine hK _ ?_;clear hK K)|((with_reducible (first|apply oG|apply oH));iterate 3 exact rfl)|((with_reducible apply oI);(iterate 2 exact rfl);intro K hK)|(with_reducible (first|apply wI|apply wJ|apply wK)));try simp only [go_sem,simprocAttr])|fail|(with_reducible (first|apply oC|apply oJ|exact oK|apply wA|apply wB|apply wC hX hC|apply wD hX hC|apply wE hX hC af|apply wF hX hC af|apply wG|apply wH|apply And.intro))|((with_reducible refine oD ?_ ?_);first|fail|kernel_rfl)|((with_reducible (first|apply oE|apply oF));(iterate 3 exact rfl);all_goals (intro h;first|(exact absurd h (by decide))|((try simp only [go_sem,simprocAttr] at h);(try with_reducible intro K hK);simp only [go_sem,simprocAttr])))|((first|((with_reducible apply wL);exact rfl)|((with_reducible apply wM);exact rfl));all_goals (try ((with_reducible intro h);first|(exact absurd h (by decide))|(try simp only [go_sem,simprocAttr] at h))))|omega|((first|(refine az hX hC hP [(10000,33)] (ek (ls.flatten.length:Int) (by omega) (by omega)) rfl rfl rfl ?_ ?_ ?_ ?_ ?_ ?_ ?_ ?_ ?_ ?_ ?_ ?_ ?_ ?_;(focus (simp only [go_sem,simprocAttr];done));(iterate 12 (focus (simp [go_sem,simprocAttr];done)));simp only [go_sem,simprocAttr,List.map_cons,List.map_nil]));try simp only [go_sem,simprocAttr])|(intro h))
 refine aj (fun k:Nat=>k≤ls.length) (fun k=>⟨[(0, .d (.sl 1 (vL ls))),(9, .d (.sl 1 (vL ls))),(10,eN ls.length),(11,eN k),(3,eN ((ls.take k).flatten.length))], []⟩) (fun k=>ls.length - k) 0 (by omega) ?_ ?_
 ·(refine Le.of ?_ ?_<;>simp [go_sem,simprocAttr])
 ·rintro k hk
  rcases Nat.lt_or_ge k ls.length with hlt|hge
  ·have hb:decide ((k:Int)<(ls.length:Int))=true:=decide_eq_true (by omega)
   have hv:=uq hlt
   have hf:=sW hlt
   have JR:=pL (ls:=ls) (k:=k)
   have Fg:=pL (ls:=ls) (k:=k+1)
   rw [hf,List.length_append] at Fg
   have hneg:decide (((ls.take k).flatten.length:Int)+((ls.getD k []).length:Int)<0)=false:=decide_eq_false (by omega)
   repeat' (first|fail|((first|((with_reducible (first|apply oA|apply oB));exact rfl;intro K hK)|(refine hK _ ?_;clear hK K)|((with_reducible (first|apply oG|apply oH));iterate 3 exact rfl)|((with_reducible apply oI);(iterate 2 exact rfl);intro K hK)|(with_reducible (first|apply wI|apply wJ|apply wK)));try simp only [go_sem,simprocAttr,hb,hv,hneg])|fail|(with_reducible (first|apply oC|apply oJ|exact oK|apply wA|apply wB|apply wC hX hC|apply wD hX hC|apply wE hX hC af|apply wF hX hC af|apply wG|apply wH|apply And.intro))|((with_reducible refine oD ?_ ?_);first|fail|kernel_rfl)|((with_reducible (first|apply oE|apply oF));(iterate 3 exact rfl);all_goals (intro h;first|(exact absurd h (by decide))|((try simp only [go_sem,simprocAttr,hb,hv,hneg] at h);(try with_reducible intro K hK);simp only [go_sem,simprocAttr,hb,hv,hneg])))|((first|((with_reducible apply wL);exact rfl)|((with_reducible apply wM);exact rfl));all_goals (try ((with_reducible intro h);first|(exact absurd h (by decide))|(try simp only [go_sem,simprocAttr,hb,hv,hneg] at h))))|omega|((first|(refine az hX hC hP [(10000,33)] (ek (ls.flatten.length:Int) (by omega) (by omega)) rfl rfl rfl ?_ ?_ ?_ ?_ ?_ ?_ ?_ ?_ ?_ ?_ ?_ ?_ ?_ ?_;(focus (simp only [go_sem,simprocAttr,hb,hv,hneg];done));(iterate 12 (focus (simp [go_sem,simprocAttr,hb,hv,hneg];done)));simp only [go_sem,simprocAttr,hb,hv,hneg,List.map_cons,List.map_nil]));try simp only [go_sem,simprocAttr,hb,hv,hneg])|(intro h))
   refine ⟨k+1,by omega, ?_,by omega⟩
   simp only [hf]
   refine Le.of ?_ ?_<;>simp [go_sem,simprocAttr,hb,hv,hneg]
  ·have hb:decide ((k:Int)<(ls.length:Int))=false:=decide_eq_false (by omega)
   have ht:ls.take k=ls:=List.take_of_length_le (by omega)
   repeat' (first|fail|((first|((with_reducible (first|apply oA|apply oB));exact rfl;intro K hK)|(refine hK _ ?_;clear hK K)|((with_reducible (first|apply oG|apply oH));iterate 3 exact rfl)|((with_reducible apply oI);(iterate 2 exact rfl);intro K hK)|(with_reducible (first|apply wI|apply wJ|apply wK)));try simp only [go_sem,simprocAttr,hb,ht])|fail|(with_reducible (first|apply oC|apply oJ|exact oK|apply wA|apply wB|apply wC hX hC|apply wD hX hC|apply wE hX hC af|apply wF hX hC af|apply wG|apply wH|apply And.intro))|((with_reducible refine oD ?_ ?_);first|fail|kernel_rfl)|((with_reducible (first|apply oE|apply oF));(iterate 3 exact rfl);all_goals (intro h;first|(exact absurd h (by decide))|((try simp only [go_sem,simprocAttr,hb,ht] at h);(try with_reducible intro K hK);simp only [go_sem,simprocAttr,hb,ht])))|((first|((with_reducible apply wL);exact rfl)|((with_reducible apply wM);exact rfl));all_goals (try ((with_reducible intro h);first|(exact absurd h (by decide))|(try simp only [go_sem,simprocAttr,hb,ht] at h))))|omega|((first|(refine az hX hC hP [(10000,33)] (ek (ls.flatten.length:Int) (by omega) (by omega)) rfl rfl rfl ?_ ?_ ?_ ?_ ?_ ?_ ?_ ?_ ?_ ?_ ?_ ?_ ?_ ?_;(focus (simp only [go_sem,simprocAttr,hb,ht];done));(iterate 12 (focus (simp [go_sem,simprocAttr,hb,ht];done)));simp only [go_sem,simprocAttr,hb,ht,List.map_cons,List.map_nil]));try simp only [go_sem,simprocAttr,hb,ht])|(intro h))
   refine aj (fun k:Nat=>k≤ls.length) (fun k=>⟨[(25, .d (.sl 1 (vL ls))),(26,eN ls.length),(27,eN k),(6, .ref 33)], [(33, .own 3 1 ((ls.take k).flatten.map rI))]⟩) (fun k=>ls.length - k) 0 (by omega) ?_ ?_
   ·(refine Le.of ?_ ?_<;>simp [go_sem,simprocAttr,hb,ht])
   ·clear hb ht hk hge
    rintro k hk
    rcases Nat.lt_or_ge k ls.length with hlt|hge
    ·have hb:decide ((k:Int)<(ls.length:Int))=true:=decide_eq_true (by omega)
     have hv:=uq hlt
     have hf:=sW hlt
     have JR:=pL (ls:=ls) (k:=k)
     have Fg:=pL (ls:=ls) (k:=k+1)
     rw [hf,List.length_append] at Fg
     repeat' (first|fail|((first|((with_reducible (first|apply oA|apply oB));exact rfl;intro K hK)|(refine hK _ ?_;clear hK K)|((with_reducible (first|apply oG|apply oH));iterate 3 exact rfl)|((with_reducible apply oI);(iterate 2 exact rfl);intro K hK)|(with_reducible (first|apply wI|apply wJ|apply wK)));try simp only [go_sem,simprocAttr,hb,hv])|fail|(with_reducible (first|apply oC|apply oJ|exact oK|apply wA|apply wB|apply wC hX hC|apply wD hX hC|apply wE hX hC af|apply wF hX hC af|apply wG|apply wH|apply And.intro))|((with_reducible refine oD ?_ ?_);first|fail|kernel_rfl)|((with_reducible (first|apply oE|apply oF));(iterate 3 exact rfl);all_goals (intro h;first|(exact absurd h (by decide))|((try simp only [go_sem,simprocAttr,hb,hv] at h);(try with_reducible intro K hK);simp only [go_sem,simprocAttr,hb,hv])))|((first|((with_reducible apply wL);exact rfl)|((with_reducible apply wM);exact rfl));all_goals (try ((with_reducible intro h);first|(exact absurd h (by decide))|(try simp only [go_sem,simprocAttr,hb,hv] at h))))|omega|((first|(refine az hX hC hP [(10000,33)] (ek (ls.flatten.length:Int) (by omega) (by omega)) rfl rfl rfl ?_ ?_ ?_ ?_ ?_ ?_ ?_ ?_ ?_ ?_ ?_ ?_ ?_ ?_;(focus (simp only [go_sem,simprocAttr,hb,hv];done));(iterate 12 (focus (simp [go_sem,simprocAttr,hb,hv];done)));simp only [go_sem,simprocAttr,hb,hv,List.map_cons,List.map_nil]));try simp only [go_sem,simprocAttr,hb,hv])|(intro h))
     refine ⟨k+1,by omega, ?_,by omega⟩
     simp only [hf]
     refine Le.of ?_ ?_<;>simp [go_sem,simprocAttr,hb,hv]
    ·have hb:decide ((k:Int)<(ls.length:Int))=false:=decide_eq_false (by omega)
     have ht:ls.take k=ls:=List.take_of_length_le (by omega)
     repeat' (first|fail|((first|((with_reducible (first|apply oA|apply oB));exact rfl;intro K hK)|(refine hK _ ?_;clear hK K)|((with_reducible (first|apply oG|apply oH));iterate 3 exact rfl)|((with_reducible apply oI);(iterate 2 exact rfl);intro K hK)|(with_reducible (first|apply wI|apply wJ|apply wK)));try simp only [go_sem,simprocAttr,hb,ht])|fail|(with_reducible (first|apply oC|apply oJ|exact oK|apply wA|apply wB|apply wC hX hC|apply wD hX hC|apply wE hX hC af|apply wF hX hC af|apply wG|apply wH|apply And.intro))|((with_reducible refine oD ?_ ?_);first|fail|kernel_rfl)|((with_reducible (first|apply oE|apply oF));(iterate 3 exact rfl);all_goals (intro h;first|(exact absurd h (by decide))|((try simp only [go_sem,simprocAttr,hb,ht] at h);(try with_reducible intro K hK);simp only [go_sem,simprocAttr,hb,ht])))|((first|((with_reducible apply wL);exact rfl)|((with_reducible apply wM);exact rfl));all_goals (try ((with_reducible intro h);first|(exact absurd h (by decide))|(try simp only [go_sem,simprocAttr,hb,ht] at h))))|omega|((first|(refine az hX hC hP [(10000,33)] (ek (ls.flatten.length:Int) (by omega) (by omega)) rfl rfl rfl ?_ ?_ ?_ ?_ ?_ ?_ ?_ ?_ ?_ ?_ ?_ ?_ ?_ ?_;(focus (simp only [go_sem,simprocAttr,hb,ht];done));(iterate 12 (focus (simp [go_sem,simprocAttr,hb,ht];done)));simp only [go_sem,simprocAttr,hb,ht,List.map_cons,List.map_nil]));try simp only [go_sem,simprocAttr,hb,ht])|(intro h))
def gG (ls:List (List Int)) (k:Nat):List Int:=((List.range k).filter fun x=>decide ((ls.getD x []).length=0)).map Int.ofNat
theorem lR {ls:List (List Int)} {k:Nat} :gG ls (k+1)=gG ls k++if (ls.getD k []).length=0 then [(k:Int)] else []:=by
 simp only [gG,List.range_succ,List.filter_append,List.map_append,List.filter_cons,List.filter_nil]
 split<;>simp_all
theorem sX {ls:List (List Int)} {k:Nat} :(gG ls k).length≤k:=by
 simpa [gG] using List.length_filter_le (fun x=>decide ((ls.getD x []).length=0)) (List.range k)
theorem sY (ls:List (List Int)) (hn:ls.length≤1000):Spec Tryz.prog 61 (Args [.d (.sl 1 (vL ls))]) [] (.d (sI (gG ls ls.length))) []:=by
 (refine Spec.intro (C:=T.cfg [] []) (rs:= [.t 2]) (T.ak _ _) Tryz.func61 rfl rfl Tryz.ntmps61 Tryz.results61 (by simp [AObj.isNest]) (by simp [AObj.isNest]) (by kernel_rfl) ?_;intro X hX hP hC aK aL vals hA;refine ⟨_,by simp,hA, ?_⟩;have af:X.P.follows .mixedOrders=true:=(by rw [hP];exact T.mixed);clear aK aL)
 repeat' (first|fail|((first|((with_reducible (first|apply oA|apply oB));exact rfl;intro K hK)|(refine hK _ ?_;clear hK K)|((with_reducible (first|apply oG|apply oH));iterate 3 exact rfl)|((with_reducible apply oI);(iterate 2 exact rfl);intro K hK)|(with_reducible (first|apply wI|apply wJ|apply wK)));try simp only [go_sem,simprocAttr])|fail|(with_reducible (first|apply oC|apply oJ|exact oK|apply wA|apply wB|apply wC hX hC|apply wD hX hC|apply wE hX hC af|apply wF hX hC af|apply wG|apply wH|apply And.intro))|((with_reducible refine oD ?_ ?_);first|fail|kernel_rfl)|((with_reducible (first|apply oE|apply oF));(iterate 3 exact rfl);all_goals (intro h;first|(exact absurd h (by decide))|((try simp only [go_sem,simprocAttr] at h);(try with_reducible intro K hK);simp only [go_sem,simprocAttr])))|((first|((with_reducible apply wL);exact rfl)|((with_reducible apply wM);exact rfl));all_goals (try ((with_reducible intro h);first|(exact absurd h (by decide))|(try simp only [go_sem,simprocAttr] at h))))|omega|((first|(refine az hX hC hP [(10000,33)] (ek (ls.flatten.length:Int) (by omega) (by omega)) rfl rfl rfl ?_ ?_ ?_ ?_ ?_ ?_ ?_ ?_ ?_ ?_ ?_ ?_ ?_ ?_;(focus (simp only [go_sem,simprocAttr];done));(iterate 12 (focus (simp [go_sem,simprocAttr];done)));simp only [go_sem,simprocAttr,List.map_cons,List.map_nil]));try simp only [go_sem,simprocAttr])|(intro h))
 (refine jA hX 2 18 (.tip 3 1 []) (by simp only [go_sem,simprocAttr]) (by simp only [go_sem,simprocAttr]) (by decide) ⟨3,1,by decide, .inr rfl⟩ ?_;simp only [go_sem,simprocAttr])
 refine aj (fun k:Nat=>k≤ls.length) (fun k=>⟨[(5, .d (.sl 1 (vL ls))),(6,eN ls.length),(7,eN k),(2, .ref 18)], [(18, .tip 3 1 ((gG ls k).map rI))]⟩) (fun k=>ls.length - k) 0 (by omega) ?_ ?_
 ·refine Le.of ?_ ?_<;>simp [go_sem,simprocAttr,gG]
 ·rintro k hk
  rcases Nat.lt_or_ge k ls.length with hlt|hge
  ·have hb:decide ((k:Int)<(ls.length:Int))=true:=decide_eq_true (by omega)
   have hv:=uq hlt
   have hlen:=sX (ls:=ls) (k:=k)
   repeat' (first|fail|((first|((with_reducible (first|apply oA|apply oB));exact rfl;intro K hK)|(refine hK _ ?_;clear hK K)|((with_reducible (first|apply oG|apply oH));iterate 3 exact rfl)|((with_reducible apply oI);(iterate 2 exact rfl);intro K hK)|(with_reducible (first|apply wI|apply wJ|apply wK)));try simp only [go_sem,simprocAttr,hb,hv])|fail|(with_reducible (first|apply oC|apply oJ|exact oK|apply wA|apply wB|apply wC hX hC|apply wD hX hC|apply wE hX hC af|apply wF hX hC af|apply wG|apply wH|apply And.intro))|((with_reducible refine oD ?_ ?_);first|fail|kernel_rfl)|((with_reducible (first|apply oE|apply oF));(iterate 3 exact rfl);all_goals (intro h;first|(exact absurd h (by decide))|((try simp only [go_sem,simprocAttr,hb,hv] at h);(try with_reducible intro K hK);simp only [go_sem,simprocAttr,hb,hv])))|((first|((with_reducible apply wL);exact rfl)|((with_reducible apply wM);exact rfl));all_goals (try ((with_reducible intro h);first|(exact absurd h (by decide))|(try simp only [go_sem,simprocAttr,hb,hv] at h))))|omega|((first|(refine az hX hC hP [(10000,33)] (ek (ls.flatten.length:Int) (by omega) (by omega)) rfl rfl rfl ?_ ?_ ?_ ?_ ?_ ?_ ?_ ?_ ?_ ?_ ?_ ?_ ?_ ?_;(focus (simp only [go_sem,simprocAttr,hb,hv];done));(iterate 12 (focus (simp [go_sem,simprocAttr,hb,hv];done)));simp only [go_sem,simprocAttr,hb,hv,List.map_cons,List.map_nil]));try simp only [go_sem,simprocAttr,hb,hv])|(intro h))
   ·refine ⟨k+1,by omega, ?_,by omega⟩
    rw [lR,if_pos (by omega)]
    refine Le.of ?_ ?_<;>simp [go_sem,simprocAttr,hb,hv]
    rfl
   ·refine ⟨k+1,by omega, ?_,by omega⟩
    rw [lR,if_neg (by omega),List.append_nil]
    refine Le.of ?_ ?_<;>simp [go_sem,simprocAttr,hb,hv]
  ·have hb:decide ((k:Int)<(ls.length:Int))=false:=decide_eq_false (by omega)
   obtain rfl:k=ls.length:=by omega
   repeat' (first|fail|((first|((with_reducible (first|apply oA|apply oB));exact rfl;intro K hK)|(refine hK _ ?_;clear hK K)|((with_reducible (first|apply oG|apply oH));iterate 3 exact rfl)|((with_reducible apply oI);(iterate 2 exact rfl);intro K hK)|(with_reducible (first|apply wI|apply wJ|apply wK)));try simp only [go_sem,simprocAttr,hb])|fail|(with_reducible (first|apply oC|apply oJ|exact oK|apply wA|apply wB|apply wC hX hC|apply wD hX hC|apply wE hX hC af|apply wF hX hC af|apply wG|apply wH|apply And.intro))|((with_reducible refine oD ?_ ?_);first|fail|kernel_rfl)|((with_reducible (first|apply oE|apply oF));(iterate 3 exact rfl);all_goals (intro h;first|(exact absurd h (by decide))|((try simp only [go_sem,simprocAttr,hb] at h);(try with_reducible intro K hK);simp only [go_sem,simprocAttr,hb])))|((first|((with_reducible apply wL);exact rfl)|((with_reducible apply wM);exact rfl));all_goals (try ((with_reducible intro h);first|(exact absurd h (by decide))|(try simp only [go_sem,simprocAttr,hb] at h))))|omega|((first|(refine az hX hC hP [(10000,33)] (ek (ls.flatten.length:Int) (by omega) (by omega)) rfl rfl rfl ?_ ?_ ?_ ?_ ?_ ?_ ?_ ?_ ?_ ?_ ?_ ?_ ?_ ?_;(focus (simp only [go_sem,simprocAttr,hb];done));(iterate 12 (focus (simp [go_sem,simprocAttr,hb];done)));simp only [go_sem,simprocAttr,hb,List.map_cons,List.map_nil]));try simp only [go_sem,simprocAttr,hb])|(intro h))
theorem BF {f:Edge→Int} {g:Gr} :DC f g=vL (cD f g):=rfl
theorem gl {f:Edge→Int} {g:Gr} :(cD f g).length=g.n.toNat:=by simp [cD]
def bB (f:Edge→Int) (g:Gr):List Int:=gG (cD f g) g.n.toNat
theorem dG (g:Gr) (hm:aO g=true):Spec Tryz.prog 28 (Args [.d (vw g)]) [] (.d (sI (bB (·.2) g))) []:=by
 rw [ah]
 have hn:=aW hm
 have hle:(cD (·.2) g).length≤1000:=by rw [gl];omega
 (refine Spec.intro (C:=T.cfg [] []) (rs:= [.t 2]) (T.ak _ _) Tryz.func28 rfl rfl Tryz.ntmps28 Tryz.results28 (by simp [AObj.isNest]) (by simp [AObj.isNest]) (by kernel_rfl) ?_;intro X hX hP hC aK aL vals hA;refine ⟨_,by simp,hA, ?_⟩;have af:X.P.follows .mixedOrders=true:=(by rw [hP];exact T.mixed);clear aK aL)
 repeat' (first|fail|((first|((with_reducible (first|apply oA|apply oB));exact rfl;intro K hK)|(refine hK _ ?_;clear hK K)|((with_reducible (first|apply oG|apply oH));iterate 3 exact rfl)|((with_reducible apply oI);(iterate 2 exact rfl);intro K hK)|(with_reducible (first|apply wI|apply wJ|apply wK)));try simp only [go_sem,simprocAttr])|fail|(with_reducible (first|apply oC|apply oJ|exact oK|apply wA|apply wB|apply wC hX hC|apply wD hX hC|apply wE hX hC af|apply wF hX hC af|apply wG|apply wH|apply And.intro))|((with_reducible refine oD ?_ ?_);first|fail|kernel_rfl)|((with_reducible (first|apply oE|apply oF));(iterate 3 exact rfl);all_goals (intro h;first|(exact absurd h (by decide))|((try simp only [go_sem,simprocAttr] at h);(try with_reducible intro K hK);simp only [go_sem,simprocAttr])))|((first|((with_reducible apply wL);exact rfl)|((with_reducible apply wM);exact rfl));all_goals (try ((with_reducible intro h);first|(exact absurd h (by decide))|(try simp only [go_sem,simprocAttr] at h))))|omega|((first|(rw [BF];refine aa hX hC hP (sY (cD (·.2) g) hle) rfl rfl rfl (by simp only [go_sem,simprocAttr]) rfl ?_));try simp only [go_sem,simprocAttr])|(intro h))
 rw [gl];rfl
theorem qQ (g:Gr) (hm:aO g=true):Spec Tryz.prog 29 (Args [.d (vw g)]) [] (.d (sI (bB (·.1) g))) []:=by
 rw [ah]
 have hn:=aW hm
 have hle:(cD (·.1) g).length≤1000:=by rw [gl];omega
 (refine Spec.intro (C:=T.cfg [] []) (rs:= [.t 2]) (T.ak _ _) Tryz.func29 rfl rfl Tryz.ntmps29 Tryz.results29 (by simp [AObj.isNest]) (by simp [AObj.isNest]) (by kernel_rfl) ?_;intro X hX hP hC aK aL vals hA;refine ⟨_,by simp,hA, ?_⟩;have af:X.P.follows .mixedOrders=true:=(by rw [hP];exact T.mixed);clear aK aL)
 repeat' (first|fail|((first|((with_reducible (first|apply oA|apply oB));exact rfl;intro K hK)|(refine hK _ ?_;clear hK K)|((with_reducible (first|apply oG|apply oH));iterate 3 exact rfl)|((with_reducible apply oI);(iterate 2 exact rfl);intro K hK)|(with_reducible (first|apply wI|apply wJ|apply wK)));try simp only [go_sem,simprocAttr])|fail|(with_reducible (first|apply oC|apply oJ|exact oK|apply wA|apply wB|apply wC hX hC|apply wD hX hC|apply wE hX hC af|apply wF hX hC af|apply wG|apply wH|apply And.intro))|((with_reducible refine oD ?_ ?_);first|fail|kernel_rfl)|((with_reducible (first|apply oE|apply oF));(iterate 3 exact rfl);all_goals (intro h;first|(exact absurd h (by decide))|((try simp only [go_sem,simprocAttr] at h);(try with_reducible intro K hK);simp only [go_sem,simprocAttr])))|((first|((with_reducible apply wL);exact rfl)|((with_reducible apply wM);exact rfl));all_goals (try ((with_reducible intro h);first|(exact absurd h (by decide))|(try simp only [go_sem,simprocAttr] at h))))|omega|((first|(rw [BF];refine aa hX hC hP (sY (cD (·.1) g) hle) rfl rfl rfl (by simp only [go_sem,simprocAttr]) rfl ?_));try simp only [go_sem,simprocAttr])|(intro h))
 rw [gl];rfl
end Go.Ab
end
