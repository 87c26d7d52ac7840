/- A part of the proof. -/
import Derived.Test.YtjmaiddbinlooaaGreatProg
import Derived.Test.YtjmaiddbinlooaaGreatL5P9
set_option linter.unusedSimpArgs false
set_option linter.unusedVariables false
section
namespace Go.Ab.T
open Go.Proofs
def T:Nat→Option TI
 |1=>some ⟨.sc,1,8, [(.d (.sc .nilFunc))]⟩
 |2=>some ⟨(.int .i64),1,8, [(.d (.sc (.int .i64 0)))]⟩
 |3=>some ⟨(.int .i64),1,8, [(.d (.sc (.int .i64 0)))]⟩
 |4=>some ⟨.bool,1,1, [(.d (.sc (.bool false)))]⟩
 |5=>some ⟨(.int .u8),1,1, [(.d (.sc (.int .u8 0)))]⟩
 |9=>some ⟨.sc,1,16, [(.d (.sc (.string ⟨#[]⟩)))]⟩
 |12=>some ⟨(.int .u64),1,8, [(.d (.sc (.int .u64 0)))]⟩
 |21=>some ⟨(.int .i32),1,4, [(.d (.sc (.int .i32 0)))]⟩
 |22=>some ⟨(.sl 58),1,24, [(.nil 58)]⟩
 |24=>some ⟨(.st [(0,3),(1,22)]),2,32, [(.d (.sc (.int .i64 0))),(.nil 58)]⟩
 |25=>some ⟨(.sl 3),1,24, [(.nil 3)]⟩
 |26=>some ⟨(.sl 25),1,24, [(.nil 25)]⟩
 |28=>some ⟨(.st [(0,25),(1,26)]),2,48, [(.nil 3),(.nil 25)]⟩
 |29=>some ⟨.sc,1,8, [(.d (.sc .nilFunc))]⟩
 |30=>some ⟨.sc,1,8, [(.d (.sc .nilFunc))]⟩
 |32=>some ⟨(.st [(0,25),(1,25),(2,25),(3,25)]),4,96, [(.nil 3),(.nil 3),(.nil 3),(.nil 3)]⟩
 |33=>some ⟨(.int .i64),1,8, [(.d (.sc (.int .i64 0)))]⟩
 |35=>some ⟨.sc,1,8, [(.d (.sc .nilFunc))]⟩
 |36=>some ⟨.sc,1,8, [(.d (.sc .nilFunc))]⟩
 |37=>some ⟨(.st [(0,25),(1,25),(2,25),(3,25)]),4,96, [(.nil 3),(.nil 3),(.nil 3),(.nil 3)]⟩
 |39=>some ⟨.sc,1,8, [(.d (.sc .nilFunc))]⟩
 |40=>some ⟨.sc,1,8, [(.d (.sc .nilFunc))]⟩
 |41=>some ⟨.sc,1,8, [(.d (.sc .nilFunc))]⟩
 |42=>some ⟨.sc,1,8, [(.d (.sc .nilFunc))]⟩
 |43=>some ⟨.sc,1,8, [(.d (.sc .nilFunc))]⟩
 |44=>some ⟨.sc,1,8, [(.d (.sc .nilFunc))]⟩
 |45=>some ⟨(.pt 100),1,8, [(.d (.sc (.pointer none)))]⟩
 |46=>some ⟨.sc,1,8, [(.d (.sc .nilFunc))]⟩
 |48=>some ⟨.sc,1,8, [(.d (.sc .nilFunc))]⟩
 |49=>some ⟨.sc,1,8, [(.d (.sc .nilFunc))]⟩
 |50=>some ⟨(.sl 25),1,24, [(.nil 25)]⟩
 |52=>some ⟨.sc,1,8, [(.d (.sc .nilFunc))]⟩
 |53=>some ⟨.sc,1,8, [(.d (.sc .nilFunc))]⟩
 |54=>some ⟨.sc,1,8, [(.d (.sc .nilFunc))]⟩
 |55=>some ⟨(.sl 60),1,24, [(.nil 60)]⟩
 |56=>some ⟨.sc,1,8, [(.d (.sc .nilFunc))]⟩
 |58=>some ⟨(.st [(0,3),(1,3)]),2,16, [(.d (.sc (.int .i64 0))),(.d (.sc (.int .i64 0)))]⟩
 |59=>some ⟨(.int .u64),1,8, [(.d (.sc (.int .u64 0)))]⟩
 |60=>some ⟨(.int .u64),1,8, [(.d (.sc (.int .u64 0)))]⟩
 |61=>some ⟨.sc,1,8, [(.d (.sc .nilFunc))]⟩
 |62=>some ⟨(.ar 4 4),4,4, [(.d (.sc (.bool false))),(.d (.sc (.bool false))),(.d (.sc (.bool false))),(.d (.sc (.bool false)))]⟩
 |64=>some ⟨(.st [(0,25),(1,25),(2,25),(3,25)]),4,96, [(.nil 3),(.nil 3),(.nil 3),(.nil 3)]⟩
 |66=>some ⟨.sc,1,8, [(.d (.sc .nilFunc))]⟩
 |67=>some ⟨(.st [(0,25),(1,25),(2,25),(3,25)]),4,96, [(.nil 3),(.nil 3),(.nil 3),(.nil 3)]⟩
 |69=>some ⟨.sc,1,8, [(.d (.sc .nilFunc))]⟩
 |71=>some ⟨.sc,1,8, [(.d (.sc .nilFunc))]⟩
 |72=>some ⟨.sc,1,8, [(.d (.sc .nilFunc))]⟩
 |73=>some ⟨.sc,1,8, [(.d (.sc .nilFunc))]⟩
 |75=>some ⟨.sc,1,8, [(.d (.sc .nilFunc))]⟩
 |76=>some ⟨.sc,1,8, [(.d (.sc .nilFunc))]⟩
 |77=>some ⟨.sc,1,8, [(.d (.sc .nilFunc))]⟩
 |78=>some ⟨.sc,1,8, [(.d (.sc .nilFunc))]⟩
 |79=>some ⟨(.sl 80),1,24, [(.nil 80)]⟩
 |80=>some ⟨(.sl 96),1,24, [(.nil 96)]⟩
 |82=>some ⟨(.st [(0,33),(1,3),(2,25)]),3,40, [(.d (.sc (.int .i64 0))),(.d (.sc (.int .i64 0))),(.nil 3)]⟩
 |84=>some ⟨.sc,1,8, [(.d (.sc .nilFunc))]⟩
 |85=>some ⟨.sc,1,8, [(.d (.sc .nilFunc))]⟩
 |86=>some ⟨.sc,1,8, [(.d (.sc .nilFunc))]⟩
 |87=>some ⟨.sc,1,8, [(.d (.sc .nilFunc))]⟩
 |88=>some ⟨(.pt 90),1,8, [(.d (.sc (.pointer none)))]⟩
 |90=>some ⟨(.st [(0,25),(1,25),(2,32)]),6,144, [(.nil 3),(.nil 3),(.nil 3),(.nil 3),(.nil 3),(.nil 3)]⟩
 |91=>some ⟨.sc,1,8, [(.d (.sc .nilFunc))]⟩
 |92=>some ⟨.sc,1,8, [(.d (.sc .nilFunc))]⟩
 |93=>some ⟨.sc,1,8, [(.d (.sc .nilFunc))]⟩
 |94=>some ⟨.sc,1,8, [(.d (.sc .nilFunc))]⟩
 |96=>some ⟨(.st [(0,3),(1,3),(2,3)]),3,24, [(.d (.sc (.int .i64 0))),(.d (.sc (.int .i64 0))),(.d (.sc (.int .i64 0)))]⟩
 |97=>some ⟨.sc,1,8, [(.d (.sc .nilFunc))]⟩
 |98=>some ⟨.sc,1,8, [(.d (.sc .nilFunc))]⟩
 |100=>some ⟨(.st [(0,24),(2,26),(3,26)]),4,80, [(.d (.sc (.int .i64 0))),(.nil 58),(.nil 25),(.nil 25)]⟩
 |101=>some ⟨.sc,1,8, [(.d (.sc .nilFunc))]⟩
 |103=>some ⟨.sc,1,8, [(.d (.sc .nilFunc))]⟩
 |104=>some ⟨.sc,1,8, [(.d (.sc .nilFunc))]⟩
 |105=>some ⟨.sc,1,8, [(.d (.sc .nilFunc))]⟩
 |106=>some ⟨.sc,1,8, [(.d (.sc .nilFunc))]⟩
 |107=>some ⟨.sc,1,8, [(.d (.sc .nilFunc))]⟩
 |108=>some ⟨.sc,1,8, [(.d (.sc .nilFunc))]⟩
 |109=>some ⟨.sc,1,8, [(.d (.sc .nilFunc))]⟩
 |110=>some ⟨.sc,1,8, [(.d (.sc .nilFunc))]⟩
 |112=>some ⟨.sc,1,8, [(.d (.sc .nilFunc))]⟩
 |113=>some ⟨.sc,1,8, [(.d (.sc .nilFunc))]⟩
 |114=>some ⟨.sc,1,8, [(.d (.sc .nilFunc))]⟩
 |115=>some ⟨.sc,1,8, [(.d (.sc .nilFunc))]⟩
 |116=>some ⟨.sc,1,8, [(.d (.sc .nilFunc))]⟩
 |117=>some ⟨.sc,1,8, [(.d (.sc .nilFunc))]⟩
 |118=>some ⟨.sc,1,8, [(.d (.sc .nilFunc))]⟩
 |119=>some ⟨.sc,1,8, [(.d (.sc .nilFunc))]⟩
 |120=>some ⟨.sc,1,8, [(.d (.sc .nilFunc))]⟩
 |121=>some ⟨.sc,1,8, [(.d (.sc .nilFunc))]⟩
 |122=>some ⟨(.sl 4),1,24, [(.nil 4)]⟩
 |123=>some ⟨(.pt 133),1,8, [(.d (.sc (.pointer none)))]⟩
 |125=>some ⟨.sc,1,8, [(.d (.sc .nilFunc))]⟩
 |126=>some ⟨.sc,1,8, [(.d (.sc .nilFunc))]⟩
 |128=>some ⟨.sc,1,8, [(.d (.sc .nilFunc))]⟩
 |129=>some ⟨.sc,1,8, [(.d (.sc .nilFunc))]⟩
 |131=>some ⟨(.st [(0,80)]),1,24, [(.nil 96)]⟩
 |133=>some ⟨(.st [(0,131),(1,45),(2,25)]),3,56, [(.nil 96),(.d (.sc (.pointer none))),(.nil 3)]⟩
 |135=>some ⟨.sc,1,8, [(.d (.sc .nilFunc))]⟩
 |136=>some ⟨.sc,1,8, [(.d (.sc .nilFunc))]⟩
 |137=>some ⟨.sc,1,8, [(.d (.sc .nilFunc))]⟩
 |138=>some ⟨.sc,1,8, [(.d (.sc .nilFunc))]⟩
 |139=>some ⟨.sc,1,8, [(.d (.sc .nilFunc))]⟩
 |140=>some ⟨.sc,1,8, [(.d (.sc .nilFunc))]⟩
 |141=>some ⟨.sc,1,8, [(.d (.sc .nilFunc))]⟩
 |143=>some ⟨.sc,1,8, [(.d (.sc .nilFunc))]⟩
 |145=>some ⟨.sc,1,8, [(.d (.sc .nilFunc))]⟩
 |146=>some ⟨.sc,1,8, [(.d (.sc .nilFunc))]⟩
 |147=>some ⟨.sc,1,8, [(.d (.sc .nilFunc))]⟩
 |148=>some ⟨.sc,1,8, [(.d (.sc .nilFunc))]⟩
 |149=>some ⟨.sc,1,8, [(.d (.sc .nilFunc))]⟩
 |150=>some ⟨.sc,1,8, [(.d (.sc .nilFunc))]⟩
 |151=>some ⟨.sc,1,8, [(.d (.sc .nilFunc))]⟩
 |152=>some ⟨(.int .u64),1,8, [(.d (.sc (.int .u64 0)))]⟩
 |153=>some ⟨.sc,1,8, [(.d (.sc .nilFunc))]⟩
 |154=>some ⟨.sc,1,8, [(.d (.sc .nilFunc))]⟩
 |155=>some ⟨.sc,1,8, [(.d (.sc .nilFunc))]⟩
 |156=>some ⟨.sc,1,8, [(.d (.sc .nilFunc))]⟩
 |158=>some ⟨.sc,1,8, [(.d (.sc .nilFunc))]⟩
 |159=>some ⟨.sc,1,8, [(.d (.sc .nilFunc))]⟩
 |160=>some ⟨.sc,1,8, [(.d (.sc .nilFunc))]⟩
 |161=>some ⟨(.pt 131),1,8, [(.d (.sc (.pointer none)))]⟩
 |162=>some ⟨.sc,1,8, [(.d (.sc .nilFunc))]⟩
 |163=>some ⟨(.pt 165),1,8, [(.d (.sc (.pointer none)))]⟩
 |165=>some ⟨(.st [(0,24),(2,80),(3,25)]),4,80, [(.d (.sc (.int .i64 0))),(.nil 58),(.nil 96),(.nil 3)]⟩
 |167=>some ⟨.sc,1,8, [(.d (.sc .nilFunc))]⟩
 |168=>some ⟨.sc,1,8, [(.d (.sc .nilFunc))]⟩
 |169=>some ⟨.sc,1,8, [(.d (.sc .nilFunc))]⟩
 |170=>some ⟨.sc,1,8, [(.d (.sc .nilFunc))]⟩
 |171=>some ⟨.sc,1,8, [(.d (.sc .nilFunc))]⟩
 |172=>some ⟨.sc,1,8, [(.d (.sc .nilFunc))]⟩
 |173=>some ⟨(.int .i64),1,8, [(.d (.sc (.int .i64 0)))]⟩
 |175=>some ⟨.sc,1,8, [(.d (.sc .nilFunc))]⟩
 |176=>some ⟨.sc,1,8, [(.d (.sc .nilFunc))]⟩
 |177=>some ⟨.sc,1,8, [(.d (.sc .nilFunc))]⟩
 |179=>some ⟨.sc,1,8, [(.d (.sc .nilFunc))]⟩
 |180=>some ⟨.sc,1,8, [(.d (.sc .nilFunc))]⟩
 |181=>some ⟨(.int .u32),1,4, [(.d (.sc (.int .u32 0)))]⟩
 |182=>some ⟨.sc,1,8, [(.d (.sc .nilFunc))]⟩
 |183=>some ⟨.sc,1,8, [(.d (.sc .nilFunc))]⟩
 |184=>some ⟨.sc,1,8, [(.d (.sc .nilFunc))]⟩
 |185=>some ⟨.sc,1,8, [(.d (.sc .nilFunc))]⟩
 |186=>some ⟨(.int .u64),1,8, [(.d (.sc (.int .u64 0)))]⟩
 |187=>some ⟨.sc,1,8, [(.d (.sc .nilFunc))]⟩
 |188=>some ⟨.sc,1,8, [(.d (.sc .nilFunc))]⟩
 |189=>some ⟨.sc,1,8, [(.d (.sc .nilFunc))]⟩
 |190=>some ⟨(.pt 3),1,8, [(.d (.sc (.pointer none)))]⟩
 |191=>some ⟨.sc,1,8, [(.d (.sc .nilFunc))]⟩
 |192=>some ⟨.sc,1,8, [(.d (.sc .nilFunc))]⟩
 |193=>some ⟨.sc,1,8, [(.d (.sc .nilFunc))]⟩
 |194=>some ⟨.sc,1,8, [(.d (.sc .nilFunc))]⟩
 |195=>some ⟨.sc,1,8, [(.d (.sc .nilFunc))]⟩
 |196=>some ⟨.sc,1,8, [(.d (.sc .nilFunc))]⟩
 |197=>some ⟨(.pt 186),1,8, [(.d (.sc (.pointer none)))]⟩
 |199=>some ⟨.sc,1,8, [(.d (.sc .nilFunc))]⟩
 |200=>some ⟨.sc,1,8, [(.d (.sc .nilFunc))]⟩
 |201=>some ⟨.sc,1,8, [(.d (.sc .nilFunc))]⟩
 |202=>some ⟨.sc,1,8, [(.d (.sc .nilFunc))]⟩
 |203=>some ⟨.sc,1,8, [(.d (.sc .nilFunc))]⟩
 |204=>some ⟨.sc,1,8, [(.d (.sc .nilFunc))]⟩
 |205=>some ⟨.sc,1,8, [(.d (.sc .nilFunc))]⟩
 |206=>some ⟨.sc,1,8, [(.d (.sc .nilFunc))]⟩
 |207=>some ⟨.sc,1,8, [(.d (.sc .nilFunc))]⟩
 |208=>some ⟨.sc,1,8, [(.d (.sc .nilFunc))]⟩
 |209=>some ⟨.sc,1,8, [(.d (.sc .nilFunc))]⟩
 |215=>some ⟨.sc,1,8, [(.d (.sc .nilFunc))]⟩
 |219=>some ⟨(.pt 5),1,8, [(.d (.sc (.pointer none)))]⟩
 |_=>none
theorem T1:T 1=some ⟨.sc,1,8, [(.d (.sc .nilFunc))]⟩:=rfl
theorem T2:T 2=some ⟨(.int .i64),1,8, [(.d (.sc (.int .i64 0)))]⟩:=rfl
theorem T3:T 3=some ⟨(.int .i64),1,8, [(.d (.sc (.int .i64 0)))]⟩:=rfl
theorem T4:T 4=some ⟨.bool,1,1, [(.d (.sc (.bool false)))]⟩:=rfl
theorem T5:T 5=some ⟨(.int .u8),1,1, [(.d (.sc (.int .u8 0)))]⟩:=rfl
theorem T9:T 9=some ⟨.sc,1,16, [(.d (.sc (.string ⟨#[]⟩)))]⟩:=rfl
theorem T12:T 12=some ⟨(.int .u64),1,8, [(.d (.sc (.int .u64 0)))]⟩:=rfl
theorem T21:T 21=some ⟨(.int .i32),1,4, [(.d (.sc (.int .i32 0)))]⟩:=rfl
theorem T22:T 22=some ⟨(.sl 58),1,24, [(.nil 58)]⟩:=rfl
theorem T24:T 24=some ⟨(.st [(0,3),(1,22)]),2,32, [(.d (.sc (.int .i64 0))),(.nil 58)]⟩:=rfl
theorem T25:T 25=some ⟨(.sl 3),1,24, [(.nil 3)]⟩:=rfl
theorem T26:T 26=some ⟨(.sl 25),1,24, [(.nil 25)]⟩:=rfl
theorem T28:T 28=some ⟨(.st [(0,25),(1,26)]),2,48, [(.nil 3),(.nil 25)]⟩:=rfl
theorem T29:T 29=some ⟨.sc,1,8, [(.d (.sc .nilFunc))]⟩:=rfl
theorem T30:T 30=some ⟨.sc,1,8, [(.d (.sc .nilFunc))]⟩:=rfl
theorem T32:T 32=some ⟨(.st [(0,25),(1,25),(2,25),(3,25)]),4,96, [(.nil 3),(.nil 3),(.nil 3),(.nil 3)]⟩:=rfl
theorem T33:T 33=some ⟨(.int .i64),1,8, [(.d (.sc (.int .i64 0)))]⟩:=rfl
theorem T35:T 35=some ⟨.sc,1,8, [(.d (.sc .nilFunc))]⟩:=rfl
theorem T36:T 36=some ⟨.sc,1,8, [(.d (.sc .nilFunc))]⟩:=rfl
theorem T37:T 37=some ⟨(.st [(0,25),(1,25),(2,25),(3,25)]),4,96, [(.nil 3),(.nil 3),(.nil 3),(.nil 3)]⟩:=rfl
theorem T39:T 39=some ⟨.sc,1,8, [(.d (.sc .nilFunc))]⟩:=rfl
theorem T40:T 40=some ⟨.sc,1,8, [(.d (.sc .nilFunc))]⟩:=rfl
theorem T41:T 41=some ⟨.sc,1,8, [(.d (.sc .nilFunc))]⟩:=rfl
theorem T42:T 42=some ⟨.sc,1,8, [(.d (.sc .nilFunc))]⟩:=rfl
theorem T43:T 43=some ⟨.sc,1,8, [(.d (.sc .nilFunc))]⟩:=rfl
theorem T44:T 44=some ⟨.sc,1,8, [(.d (.sc .nilFunc))]⟩:=rfl
theorem T45:T 45=some ⟨(.pt 100),1,8, [(.d (.sc (.pointer none)))]⟩:=rfl
theorem T46:T 46=some ⟨.sc,1,8, [(.d (.sc .nilFunc))]⟩:=rfl
theorem T48:T 48=some ⟨.sc,1,8, [(.d (.sc .nilFunc))]⟩:=rfl
theorem T49:T 49=some ⟨.sc,1,8, [(.d (.sc .nilFunc))]⟩:=rfl
theorem T50:T 50=some ⟨(.sl 25),1,24, [(.nil 25)]⟩:=rfl
theorem T52:T 52=some ⟨.sc,1,8, [(.d (.sc .nilFunc))]⟩:=rfl
theorem T53:T 53=some ⟨.sc,1,8, [(.d (.sc .nilFunc))]⟩:=rfl
theorem T54:T 54=some ⟨.sc,1,8, [(.d (.sc .nilFunc))]⟩:=rfl
theorem T55:T 55=some ⟨(.sl 60),1,24, [(.nil 60)]⟩:=rfl
theorem T56:T 56=some ⟨.sc,1,8, [(.d (.sc .nilFunc))]⟩:=rfl
theorem T58:T 58=some ⟨(.st [(0,3),(1,3)]),2,16, [(.d (.sc (.int .i64 0))),(.d (.sc (.int .i64 0)))]⟩:=rfl
theorem T59:T 59=some ⟨(.int .u64),1,8, [(.d (.sc (.int .u64 0)))]⟩:=rfl
theorem T60:T 60=some ⟨(.int .u64),1,8, [(.d (.sc (.int .u64 0)))]⟩:=rfl
theorem T61:T 61=some ⟨.sc,1,8, [(.d (.sc .nilFunc))]⟩:=rfl
theorem T62:T 62=some ⟨(.ar 4 4),4,4, [(.d (.sc (.bool false))),(.d (.sc (.bool false))),(.d (.sc (.bool false))),(.d (.sc (.bool false)))]⟩:=rfl
theorem T64:T 64=some ⟨(.st [(0,25),(1,25),(2,25),(3,25)]),4,96, [(.nil 3),(.nil 3),(.nil 3),(.nil 3)]⟩:=rfl
theorem T66:T 66=some ⟨.sc,1,8, [(.d (.sc .nilFunc))]⟩:=rfl
theorem T67:T 67=some ⟨(.st [(0,25),(1,25),(2,25),(3,25)]),4,96, [(.nil 3),(.nil 3),(.nil 3),(.nil 3)]⟩:=rfl
theorem T69:T 69=some ⟨.sc,1,8, [(.d (.sc .nilFunc))]⟩:=rfl
theorem T71:T 71=some ⟨.sc,1,8, [(.d (.sc .nilFunc))]⟩:=rfl
theorem T72:T 72=some ⟨.sc,1,8, [(.d (.sc .nilFunc))]⟩:=rfl
theorem T73:T 73=some ⟨.sc,1,8, [(.d (.sc .nilFunc))]⟩:=rfl
theorem T75:T 75=some ⟨.sc,1,8, [(.d (.sc .nilFunc))]⟩:=rfl
theorem T76:T 76=some ⟨.sc,1,8, [(.d (.sc .nilFunc))]⟩:=rfl
theorem T77:T 77=some ⟨.sc,1,8, [(.d (.sc .nilFunc))]⟩:=rfl
theorem T78:T 78=some ⟨.sc,1,8, [(.d (.sc .nilFunc))]⟩:=rfl
theorem T79:T 79=some ⟨(.sl 80),1,24, [(.nil 80)]⟩:=rfl
theorem T80:T 80=some ⟨(.sl 96),1,24, [(.nil 96)]⟩:=rfl
theorem T82:T 82=some ⟨(.st [(0,33),(1,3),(2,25)]),3,40, [(.d (.sc (.int .i64 0))),(.d (.sc (.int .i64 0))),(.nil 3)]⟩:=rfl
theorem T84:T 84=some ⟨.sc,1,8, [(.d (.sc .nilFunc))]⟩:=rfl
theorem T85:T 85=some ⟨.sc,1,8, [(.d (.sc .nilFunc))]⟩:=rfl
theorem T86:T 86=some ⟨.sc,1,8, [(.d (.sc .nilFunc))]⟩:=rfl
theorem T87:T 87=some ⟨.sc,1,8, [(.d (.sc .nilFunc))]⟩:=rfl
theorem T88:T 88=some ⟨(.pt 90),1,8, [(.d (.sc (.pointer none)))]⟩:=rfl
theorem T90:T 90=some ⟨(.st [(0,25),(1,25),(2,32)]),6,144, [(.nil 3),(.nil 3),(.nil 3),(.nil 3),(.nil 3),(.nil 3)]⟩:=rfl
theorem T91:T 91=some ⟨.sc,1,8, [(.d (.sc .nilFunc))]⟩:=rfl
theorem T92:T 92=some ⟨.sc,1,8, [(.d (.sc .nilFunc))]⟩:=rfl
theorem T93:T 93=some ⟨.sc,1,8, [(.d (.sc .nilFunc))]⟩:=rfl
theorem T94:T 94=some ⟨.sc,1,8, [(.d (.sc .nilFunc))]⟩:=rfl
theorem T96:T 96=some ⟨(.st [(0,3),(1,3),(2,3)]),3,24, [(.d (.sc (.int .i64 0))),(.d (.sc (.int .i64 0))),(.d (.sc (.int .i64 0)))]⟩:=rfl
theorem T97:T 97=some ⟨.sc,1,8, [(.d (.sc .nilFunc))]⟩:=rfl
theorem T98:T 98=some ⟨.sc,1,8, [(.d (.sc .nilFunc))]⟩:=rfl
theorem T100:T 100=some ⟨(.st [(0,24),(2,26),(3,26)]),4,80, [(.d (.sc (.int .i64 0))),(.nil 58),(.nil 25),(.nil 25)]⟩:=rfl
theorem T101:T 101=some ⟨.sc,1,8, [(.d (.sc .nilFunc))]⟩:=rfl
theorem T103:T 103=some ⟨.sc,1,8, [(.d (.sc .nilFunc))]⟩:=rfl
theorem T104:T 104=some ⟨.sc,1,8, [(.d (.sc .nilFunc))]⟩:=rfl
theorem T105:T 105=some ⟨.sc,1,8, [(.d (.sc .nilFunc))]⟩:=rfl
theorem T106:T 106=some ⟨.sc,1,8, [(.d (.sc .nilFunc))]⟩:=rfl
theorem T107:T 107=some ⟨.sc,1,8, [(.d (.sc .nilFunc))]⟩:=rfl
theorem T108:T 108=some ⟨.sc,1,8, [(.d (.sc .nilFunc))]⟩:=rfl
theorem T109:T 109=some ⟨.sc,1,8, [(.d (.sc .nilFunc))]⟩:=rfl
theorem T110:T 110=some ⟨.sc,1,8, [(.d (.sc .nilFunc))]⟩:=rfl
theorem T112:T 112=some ⟨.sc,1,8, [(.d (.sc .nilFunc))]⟩:=rfl
theorem T113:T 113=some ⟨.sc,1,8, [(.d (.sc .nilFunc))]⟩:=rfl
theorem T114:T 114=some ⟨.sc,1,8, [(.d (.sc .nilFunc))]⟩:=rfl
theorem T115:T 115=some ⟨.sc,1,8, [(.d (.sc .nilFunc))]⟩:=rfl
theorem T116:T 116=some ⟨.sc,1,8, [(.d (.sc .nilFunc))]⟩:=rfl
theorem T117:T 117=some ⟨.sc,1,8, [(.d (.sc .nilFunc))]⟩:=rfl
theorem T118:T 118=some ⟨.sc,1,8, [(.d (.sc .nilFunc))]⟩:=rfl
theorem T119:T 119=some ⟨.sc,1,8, [(.d (.sc .nilFunc))]⟩:=rfl
theorem T120:T 120=some ⟨.sc,1,8, [(.d (.sc .nilFunc))]⟩:=rfl
theorem T121:T 121=some ⟨.sc,1,8, [(.d (.sc .nilFunc))]⟩:=rfl
theorem T122:T 122=some ⟨(.sl 4),1,24, [(.nil 4)]⟩:=rfl
theorem T123:T 123=some ⟨(.pt 133),1,8, [(.d (.sc (.pointer none)))]⟩:=rfl
theorem T125:T 125=some ⟨.sc,1,8, [(.d (.sc .nilFunc))]⟩:=rfl
theorem T126:T 126=some ⟨.sc,1,8, [(.d (.sc .nilFunc))]⟩:=rfl
theorem T128:T 128=some ⟨.sc,1,8, [(.d (.sc .nilFunc))]⟩:=rfl
theorem T129:T 129=some ⟨.sc,1,8, [(.d (.sc .nilFunc))]⟩:=rfl
theorem T131:T 131=some ⟨(.st [(0,80)]),1,24, [(.nil 96)]⟩:=rfl
theorem T133:T 133=some ⟨(.st [(0,131),(1,45),(2,25)]),3,56, [(.nil 96),(.d (.sc (.pointer none))),(.nil 3)]⟩:=rfl
theorem T135:T 135=some ⟨.sc,1,8, [(.d (.sc .nilFunc))]⟩:=rfl
theorem T136:T 136=some ⟨.sc,1,8, [(.d (.sc .nilFunc))]⟩:=rfl
theorem T137:T 137=some ⟨.sc,1,8, [(.d (.sc .nilFunc))]⟩:=rfl
theorem T138:T 138=some ⟨.sc,1,8, [(.d (.sc .nilFunc))]⟩:=rfl
theorem T139:T 139=some ⟨.sc,1,8, [(.d (.sc .nilFunc))]⟩:=rfl
theorem T140:T 140=some ⟨.sc,1,8, [(.d (.sc .nilFunc))]⟩:=rfl
theorem T141:T 141=some ⟨.sc,1,8, [(.d (.sc .nilFunc))]⟩:=rfl
theorem T143:T 143=some ⟨.sc,1,8, [(.d (.sc .nilFunc))]⟩:=rfl
theorem T145:T 145=some ⟨.sc,1,8, [(.d (.sc .nilFunc))]⟩:=rfl
theorem T146:T 146=some ⟨.sc,1,8, [(.d (.sc .nilFunc))]⟩:=rfl
theorem T147:T 147=some ⟨.sc,1,8, [(.d (.sc .nilFunc))]⟩:=rfl
theorem T148:T 148=some ⟨.sc,1,8, [(.d (.sc .nilFunc))]⟩:=rfl
theorem T149:T 149=some ⟨.sc,1,8, [(.d (.sc .nilFunc))]⟩:=rfl
theorem T150:T 150=some ⟨.sc,1,8, [(.d (.sc .nilFunc))]⟩:=rfl
theorem T151:T 151=some ⟨.sc,1,8, [(.d (.sc .nilFunc))]⟩:=rfl
theorem T152:T 152=some ⟨(.int .u64),1,8, [(.d (.sc (.int .u64 0)))]⟩:=rfl
theorem T153:T 153=some ⟨.sc,1,8, [(.d (.sc .nilFunc))]⟩:=rfl
theorem T154:T 154=some ⟨.sc,1,8, [(.d (.sc .nilFunc))]⟩:=rfl
theorem T155:T 155=some ⟨.sc,1,8, [(.d (.sc .nilFunc))]⟩:=rfl
theorem T156:T 156=some ⟨.sc,1,8, [(.d (.sc .nilFunc))]⟩:=rfl
theorem T158:T 158=some ⟨.sc,1,8, [(.d (.sc .nilFunc))]⟩:=rfl
theorem T159:T 159=some ⟨.sc,1,8, [(.d (.sc .nilFunc))]⟩:=rfl
theorem T160:T 160=some ⟨.sc,1,8, [(.d (.sc .nilFunc))]⟩:=rfl
theorem T161:T 161=some ⟨(.pt 131),1,8, [(.d (.sc (.pointer none)))]⟩:=rfl
theorem T162:T 162=some ⟨.sc,1,8, [(.d (.sc .nilFunc))]⟩:=rfl
theorem T163:T 163=some ⟨(.pt 165),1,8, [(.d (.sc (.pointer none)))]⟩:=rfl
theorem T165:T 165=some ⟨(.st [(0,24),(2,80),(3,25)]),4,80, [(.d (.sc (.int .i64 0))),(.nil 58),(.nil 96),(.nil 3)]⟩:=rfl
theorem T167:T 167=some ⟨.sc,1,8, [(.d (.sc .nilFunc))]⟩:=rfl
theorem T168:T 168=some ⟨.sc,1,8, [(.d (.sc .nilFunc))]⟩:=rfl
theorem T169:T 169=some ⟨.sc,1,8, [(.d (.sc .nilFunc))]⟩:=rfl
theorem T170:T 170=some ⟨.sc,1,8, [(.d (.sc .nilFunc))]⟩:=rfl
theorem T171:T 171=some ⟨.sc,1,8, [(.d (.sc .nilFunc))]⟩:=rfl
theorem T172:T 172=some ⟨.sc,1,8, [(.d (.sc .nilFunc))]⟩:=rfl
theorem T173:T 173=some ⟨(.int .i64),1,8, [(.d (.sc (.int .i64 0)))]⟩:=rfl
theorem T175:T 175=some ⟨.sc,1,8, [(.d (.sc .nilFunc))]⟩:=rfl
theorem T176:T 176=some ⟨.sc,1,8, [(.d (.sc .nilFunc))]⟩:=rfl
theorem T177:T 177=some ⟨.sc,1,8, [(.d (.sc .nilFunc))]⟩:=rfl
theorem T179:T 179=some ⟨.sc,1,8, [(.d (.sc .nilFunc))]⟩:=rfl
theorem T180:T 180=some ⟨.sc,1,8, [(.d (.sc .nilFunc))]⟩:=rfl
theorem T181:T 181=some ⟨(.int .u32),1,4, [(.d (.sc (.int .u32 0)))]⟩:=rfl
theorem T182:T 182=some ⟨.sc,1,8, [(.d (.sc .nilFunc))]⟩:=rfl
theorem T183:T 183=some ⟨.sc,1,8, [(.d (.sc .nilFunc))]⟩:=rfl
theorem T184:T 184=some ⟨.sc,1,8, [(.d (.sc .nilFunc))]⟩:=rfl
theorem T185:T 185=some ⟨.sc,1,8, [(.d (.sc .nilFunc))]⟩:=rfl
theorem T186:T 186=some ⟨(.int .u64),1,8, [(.d (.sc (.int .u64 0)))]⟩:=rfl
theorem T187:T 187=some ⟨.sc,1,8, [(.d (.sc .nilFunc))]⟩:=rfl
theorem T188:T 188=some ⟨.sc,1,8, [(.d (.sc .nilFunc))]⟩:=rfl
theorem T189:T 189=some ⟨.sc,1,8, [(.d (.sc .nilFunc))]⟩:=rfl
theorem T190:T 190=some ⟨(.pt 3),1,8, [(.d (.sc (.pointer none)))]⟩:=rfl
theorem T191:T 191=some ⟨.sc,1,8, [(.d (.sc .nilFunc))]⟩:=rfl
theorem T192:T 192=some ⟨.sc,1,8, [(.d (.sc .nilFunc))]⟩:=rfl
theorem T193:T 193=some ⟨.sc,1,8, [(.d (.sc .nilFunc))]⟩:=rfl
theorem T194:T 194=some ⟨.sc,1,8, [(.d (.sc .nilFunc))]⟩:=rfl
theorem T195:T 195=some ⟨.sc,1,8, [(.d (.sc .nilFunc))]⟩:=rfl
theorem T196:T 196=some ⟨.sc,1,8, [(.d (.sc .nilFunc))]⟩:=rfl
theorem T197:T 197=some ⟨(.pt 186),1,8, [(.d (.sc (.pointer none)))]⟩:=rfl
theorem T199:T 199=some ⟨.sc,1,8, [(.d (.sc .nilFunc))]⟩:=rfl
theorem T200:T 200=some ⟨.sc,1,8, [(.d (.sc .nilFunc))]⟩:=rfl
theorem T201:T 201=some ⟨.sc,1,8, [(.d (.sc .nilFunc))]⟩:=rfl
theorem T202:T 202=some ⟨.sc,1,8, [(.d (.sc .nilFunc))]⟩:=rfl
theorem T203:T 203=some ⟨.sc,1,8, [(.d (.sc .nilFunc))]⟩:=rfl
theorem T204:T 204=some ⟨.sc,1,8, [(.d (.sc .nilFunc))]⟩:=rfl
theorem T205:T 205=some ⟨.sc,1,8, [(.d (.sc .nilFunc))]⟩:=rfl
theorem T206:T 206=some ⟨.sc,1,8, [(.d (.sc .nilFunc))]⟩:=rfl
theorem T207:T 207=some ⟨.sc,1,8, [(.d (.sc .nilFunc))]⟩:=rfl
theorem T208:T 208=some ⟨.sc,1,8, [(.d (.sc .nilFunc))]⟩:=rfl
theorem T209:T 209=some ⟨.sc,1,8, [(.d (.sc .nilFunc))]⟩:=rfl
theorem T215:T 215=some ⟨.sc,1,8, [(.d (.sc .nilFunc))]⟩:=rfl
theorem T219:T 219=some ⟨(.pt 5),1,8, [(.d (.sc (.pointer none)))]⟩:=rfl
def yp:Nat→Option Nat
 |58=>some 2
 |96=>some 3
 |_=>none
theorem eqn58:yp 58=some 2:=rfl
theorem eqn96:yp 96=some 3:=rfl
theorem NT:ag Tryz.prog 1 ⟨.sc,1,8, [(.d (.sc .nilFunc))]⟩:=ag.mk' (by kernel_rfl) (by kernel_rfl) rfl ⟨_,Tryz.underlying1,trivial⟩
theorem NU:ag Tryz.prog 2 ⟨(.int .i64),1,8, [(.d (.sc (.int .i64 0)))]⟩:=ag.mk' (by kernel_rfl) (by kernel_rfl) rfl Tryz.underlying2
theorem NV:ag Tryz.prog 3 ⟨(.int .i64),1,8, [(.d (.sc (.int .i64 0)))]⟩:=ag.mk' (by kernel_rfl) (by kernel_rfl) rfl Tryz.underlying3
theorem NW:ag Tryz.prog 4 ⟨.bool,1,1, [(.d (.sc (.bool false)))]⟩:=ag.mk' (by kernel_rfl) (by kernel_rfl) rfl Tryz.underlying4
theorem NX:ag Tryz.prog 5 ⟨(.int .u8),1,1, [(.d (.sc (.int .u8 0)))]⟩:=ag.mk' (by kernel_rfl) (by kernel_rfl) rfl Tryz.underlying5
theorem NY:ag Tryz.prog 9 ⟨.sc,1,16, [(.d (.sc (.string ⟨#[]⟩)))]⟩:=ag.mk' (by kernel_rfl) (by kernel_rfl) rfl ⟨_,Tryz.underlying9,trivial⟩
theorem Kw:ag Tryz.prog 12 ⟨(.int .u64),1,8, [(.d (.sc (.int .u64 0)))]⟩:=ag.mk' (by kernel_rfl) (by kernel_rfl) rfl Tryz.underlying12
theorem Kx:ag Tryz.prog 21 ⟨(.int .i32),1,4, [(.d (.sc (.int .i32 0)))]⟩:=ag.mk' (by kernel_rfl) (by kernel_rfl) rfl Tryz.underlying21
theorem Ky:ag Tryz.prog 22 ⟨(.sl 58),1,24, [(.nil 58)]⟩:=ag.mk' (by kernel_rfl) (by kernel_rfl) rfl Tryz.underlying22
theorem Kz:ag Tryz.prog 24 ⟨(.st [(0,3),(1,22)]),2,32, [(.d (.sc (.int .i64 0))),(.nil 58)]⟩:=ag.mk' (by kernel_rfl) (by kernel_rfl) rfl ⟨_,Tryz.underlying24,rfl⟩
theorem KA:ag Tryz.prog 25 ⟨(.sl 3),1,24, [(.nil 3)]⟩:=ag.mk' (by kernel_rfl) (by kernel_rfl) rfl Tryz.underlying25
theorem KB:ag Tryz.prog 26 ⟨(.sl 25),1,24, [(.nil 25)]⟩:=ag.mk' (by kernel_rfl) (by kernel_rfl) rfl Tryz.underlying26
theorem KC:ag Tryz.prog 28 ⟨(.st [(0,25),(1,26)]),2,48, [(.nil 3),(.nil 25)]⟩:=ag.mk' (by kernel_rfl) (by kernel_rfl) rfl ⟨_,Tryz.underlying28,rfl⟩
theorem KE:ag Tryz.prog 29 ⟨.sc,1,8, [(.d (.sc .nilFunc))]⟩:=ag.mk' (by kernel_rfl) (by kernel_rfl) rfl ⟨_,Tryz.underlying29,trivial⟩
theorem KF:ag Tryz.prog 30 ⟨.sc,1,8, [(.d (.sc .nilFunc))]⟩:=ag.mk' (by kernel_rfl) (by kernel_rfl) rfl ⟨_,Tryz.underlying30,trivial⟩
theorem KG:ag Tryz.prog 32 ⟨(.st [(0,25),(1,25),(2,25),(3,25)]),4,96, [(.nil 3),(.nil 3),(.nil 3),(.nil 3)]⟩:=ag.mk' (by kernel_rfl) (by kernel_rfl) rfl ⟨_,Tryz.underlying32,rfl⟩
theorem KH:ag Tryz.prog 33 ⟨(.int .i64),1,8, [(.d (.sc (.int .i64 0)))]⟩:=ag.mk' (by kernel_rfl) (by kernel_rfl) rfl Tryz.underlying33
theorem KI:ag Tryz.prog 35 ⟨.sc,1,8, [(.d (.sc .nilFunc))]⟩:=ag.mk' (by kernel_rfl) (by kernel_rfl) rfl ⟨_,Tryz.underlying35,trivial⟩
theorem KJ:ag Tryz.prog 36 ⟨.sc,1,8, [(.d (.sc .nilFunc))]⟩:=ag.mk' (by kernel_rfl) (by kernel_rfl) rfl ⟨_,Tryz.underlying36,trivial⟩
theorem KK:ag Tryz.prog 37 ⟨(.st [(0,25),(1,25),(2,25),(3,25)]),4,96, [(.nil 3),(.nil 3),(.nil 3),(.nil 3)]⟩:=ag.mk' (by kernel_rfl) (by kernel_rfl) rfl ⟨_,Tryz.underlying37,rfl⟩
theorem KL:ag Tryz.prog 39 ⟨.sc,1,8, [(.d (.sc .nilFunc))]⟩:=ag.mk' (by kernel_rfl) (by kernel_rfl) rfl ⟨_,Tryz.underlying39,trivial⟩
theorem KM:ag Tryz.prog 40 ⟨.sc,1,8, [(.d (.sc .nilFunc))]⟩:=ag.mk' (by kernel_rfl) (by kernel_rfl) rfl ⟨_,Tryz.underlying40,trivial⟩
theorem KN:ag Tryz.prog 41 ⟨.sc,1,8, [(.d (.sc .nilFunc))]⟩:=ag.mk' (by kernel_rfl) (by kernel_rfl) rfl ⟨_,Tryz.underlying41,trivial⟩
theorem KO:ag Tryz.prog 42 ⟨.sc,1,8, [(.d (.sc .nilFunc))]⟩:=ag.mk' (by kernel_rfl) (by kernel_rfl) rfl ⟨_,Tryz.underlying42,trivial⟩
theorem KP:ag Tryz.prog 43 ⟨.sc,1,8, [(.d (.sc .nilFunc))]⟩:=ag.mk' (by kernel_rfl) (by kernel_rfl) rfl ⟨_,Tryz.underlying43,trivial⟩
theorem KQ:ag Tryz.prog 44 ⟨.sc,1,8, [(.d (.sc .nilFunc))]⟩:=ag.mk' (by kernel_rfl) (by kernel_rfl) rfl ⟨_,Tryz.underlying44,trivial⟩
theorem KR:ag Tryz.prog 45 ⟨(.pt 100),1,8, [(.d (.sc (.pointer none)))]⟩:=ag.mk' (by kernel_rfl) (by kernel_rfl) rfl Tryz.underlying45
theorem KS:ag Tryz.prog 46 ⟨.sc,1,8, [(.d (.sc .nilFunc))]⟩:=ag.mk' (by kernel_rfl) (by kernel_rfl) rfl ⟨_,Tryz.underlying46,trivial⟩
theorem KT:ag Tryz.prog 48 ⟨.sc,1,8, [(.d (.sc .nilFunc))]⟩:=ag.mk' (by kernel_rfl) (by kernel_rfl) rfl ⟨_,Tryz.underlying48,trivial⟩
theorem KU:ag Tryz.prog 49 ⟨.sc,1,8, [(.d (.sc .nilFunc))]⟩:=ag.mk' (by kernel_rfl) (by kernel_rfl) rfl ⟨_,Tryz.underlying49,trivial⟩
theorem KW:ag Tryz.prog 50 ⟨(.sl 25),1,24, [(.nil 25)]⟩:=ag.mk' (by kernel_rfl) (by kernel_rfl) rfl Tryz.underlying50
theorem KX:ag Tryz.prog 52 ⟨.sc,1,8, [(.d (.sc .nilFunc))]⟩:=ag.mk' (by kernel_rfl) (by kernel_rfl) rfl ⟨_,Tryz.underlying52,trivial⟩
theorem KY:ag Tryz.prog 53 ⟨.sc,1,8, [(.d (.sc .nilFunc))]⟩:=ag.mk' (by kernel_rfl) (by kernel_rfl) rfl ⟨_,Tryz.underlying53,trivial⟩
theorem KZ:ag Tryz.prog 54 ⟨.sc,1,8, [(.d (.sc .nilFunc))]⟩:=ag.mk' (by kernel_rfl) (by kernel_rfl) rfl ⟨_,Tryz.underlying54,trivial⟩
theorem K0:ag Tryz.prog 55 ⟨(.sl 60),1,24, [(.nil 60)]⟩:=ag.mk' (by kernel_rfl) (by kernel_rfl) rfl Tryz.underlying55
theorem K1:ag Tryz.prog 56 ⟨.sc,1,8, [(.d (.sc .nilFunc))]⟩:=ag.mk' (by kernel_rfl) (by kernel_rfl) rfl ⟨_,Tryz.underlying56,trivial⟩
theorem K2:ag Tryz.prog 58 ⟨(.st [(0,3),(1,3)]),2,16, [(.d (.sc (.int .i64 0))),(.d (.sc (.int .i64 0)))]⟩:=ag.mk' (by kernel_rfl) (by kernel_rfl) rfl ⟨_,Tryz.underlying58,rfl⟩
theorem K3:ag Tryz.prog 59 ⟨(.int .u64),1,8, [(.d (.sc (.int .u64 0)))]⟩:=ag.mk' (by kernel_rfl) (by kernel_rfl) rfl Tryz.underlying59
theorem K4:ag Tryz.prog 60 ⟨(.int .u64),1,8, [(.d (.sc (.int .u64 0)))]⟩:=ag.mk' (by kernel_rfl) (by kernel_rfl) rfl Tryz.underlying60
theorem K5:ag Tryz.prog 61 ⟨.sc,1,8, [(.d (.sc .nilFunc))]⟩:=ag.mk' (by kernel_rfl) (by kernel_rfl) rfl ⟨_,Tryz.underlying61,trivial⟩
theorem K6:ag Tryz.prog 62 ⟨(.ar 4 4),4,4, [(.d (.sc (.bool false))),(.d (.sc (.bool false))),(.d (.sc (.bool false))),(.d (.sc (.bool false)))]⟩:=ag.mk' (by kernel_rfl) (by kernel_rfl) rfl Tryz.underlying62
theorem K7:ag Tryz.prog 64 ⟨(.st [(0,25),(1,25),(2,25),(3,25)]),4,96, [(.nil 3),(.nil 3),(.nil 3),(.nil 3)]⟩:=ag.mk' (by kernel_rfl) (by kernel_rfl) rfl ⟨_,Tryz.underlying64,rfl⟩
theorem K8:ag Tryz.prog 66 ⟨.sc,1,8, [(.d (.sc .nilFunc))]⟩:=ag.mk' (by kernel_rfl) (by kernel_rfl) rfl ⟨_,Tryz.underlying66,trivial⟩
theorem K9:ag Tryz.prog 67 ⟨(.st [(0,25),(1,25),(2,25),(3,25)]),4,96, [(.nil 3),(.nil 3),(.nil 3),(.nil 3)]⟩:=ag.mk' (by kernel_rfl) (by kernel_rfl) rfl ⟨_,Tryz.underlying67,rfl⟩
theorem La:ag Tryz.prog 69 ⟨.sc,1,8, [(.d (.sc .nilFunc))]⟩:=ag.mk' (by kernel_rfl) (by kernel_rfl) rfl ⟨_,Tryz.underlying69,trivial⟩
theorem Lb:ag Tryz.prog 71 ⟨.sc,1,8, [(.d (.sc .nilFunc))]⟩:=ag.mk' (by kernel_rfl) (by kernel_rfl) rfl ⟨_,Tryz.underlying71,trivial⟩
theorem Lc:ag Tryz.prog 72 ⟨.sc,1,8, [(.d (.sc .nilFunc))]⟩:=ag.mk' (by kernel_rfl) (by kernel_rfl) rfl ⟨_,Tryz.underlying72,trivial⟩
theorem Ld:ag Tryz.prog 73 ⟨.sc,1,8, [(.d (.sc .nilFunc))]⟩:=ag.mk' (by kernel_rfl) (by kernel_rfl) rfl ⟨_,Tryz.underlying73,trivial⟩
theorem Lg:ag Tryz.prog 75 ⟨.sc,1,8, [(.d (.sc .nilFunc))]⟩:=ag.mk' (by kernel_rfl) (by kernel_rfl) rfl ⟨_,Tryz.underlying75,trivial⟩
theorem Lh:ag Tryz.prog 76 ⟨.sc,1,8, [(.d (.sc .nilFunc))]⟩:=ag.mk' (by kernel_rfl) (by kernel_rfl) rfl ⟨_,Tryz.underlying76,trivial⟩
theorem Li:ag Tryz.prog 77 ⟨.sc,1,8, [(.d (.sc .nilFunc))]⟩:=ag.mk' (by kernel_rfl) (by kernel_rfl) rfl ⟨_,Tryz.underlying77,trivial⟩
theorem Lj:ag Tryz.prog 78 ⟨.sc,1,8, [(.d (.sc .nilFunc))]⟩:=ag.mk' (by kernel_rfl) (by kernel_rfl) rfl ⟨_,Tryz.underlying78,trivial⟩
theorem Lk:ag Tryz.prog 79 ⟨(.sl 80),1,24, [(.nil 80)]⟩:=ag.mk' (by kernel_rfl) (by kernel_rfl) rfl Tryz.underlying79
theorem Ll:ag Tryz.prog 80 ⟨(.sl 96),1,24, [(.nil 96)]⟩:=ag.mk' (by kernel_rfl) (by kernel_rfl) rfl Tryz.underlying80
theorem Lm:ag Tryz.prog 82 ⟨(.st [(0,33),(1,3),(2,25)]),3,40, [(.d (.sc (.int .i64 0))),(.d (.sc (.int .i64 0))),(.nil 3)]⟩:=ag.mk' (by kernel_rfl) (by kernel_rfl) rfl ⟨_,Tryz.underlying82,rfl⟩
theorem Ln:ag Tryz.prog 84 ⟨.sc,1,8, [(.d (.sc .nilFunc))]⟩:=ag.mk' (by kernel_rfl) (by kernel_rfl) rfl ⟨_,Tryz.underlying84,trivial⟩
theorem Lo:ag Tryz.prog 85 ⟨.sc,1,8, [(.d (.sc .nilFunc))]⟩:=ag.mk' (by kernel_rfl) (by kernel_rfl) rfl ⟨_,Tryz.underlying85,trivial⟩
theorem Lq:ag Tryz.prog 86 ⟨.sc,1,8, [(.d (.sc .nilFunc))]⟩:=ag.mk' (by kernel_rfl) (by kernel_rfl) rfl ⟨_,Tryz.underlying86,trivial⟩
theorem Lr:ag Tryz.prog 87 ⟨.sc,1,8, [(.d (.sc .nilFunc))]⟩:=ag.mk' (by kernel_rfl) (by kernel_rfl) rfl ⟨_,Tryz.underlying87,trivial⟩
theorem Ls:ag Tryz.prog 88 ⟨(.pt 90),1,8, [(.d (.sc (.pointer none)))]⟩:=ag.mk' (by kernel_rfl) (by kernel_rfl) rfl Tryz.underlying88
theorem Lt:ag Tryz.prog 90 ⟨(.st [(0,25),(1,25),(2,32)]),6,144, [(.nil 3),(.nil 3),(.nil 3),(.nil 3),(.nil 3),(.nil 3)]⟩:=ag.mk' (by kernel_rfl) (by kernel_rfl) rfl ⟨_,Tryz.underlying90,rfl⟩
theorem Lu:ag Tryz.prog 91 ⟨.sc,1,8, [(.d (.sc .nilFunc))]⟩:=ag.mk' (by kernel_rfl) (by kernel_rfl) rfl ⟨_,Tryz.underlying91,trivial⟩
theorem Lv:ag Tryz.prog 92 ⟨.sc,1,8, [(.d (.sc .nilFunc))]⟩:=ag.mk' (by kernel_rfl) (by kernel_rfl) rfl ⟨_,Tryz.underlying92,trivial⟩
theorem Lw:ag Tryz.prog 93 ⟨.sc,1,8, [(.d (.sc .nilFunc))]⟩:=ag.mk' (by kernel_rfl) (by kernel_rfl) rfl ⟨_,Tryz.underlying93,trivial⟩
theorem Lx:ag Tryz.prog 94 ⟨.sc,1,8, [(.d (.sc .nilFunc))]⟩:=ag.mk' (by kernel_rfl) (by kernel_rfl) rfl ⟨_,Tryz.underlying94,trivial⟩
theorem Lz:ag Tryz.prog 96 ⟨(.st [(0,3),(1,3),(2,3)]),3,24, [(.d (.sc (.int .i64 0))),(.d (.sc (.int .i64 0))),(.d (.sc (.int .i64 0)))]⟩:=ag.mk' (by kernel_rfl) (by kernel_rfl) rfl ⟨_,Tryz.underlying96,rfl⟩
theorem LC:ag Tryz.prog 97 ⟨.sc,1,8, [(.d (.sc .nilFunc))]⟩:=ag.mk' (by kernel_rfl) (by kernel_rfl) rfl ⟨_,Tryz.underlying97,trivial⟩
theorem LD:ag Tryz.prog 98 ⟨.sc,1,8, [(.d (.sc .nilFunc))]⟩:=ag.mk' (by kernel_rfl) (by kernel_rfl) rfl ⟨_,Tryz.underlying98,trivial⟩
theorem He:ag Tryz.prog 100 ⟨(.st [(0,24),(2,26),(3,26)]),4,80, [(.d (.sc (.int .i64 0))),(.nil 58),(.nil 25),(.nil 25)]⟩:=ag.mk' (by kernel_rfl) (by kernel_rfl) rfl ⟨_,Tryz.underlying100,rfl⟩
theorem Hf:ag Tryz.prog 101 ⟨.sc,1,8, [(.d (.sc .nilFunc))]⟩:=ag.mk' (by kernel_rfl) (by kernel_rfl) rfl ⟨_,Tryz.underlying101,trivial⟩
theorem Hg:ag Tryz.prog 103 ⟨.sc,1,8, [(.d (.sc .nilFunc))]⟩:=ag.mk' (by kernel_rfl) (by kernel_rfl) rfl ⟨_,Tryz.underlying103,trivial⟩
theorem Hh:ag Tryz.prog 104 ⟨.sc,1,8, [(.d (.sc .nilFunc))]⟩:=ag.mk' (by kernel_rfl) (by kernel_rfl) rfl ⟨_,Tryz.underlying104,trivial⟩
theorem Hj:ag Tryz.prog 105 ⟨.sc,1,8, [(.d (.sc .nilFunc))]⟩:=ag.mk' (by kernel_rfl) (by kernel_rfl) rfl ⟨_,Tryz.underlying105,trivial⟩
theorem Hl:ag Tryz.prog 106 ⟨.sc,1,8, [(.d (.sc .nilFunc))]⟩:=ag.mk' (by kernel_rfl) (by kernel_rfl) rfl ⟨_,Tryz.underlying106,trivial⟩
theorem Ho:ag Tryz.prog 107 ⟨.sc,1,8, [(.d (.sc .nilFunc))]⟩:=ag.mk' (by kernel_rfl) (by kernel_rfl) rfl ⟨_,Tryz.underlying107,trivial⟩
theorem Hp:ag Tryz.prog 108 ⟨.sc,1,8, [(.d (.sc .nilFunc))]⟩:=ag.mk' (by kernel_rfl) (by kernel_rfl) rfl ⟨_,Tryz.underlying108,trivial⟩
theorem Hq:ag Tryz.prog 109 ⟨.sc,1,8, [(.d (.sc .nilFunc))]⟩:=ag.mk' (by kernel_rfl) (by kernel_rfl) rfl ⟨_,Tryz.underlying109,trivial⟩
theorem Hr:ag Tryz.prog 110 ⟨.sc,1,8, [(.d (.sc .nilFunc))]⟩:=ag.mk' (by kernel_rfl) (by kernel_rfl) rfl ⟨_,Tryz.underlying110,trivial⟩
theorem Hs:ag Tryz.prog 112 ⟨.sc,1,8, [(.d (.sc .nilFunc))]⟩:=ag.mk' (by kernel_rfl) (by kernel_rfl) rfl ⟨_,Tryz.underlying112,trivial⟩
theorem Ht:ag Tryz.prog 113 ⟨.sc,1,8, [(.d (.sc .nilFunc))]⟩:=ag.mk' (by kernel_rfl) (by kernel_rfl) rfl ⟨_,Tryz.underlying113,trivial⟩
theorem Hu:ag Tryz.prog 114 ⟨.sc,1,8, [(.d (.sc .nilFunc))]⟩:=ag.mk' (by kernel_rfl) (by kernel_rfl) rfl ⟨_,Tryz.underlying114,trivial⟩
theorem Hv:ag Tryz.prog 115 ⟨.sc,1,8, [(.d (.sc .nilFunc))]⟩:=ag.mk' (by kernel_rfl) (by kernel_rfl) rfl ⟨_,Tryz.underlying115,trivial⟩
theorem Hw:ag Tryz.prog 116 ⟨.sc,1,8, [(.d (.sc .nilFunc))]⟩:=ag.mk' (by kernel_rfl) (by kernel_rfl) rfl ⟨_,Tryz.underlying116,trivial⟩
theorem Hx:ag Tryz.prog 117 ⟨.sc,1,8, [(.d (.sc .nilFunc))]⟩:=ag.mk' (by kernel_rfl) (by kernel_rfl) rfl ⟨_,Tryz.underlying117,trivial⟩
theorem Hy:ag Tryz.prog 118 ⟨.sc,1,8, [(.d (.sc .nilFunc))]⟩:=ag.mk' (by kernel_rfl) (by kernel_rfl) rfl ⟨_,Tryz.underlying118,trivial⟩
theorem Hz:ag Tryz.prog 119 ⟨.sc,1,8, [(.d (.sc .nilFunc))]⟩:=ag.mk' (by kernel_rfl) (by kernel_rfl) rfl ⟨_,Tryz.underlying119,trivial⟩
theorem HA:ag Tryz.prog 120 ⟨.sc,1,8, [(.d (.sc .nilFunc))]⟩:=ag.mk' (by kernel_rfl) (by kernel_rfl) rfl ⟨_,Tryz.underlying120,trivial⟩
theorem HB:ag Tryz.prog 121 ⟨.sc,1,8, [(.d (.sc .nilFunc))]⟩:=ag.mk' (by kernel_rfl) (by kernel_rfl) rfl ⟨_,Tryz.underlying121,trivial⟩
theorem HC:ag Tryz.prog 122 ⟨(.sl 4),1,24, [(.nil 4)]⟩:=ag.mk' (by kernel_rfl) (by kernel_rfl) rfl Tryz.underlying122
theorem HD:ag Tryz.prog 123 ⟨(.pt 133),1,8, [(.d (.sc (.pointer none)))]⟩:=ag.mk' (by kernel_rfl) (by kernel_rfl) rfl Tryz.underlying123
theorem HE:ag Tryz.prog 125 ⟨.sc,1,8, [(.d (.sc .nilFunc))]⟩:=ag.mk' (by kernel_rfl) (by kernel_rfl) rfl ⟨_,Tryz.underlying125,trivial⟩
theorem HF:ag Tryz.prog 126 ⟨.sc,1,8, [(.d (.sc .nilFunc))]⟩:=ag.mk' (by kernel_rfl) (by kernel_rfl) rfl ⟨_,Tryz.underlying126,trivial⟩
theorem HG:ag Tryz.prog 128 ⟨.sc,1,8, [(.d (.sc .nilFunc))]⟩:=ag.mk' (by kernel_rfl) (by kernel_rfl) rfl ⟨_,Tryz.underlying128,trivial⟩
theorem HH:ag Tryz.prog 129 ⟨.sc,1,8, [(.d (.sc .nilFunc))]⟩:=ag.mk' (by kernel_rfl) (by kernel_rfl) rfl ⟨_,Tryz.underlying129,trivial⟩
theorem HJ:ag Tryz.prog 131 ⟨(.st [(0,80)]),1,24, [(.nil 96)]⟩:=ag.mk' (by kernel_rfl) (by kernel_rfl) rfl ⟨_,Tryz.underlying131,rfl⟩
theorem HK:ag Tryz.prog 133 ⟨(.st [(0,131),(1,45),(2,25)]),3,56, [(.nil 96),(.d (.sc (.pointer none))),(.nil 3)]⟩:=ag.mk' (by kernel_rfl) (by kernel_rfl) rfl ⟨_,Tryz.underlying133,rfl⟩
theorem HL:ag Tryz.prog 135 ⟨.sc,1,8, [(.d (.sc .nilFunc))]⟩:=ag.mk' (by kernel_rfl) (by kernel_rfl) rfl ⟨_,Tryz.underlying135,trivial⟩
theorem HM:ag Tryz.prog 136 ⟨.sc,1,8, [(.d (.sc .nilFunc))]⟩:=ag.mk' (by kernel_rfl) (by kernel_rfl) rfl ⟨_,Tryz.underlying136,trivial⟩
theorem HN:ag Tryz.prog 137 ⟨.sc,1,8, [(.d (.sc .nilFunc))]⟩:=ag.mk' (by kernel_rfl) (by kernel_rfl) rfl ⟨_,Tryz.underlying137,trivial⟩
theorem HO:ag Tryz.prog 138 ⟨.sc,1,8, [(.d (.sc .nilFunc))]⟩:=ag.mk' (by kernel_rfl) (by kernel_rfl) rfl ⟨_,Tryz.underlying138,trivial⟩
theorem HP:ag Tryz.prog 139 ⟨.sc,1,8, [(.d (.sc .nilFunc))]⟩:=ag.mk' (by kernel_rfl) (by kernel_rfl) rfl ⟨_,Tryz.underlying139,trivial⟩
theorem HQ:ag Tryz.prog 140 ⟨.sc,1,8, [(.d (.sc .nilFunc))]⟩:=ag.mk' (by kernel_rfl) (by kernel_rfl) rfl ⟨_,Tryz.underlying140,trivial⟩
theorem HR:ag Tryz.prog 141 ⟨.sc,1,8, [(.d (.sc .nilFunc))]⟩:=ag.mk' (by kernel_rfl) (by kernel_rfl) rfl ⟨_,Tryz.underlying141,trivial⟩
theorem HS:ag Tryz.prog 143 ⟨.sc,1,8, [(.d (.sc .nilFunc))]⟩:=ag.mk' (by kernel_rfl) (by kernel_rfl) rfl ⟨_,Tryz.underlying143,trivial⟩
theorem HT:ag Tryz.prog 145 ⟨.sc,1,8, [(.d (.sc .nilFunc))]⟩:=ag.mk' (by kernel_rfl) (by kernel_rfl) rfl ⟨_,Tryz.underlying145,trivial⟩
theorem HU:ag Tryz.prog 146 ⟨.sc,1,8, [(.d (.sc .nilFunc))]⟩:=ag.mk' (by kernel_rfl) (by kernel_rfl) rfl ⟨_,Tryz.underlying146,trivial⟩
theorem HV:ag Tryz.prog 147 ⟨.sc,1,8, [(.d (.sc .nilFunc))]⟩:=ag.mk' (by kernel_rfl) (by kernel_rfl) rfl ⟨_,Tryz.underlying147,trivial⟩
theorem HW:ag Tryz.prog 148 ⟨.sc,1,8, [(.d (.sc .nilFunc))]⟩:=ag.mk' (by kernel_rfl) (by kernel_rfl) rfl ⟨_,Tryz.underlying148,trivial⟩
theorem HX:ag Tryz.prog 149 ⟨.sc,1,8, [(.d (.sc .nilFunc))]⟩:=ag.mk' (by kernel_rfl) (by kernel_rfl) rfl ⟨_,Tryz.underlying149,trivial⟩
theorem HY:ag Tryz.prog 150 ⟨.sc,1,8, [(.d (.sc .nilFunc))]⟩:=ag.mk' (by kernel_rfl) (by kernel_rfl) rfl ⟨_,Tryz.underlying150,trivial⟩
theorem H6:ag Tryz.prog 151 ⟨.sc,1,8, [(.d (.sc .nilFunc))]⟩:=ag.mk' (by kernel_rfl) (by kernel_rfl) rfl ⟨_,Tryz.underlying151,trivial⟩
theorem H7:ag Tryz.prog 152 ⟨(.int .u64),1,8, [(.d (.sc (.int .u64 0)))]⟩:=ag.mk' (by kernel_rfl) (by kernel_rfl) rfl Tryz.underlying152
theorem H8:ag Tryz.prog 153 ⟨.sc,1,8, [(.d (.sc .nilFunc))]⟩:=ag.mk' (by kernel_rfl) (by kernel_rfl) rfl ⟨_,Tryz.underlying153,trivial⟩
theorem H9:ag Tryz.prog 154 ⟨.sc,1,8, [(.d (.sc .nilFunc))]⟩:=ag.mk' (by kernel_rfl) (by kernel_rfl) rfl ⟨_,Tryz.underlying154,trivial⟩
theorem Ia:ag Tryz.prog 155 ⟨.sc,1,8, [(.d (.sc .nilFunc))]⟩:=ag.mk' (by kernel_rfl) (by kernel_rfl) rfl ⟨_,Tryz.underlying155,trivial⟩
theorem Ib:ag Tryz.prog 156 ⟨.sc,1,8, [(.d (.sc .nilFunc))]⟩:=ag.mk' (by kernel_rfl) (by kernel_rfl) rfl ⟨_,Tryz.underlying156,trivial⟩
theorem Ic:ag Tryz.prog 158 ⟨.sc,1,8, [(.d (.sc .nilFunc))]⟩:=ag.mk' (by kernel_rfl) (by kernel_rfl) rfl ⟨_,Tryz.underlying158,trivial⟩
theorem Ie:ag Tryz.prog 159 ⟨.sc,1,8, [(.d (.sc .nilFunc))]⟩:=ag.mk' (by kernel_rfl) (by kernel_rfl) rfl ⟨_,Tryz.underlying159,trivial⟩
theorem Ig:ag Tryz.prog 160 ⟨.sc,1,8, [(.d (.sc .nilFunc))]⟩:=ag.mk' (by kernel_rfl) (by kernel_rfl) rfl ⟨_,Tryz.underlying160,trivial⟩
theorem Ih:ag Tryz.prog 161 ⟨(.pt 131),1,8, [(.d (.sc (.pointer none)))]⟩:=ag.mk' (by kernel_rfl) (by kernel_rfl) rfl Tryz.underlying161
theorem Ii:ag Tryz.prog 162 ⟨.sc,1,8, [(.d (.sc .nilFunc))]⟩:=ag.mk' (by kernel_rfl) (by kernel_rfl) rfl ⟨_,Tryz.underlying162,trivial⟩
theorem Ij:ag Tryz.prog 163 ⟨(.pt 165),1,8, [(.d (.sc (.pointer none)))]⟩:=ag.mk' (by kernel_rfl) (by kernel_rfl) rfl Tryz.underlying163
theorem Ik:ag Tryz.prog 165 ⟨(.st [(0,24),(2,80),(3,25)]),4,80, [(.d (.sc (.int .i64 0))),(.nil 58),(.nil 96),(.nil 3)]⟩:=ag.mk' (by kernel_rfl) (by kernel_rfl) rfl ⟨_,Tryz.underlying165,rfl⟩
theorem Il:ag Tryz.prog 167 ⟨.sc,1,8, [(.d (.sc .nilFunc))]⟩:=ag.mk' (by kernel_rfl) (by kernel_rfl) rfl ⟨_,Tryz.underlying167,trivial⟩
theorem Im:ag Tryz.prog 168 ⟨.sc,1,8, [(.d (.sc .nilFunc))]⟩:=ag.mk' (by kernel_rfl) (by kernel_rfl) rfl ⟨_,Tryz.underlying168,trivial⟩
theorem Io:ag Tryz.prog 169 ⟨.sc,1,8, [(.d (.sc .nilFunc))]⟩:=ag.mk' (by kernel_rfl) (by kernel_rfl) rfl ⟨_,Tryz.underlying169,trivial⟩
theorem Ip:ag Tryz.prog 170 ⟨.sc,1,8, [(.d (.sc .nilFunc))]⟩:=ag.mk' (by kernel_rfl) (by kernel_rfl) rfl ⟨_,Tryz.underlying170,trivial⟩
theorem Iq:ag Tryz.prog 171 ⟨.sc,1,8, [(.d (.sc .nilFunc))]⟩:=ag.mk' (by kernel_rfl) (by kernel_rfl) rfl ⟨_,Tryz.underlying171,trivial⟩
theorem Ir:ag Tryz.prog 172 ⟨.sc,1,8, [(.d (.sc .nilFunc))]⟩:=ag.mk' (by kernel_rfl) (by kernel_rfl) rfl ⟨_,Tryz.underlying172,trivial⟩
theorem Is:ag Tryz.prog 173 ⟨(.int .i64),1,8, [(.d (.sc (.int .i64 0)))]⟩:=ag.mk' (by kernel_rfl) (by kernel_rfl) rfl Tryz.underlying173
theorem Iu:ag Tryz.prog 175 ⟨.sc,1,8, [(.d (.sc .nilFunc))]⟩:=ag.mk' (by kernel_rfl) (by kernel_rfl) rfl ⟨_,Tryz.underlying175,trivial⟩
theorem Iv:ag Tryz.prog 176 ⟨.sc,1,8, [(.d (.sc .nilFunc))]⟩:=ag.mk' (by kernel_rfl) (by kernel_rfl) rfl ⟨_,Tryz.underlying176,trivial⟩
theorem Iw:ag Tryz.prog 177 ⟨.sc,1,8, [(.d (.sc .nilFunc))]⟩:=ag.mk' (by kernel_rfl) (by kernel_rfl) rfl ⟨_,Tryz.underlying177,trivial⟩
theorem Iy:ag Tryz.prog 179 ⟨.sc,1,8, [(.d (.sc .nilFunc))]⟩:=ag.mk' (by kernel_rfl) (by kernel_rfl) rfl ⟨_,Tryz.underlying179,trivial⟩
theorem Iz:ag Tryz.prog 180 ⟨.sc,1,8, [(.d (.sc .nilFunc))]⟩:=ag.mk' (by kernel_rfl) (by kernel_rfl) rfl ⟨_,Tryz.underlying180,trivial⟩
theorem IA:ag Tryz.prog 181 ⟨(.int .u32),1,4, [(.d (.sc (.int .u32 0)))]⟩:=ag.mk' (by kernel_rfl) (by kernel_rfl) rfl Tryz.underlying181
theorem IB:ag Tryz.prog 182 ⟨.sc,1,8, [(.d (.sc .nilFunc))]⟩:=ag.mk' (by kernel_rfl) (by kernel_rfl) rfl ⟨_,Tryz.underlying182,trivial⟩
theorem IC:ag Tryz.prog 183 ⟨.sc,1,8, [(.d (.sc .nilFunc))]⟩:=ag.mk' (by kernel_rfl) (by kernel_rfl) rfl ⟨_,Tryz.underlying183,trivial⟩
theorem ID:ag Tryz.prog 184 ⟨.sc,1,8, [(.d (.sc .nilFunc))]⟩:=ag.mk' (by kernel_rfl) (by kernel_rfl) rfl ⟨_,Tryz.underlying184,trivial⟩
theorem IE:ag Tryz.prog 185 ⟨.sc,1,8, [(.d (.sc .nilFunc))]⟩:=ag.mk' (by kernel_rfl) (by kernel_rfl) rfl ⟨_,Tryz.underlying185,trivial⟩
theorem IF:ag Tryz.prog 186 ⟨(.int .u64),1,8, [(.d (.sc (.int .u64 0)))]⟩:=ag.mk' (by kernel_rfl) (by kernel_rfl) rfl Tryz.underlying186
theorem IG:ag Tryz.prog 187 ⟨.sc,1,8, [(.d (.sc .nilFunc))]⟩:=ag.mk' (by kernel_rfl) (by kernel_rfl) rfl ⟨_,Tryz.underlying187,trivial⟩
theorem II:ag Tryz.prog 188 ⟨.sc,1,8, [(.d (.sc .nilFunc))]⟩:=ag.mk' (by kernel_rfl) (by kernel_rfl) rfl ⟨_,Tryz.underlying188,trivial⟩
theorem IJ:ag Tryz.prog 189 ⟨.sc,1,8, [(.d (.sc .nilFunc))]⟩:=ag.mk' (by kernel_rfl) (by kernel_rfl) rfl ⟨_,Tryz.underlying189,trivial⟩
theorem IK:ag Tryz.prog 190 ⟨(.pt 3),1,8, [(.d (.sc (.pointer none)))]⟩:=ag.mk' (by kernel_rfl) (by kernel_rfl) rfl Tryz.underlying190
theorem IL:ag Tryz.prog 191 ⟨.sc,1,8, [(.d (.sc .nilFunc))]⟩:=ag.mk' (by kernel_rfl) (by kernel_rfl) rfl ⟨_,Tryz.underlying191,trivial⟩
theorem IM:ag Tryz.prog 192 ⟨.sc,1,8, [(.d (.sc .nilFunc))]⟩:=ag.mk' (by kernel_rfl) (by kernel_rfl) rfl ⟨_,Tryz.underlying192,trivial⟩
theorem IN:ag Tryz.prog 193 ⟨.sc,1,8, [(.d (.sc .nilFunc))]⟩:=ag.mk' (by kernel_rfl) (by kernel_rfl) rfl ⟨_,Tryz.underlying193,trivial⟩
theorem IP:ag Tryz.prog 194 ⟨.sc,1,8, [(.d (.sc .nilFunc))]⟩:=ag.mk' (by kernel_rfl) (by kernel_rfl) rfl ⟨_,Tryz.underlying194,trivial⟩
theorem IQ:ag Tryz.prog 195 ⟨.sc,1,8, [(.d (.sc .nilFunc))]⟩:=ag.mk' (by kernel_rfl) (by kernel_rfl) rfl ⟨_,Tryz.underlying195,trivial⟩
theorem IS:ag Tryz.prog 196 ⟨.sc,1,8, [(.d (.sc .nilFunc))]⟩:=ag.mk' (by kernel_rfl) (by kernel_rfl) rfl ⟨_,Tryz.underlying196,trivial⟩
theorem IT:ag Tryz.prog 197 ⟨(.pt 186),1,8, [(.d (.sc (.pointer none)))]⟩:=ag.mk' (by kernel_rfl) (by kernel_rfl) rfl Tryz.underlying197
theorem IU:ag Tryz.prog 199 ⟨.sc,1,8, [(.d (.sc .nilFunc))]⟩:=ag.mk' (by kernel_rfl) (by kernel_rfl) rfl ⟨_,Tryz.underlying199,trivial⟩
theorem IV:ag Tryz.prog 200 ⟨.sc,1,8, [(.d (.sc .nilFunc))]⟩:=ag.mk' (by kernel_rfl) (by kernel_rfl) rfl ⟨_,Tryz.underlying200,trivial⟩
theorem IW:ag Tryz.prog 201 ⟨.sc,1,8, [(.d (.sc .nilFunc))]⟩:=ag.mk' (by kernel_rfl) (by kernel_rfl) rfl ⟨_,Tryz.underlying201,trivial⟩
theorem IX:ag Tryz.prog 202 ⟨.sc,1,8, [(.d (.sc .nilFunc))]⟩:=ag.mk' (by kernel_rfl) (by kernel_rfl) rfl ⟨_,Tryz.underlying202,trivial⟩
theorem IY:ag Tryz.prog 203 ⟨.sc,1,8, [(.d (.sc .nilFunc))]⟩:=ag.mk' (by kernel_rfl) (by kernel_rfl) rfl ⟨_,Tryz.underlying203,trivial⟩
theorem IZ:ag Tryz.prog 204 ⟨.sc,1,8, [(.d (.sc .nilFunc))]⟩:=ag.mk' (by kernel_rfl) (by kernel_rfl) rfl ⟨_,Tryz.underlying204,trivial⟩
theorem I0:ag Tryz.prog 205 ⟨.sc,1,8, [(.d (.sc .nilFunc))]⟩:=ag.mk' (by kernel_rfl) (by kernel_rfl) rfl ⟨_,Tryz.underlying205,trivial⟩
theorem I1:ag Tryz.prog 206 ⟨.sc,1,8, [(.d (.sc .nilFunc))]⟩:=ag.mk' (by kernel_rfl) (by kernel_rfl) rfl ⟨_,Tryz.underlying206,trivial⟩
theorem I2:ag Tryz.prog 207 ⟨.sc,1,8, [(.d (.sc .nilFunc))]⟩:=ag.mk' (by kernel_rfl) (by kernel_rfl) rfl ⟨_,Tryz.underlying207,trivial⟩
theorem I3:ag Tryz.prog 208 ⟨.sc,1,8, [(.d (.sc .nilFunc))]⟩:=ag.mk' (by kernel_rfl) (by kernel_rfl) rfl ⟨_,Tryz.underlying208,trivial⟩
theorem I4:ag Tryz.prog 209 ⟨.sc,1,8, [(.d (.sc .nilFunc))]⟩:=ag.mk' (by kernel_rfl) (by kernel_rfl) rfl ⟨_,Tryz.underlying209,trivial⟩
theorem I5:ag Tryz.prog 215 ⟨.sc,1,8, [(.d (.sc .nilFunc))]⟩:=ag.mk' (by kernel_rfl) (by kernel_rfl) rfl ⟨_,Tryz.underlying215,trivial⟩
theorem I6:ag Tryz.prog 219 ⟨(.pt 5),1,8, [(.d (.sc (.pointer none)))]⟩:=ag.mk' (by kernel_rfl) (by kernel_rfl) rfl Tryz.underlying219
theorem LF:mU Tryz.prog 58 2:=mU.two (by kernel_rfl) (by kernel_rfl) Tryz.underlying58 (by decide) rfl Tryz.underlying3 (by decide) rfl Tryz.underlying3
theorem LG:mU Tryz.prog 96 3:=mU.three (by kernel_rfl) (by kernel_rfl) Tryz.underlying96 (by decide) rfl Tryz.underlying3 (by decide) rfl Tryz.underlying3 (by decide) rfl Tryz.underlying3
theorem NZ:∀t ti,T t=some ti→ag Tryz.prog t ti:=by
 intro t ti h
 unfold T at h
 split at h
 ·cases h;exact NT
 ·cases h;exact NU
 ·cases h;exact NV
 ·cases h;exact NW
 ·cases h;exact NX
 ·cases h;exact NY
 ·cases h;exact Kw
 ·cases h;exact Kx
 ·cases h;exact Ky
 ·cases h;exact Kz
 ·cases h;exact KA
 ·cases h;exact KB
 ·cases h;exact KC
 ·cases h;exact KE
 ·cases h;exact KF
 ·cases h;exact KG
 ·cases h;exact KH
 ·cases h;exact KI
 ·cases h;exact KJ
 ·cases h;exact KK
 ·cases h;exact KL
 ·cases h;exact KM
 ·cases h;exact KN
 ·cases h;exact KO
 ·cases h;exact KP
 ·cases h;exact KQ
 ·cases h;exact KR
 ·cases h;exact KS
 ·cases h;exact KT
 ·cases h;exact KU
 ·cases h;exact KW
 ·cases h;exact KX
 ·cases h;exact KY
 ·cases h;exact KZ
 ·cases h;exact K0
 ·cases h;exact K1
 ·cases h;exact K2
 ·cases h;exact K3
 ·cases h;exact K4
 ·cases h;exact K5
 ·cases h;exact K6
 ·cases h;exact K7
 ·cases h;exact K8
 ·cases h;exact K9
 ·cases h;exact La
 ·cases h;exact Lb
 ·cases h;exact Lc
 ·cases h;exact Ld
 ·cases h;exact Lg
 ·cases h;exact Lh
 ·cases h;exact Li
 ·cases h;exact Lj
 ·cases h;exact Lk
 ·cases h;exact Ll
 ·cases h;exact Lm
 ·cases h;exact Ln
 ·cases h;exact Lo
 ·cases h;exact Lq
 ·cases h;exact Lr
 ·cases h;exact Ls
 ·cases h;exact Lt
 ·cases h;exact Lu
 ·cases h;exact Lv
 ·cases h;exact Lw
 ·cases h;exact Lx
 ·cases h;exact Lz
 ·cases h;exact LC
 ·cases h;exact LD
 ·cases h;exact He
 ·cases h;exact Hf
 ·cases h;exact Hg
 ·cases h;exact Hh
 ·cases h;exact Hj
 ·cases h;exact Hl
 ·cases h;exact Ho
 ·cases h;exact Hp
 ·cases h;exact Hq
 ·cases h;exact Hr
 ·cases h;exact Hs
 ·cases h;exact Ht
 ·cases h;exact Hu
 ·cases h;exact Hv
 ·cases h;exact Hw
 ·cases h;exact Hx
 ·cases h;exact Hy
 ·cases h;exact Hz
 ·cases h;exact HA
 ·cases h;exact HB
 ·cases h;exact HC
 ·cases h;exact HD
 ·cases h;exact HE
 ·cases h;exact HF
 ·cases h;exact HG
 ·cases h;exact HH
 ·cases h;exact HJ
 ·cases h;exact HK
 ·cases h;exact HL
 ·cases h;exact HM
 ·cases h;exact HN
 ·cases h;exact HO
 ·cases h;exact HP
 ·cases h;exact HQ
 ·cases h;exact HR
 ·cases h;exact HS
 ·cases h;exact HT
 ·cases h;exact HU
 ·cases h;exact HV
 ·cases h;exact HW
 ·cases h;exact HX
 ·cases h;exact HY
 ·cases h;exact H6
 ·cases h;exact H7
 ·cases h;exact H8
 ·cases h;exact H9
 ·cases h;exact Ia
 ·cases h;exact Ib
 ·cases h;exact Ic
 ·cases h;exact Ie
 ·cases h;exact Ig
 ·cases h;exact Ih
 ·cases h;exact Ii
 ·cases h;exact Ij
 ·cases h;exact Ik
 ·cases h;exact Il
 ·cases h;exact Im
 ·cases h;exact Io
 ·cases h;exact Ip
 ·cases h;exact Iq
 ·cases h;exact Ir
 ·cases h;exact Is
 ·cases h;exact Iu
 ·cases h;exact Iv
 ·cases h;exact Iw
 ·cases h;exact Iy
 ·cases h;exact Iz
 ·cases h;exact IA
 ·cases h;exact IB
 ·cases h;exact IC
 ·cases h;exact ID
 ·cases h;exact IE
 ·cases h;exact IF
 ·cases h;exact IG
 ·cases h;exact II
 ·cases h;exact IJ
 ·cases h;exact IK
 ·cases h;exact IL
 ·cases h;exact IM
 ·cases h;exact IN
 ·cases h;exact IP
 ·cases h;exact IQ
 ·cases h;exact IS
 ·cases h;exact IT
 ·cases h;exact IU
 ·cases h;exact IV
 ·cases h;exact IW
 ·cases h;exact IX
 ·cases h;exact IY
 ·cases h;exact IZ
 ·cases h;exact I0
 ·cases h;exact I1
 ·cases h;exact I2
 ·cases h;exact I3
 ·cases h;exact I4
 ·cases h;exact I5
 ·cases h;exact I6
 ·cases h
theorem N0:∀t n,yp t=some n→mU Tryz.prog t n:=by
 intro t n h
 unfold yp at h
 split at h
 ·cases h;exact LF
 ·cases h;exact LG
 ·cases h
def cfg (own xk:List Nat):Cfg:=⟨T,own,yp,xk⟩
theorem cfg_T (own xk:List Nat):(cfg own xk).T=T:=rfl
theorem cfg_own (own xk:List Nat):(cfg own xk).own=own:=rfl
theorem cfg_nst (own xk:List Nat):(cfg own xk).xk=xk:=rfl
theorem cfg_eqn (own xk:List Nat):(cfg own xk).yp=yp:=rfl
theorem aq (own xk:List Nat):(cfg own xk).Ok Tryz.prog:=⟨NZ,N0⟩
theorem mixed:Tryz.prog.follows .mixedOrders=true:=by kernel_rfl
attribute [go_sem] T1 T2 T3 T4 T5 T9 T12 T21 T22 T24 T25 T26 T28 T29 T30 T32 T33 T35 T36 T37 T39 T40 T41 T42 T43 T44 T45 T46 T48 T49 T50 T52 T53 T54 T55 T56 T58 T59 T60 T61 T62 T64 T66 T67 T69 T71 T72 T73 T75 T76 T77 T78 T79 T80 T82 T84 T85 T86 T87 T88 T90 T91 T92 T93 T94 T96 T97 T98 T100 T101 T103 T104 T105 T106 T107 T108 T109 T110 T112 T113 T114 T115 T116 T117 T118 T119 T120 T121 T122 T123 T125 T126 T128 T129 T131 T133 T135 T136 T137 T138 T139 T140 T141 T143 T145 T146 T147 T148 T149 T150 T151 T152 T153 T154 T155 T156 T158 T159 T160 T161 T162 T163 T165 T167 T168 T169 T170 T171 T172 T173 T175 T176 T177 T179 T180 T181 T182 T183 T184 T185 T186 T187 T188 T189 T190 T191 T192 T193 T194 T195 T196 T197 T199 T200 T201 T202 T203 T204 T205 T206 T207 T208 T209 T215 T219 eqn58 eqn96 cfg_T cfg_own cfg_nst cfg_eqn
end Go.Ab.T
end
section
namespace Go.Ab
open Go.Proofs
attribute [local congr] ACall.congr
set_option maxRecDepth 10000
def eN (n:Int):AV:= .d (.sc (.int .i64 n))
def eB (b:Bool):AV:= .d (.sc (.bool b))
abbrev Edge:=Int × Int
structure Gr where
 n:Int
 es:List Edge
def rE (e:Edge):List D:= [.sc (.int .i64 e.1), .sc (.int .i64 e.2)]
def rI (n:Int):List D:= [.sc (.int .i64 n)]
def eE (e:Edge):AV:= .agg [.d (.sc (.int .i64 e.1)), .d (.sc (.int .i64 e.2))]
def sE (es:List Edge):D:= .sl 2 (es.map rE)
def sI (l:List Int):D:= .sl 1 (l.map rI)
def eG (g:Gr):AV:= .agg [eN g.n, .d (sE g.es)]
attribute [go_sem] eN eB eE sE sI eG Args AVrs
theorem getD_rE (ps:List Edge) (i:Nat):(ps.map rE).getD i [.sc (.int .i64 0), .sc (.int .i64 0)]= [.sc (.int .i64 (ps.getD i (0,0)).1), .sc (.int .i64 (ps.getD i (0,0)).2)]:=by
 simp only [List.getD_eq_getElem?_getD,List.getElem?_map]
 cases ps[i]? <;>rfl
theorem getD_rI (ps:List Int) (i:Nat):(ps.map rI).getD i [.sc (.int .i64 0)]= [.sc (.int .i64 (ps.getD i 0))]:=by
 simp only [List.getD_eq_getElem?_getD,List.getElem?_map]
 cases ps[i]? <;>rfl
theorem aY (l:List Int) (k:Nat) (v:Int):(l.map rI).set k [.sc (.int .i64 v)]=(l.set k v).map rI:=by
 rw [List.map_set];rfl
attribute [go_sem] getD_rE getD_rI Int.toNat_natCast List.length_set
def PE (n:Int):Prop:= -9223372036854775808≤n∧n≤9223372036854775807
def Len (n:Nat):Prop:=n≤9223372036854775807
end Go.Ab
end
section
namespace Go.Ab
open Go.Proofs
attribute [local congr] ACall.congr
set_option maxRecDepth 10000
def bU {α:Type} (g:α→Bool) (ps:List α):Int:=match ps.findIdx? g with|some i=>i|none=> -1
theorem cD {α:Type} {g:α→Bool} {ps:List α} (d:α) (h:∀j,j<ps.length→g (ps.getD j d)=false):bU g ps= -1:=by
 have:ps.findIdx? g=none:=by
  rw [List.findIdx?_eq_none_iff]
  intro x hx
  obtain ⟨j,hj,rfl⟩:=List.getElem_of_mem hx
  simpa [List.getD_eq_getElem?_getD,List.getElem?_eq_getElem hj] using h j hj
 simp [bU,this]
theorem dM {α:Type} {g:α→Bool} {ps:List α} {d:α} {k:Nat} (hk:k<ps.length) (h:∀j,j<k→g (ps.getD j d)=false) (hg:g (ps.getD k d)=true):bU g ps=k:=by
 have:ps.findIdx? g=some k:=by
  rw [List.findIdx?_eq_some_iff_getElem]
  refine ⟨hk,by simpa [List.getD_eq_getElem?_getD,List.getElem?_eq_getElem hk] using hg,fun j hj=> ?_⟩
  have:=h j hj
  simpa [List.getD_eq_getElem?_getD,List.getElem?_eq_getElem (Nat.lt_trans hj hk)] using this
 simp [bU,this]
theorem hM {α:Type} (g:α→Bool) (ps:List α):decide (0≤bU g ps)=ps.any g:=by
 cases h:ps.findIdx? g with
 |none=>
  have:bU g ps= -1:=by simp [bU,h]
  rw [this]
  rw [List.findIdx?_eq_none_iff] at h
  symm
  simpa using h
 |some i=>
  have:bU g ps=i:=by simp [bU,h]
  rw [this]
  obtain ⟨hi,hg,_⟩:=List.findIdx?_eq_some_iff_getElem.1 h
  have:ps.any g=true:=List.any_eq_true.2 ⟨_,List.getElem_mem hi,hg⟩
  rw [this];simp
theorem v7 {α:Type} (g:α→Bool) (ps:List α):bU g ps= -1∨(0≤bU g ps∧bU g ps<ps.length):=by
 cases h:ps.findIdx? g with
 |none=>exact .inl (by simp [bU,h])
 |some i=>
  obtain ⟨hi,hg,_⟩:=List.findIdx?_eq_some_iff_getElem.1 h
  exact .inr (by simp [bU,h];omega)
theorem v8 (rn:List (Nat × Nat)) (h0:rn= []) {m:List (Nat × AObj)} :∀ {r:List (Nat × AObj)},(∀p∈r,look m p.1=some p.2)→leR m rn r
 | [],_=>trivial
 |p::r,h=>by
  subst h0
  have h1:=h p List.mem_cons_self
  refine ⟨?_,v8 [] rfl fun q hq=>h q (List.mem_cons_of_mem _ hq)⟩
  have e:renO [] p.2=p.2:=rfl
  show look m p.1=some (renO [] p.2)
  rw [e];exact h1
theorem fO {m:List (Nat × AObj)} (h:bz m):leR m [] m:=v8 [] rfl fun _ hp=>aL h.nd hp
theorem bL {m:List (Nat × AObj)} (hR:bz m) (f:Nat) (caps:List AV) (g:Edge→Bool) (hf:∀p,Spec Tryz.prog f (Args (eE p::caps)) m (eB (g p)) m) (ps:List Edge) (hl:ps.length≤9223372036854775807):
 Spec Tryz.prog 100 (Args [.d (sE ps), .fn f [] caps]) m (eN (bU g ps)) m:=by
 (refine Spec.intro (C:=T.cfg [] []) (rs:= [.t 4]) (T.aq _ _) Tryz.func100 rfl rfl Tryz.ntmps100 Tryz.results100 (fun p hp=>⟨(bz.low hR p hp).1,bz.nest hR p hp⟩) (fun p hp=>⟨(bz.low hR p hp).2,bz.nest hR p hp⟩) (by kernel_rfl) ?_;intro X hX hP hC aN aO vals hA;refine ⟨_,by simp,hA, ?_⟩;have af:X.P.follows .mixedOrders=true:=(by rw [hP];exact T.mixed);clear aN aO)
 repeat' (first|fail|((first|((with_reducible (first|apply oA|apply oB));exact rfl;intro K hK)|(refine hK _ ?_;clear hK K)|((with_reducible (first|apply oG|apply oH));iterate 3 exact rfl)|((with_reducible apply oI);(iterate 2 exact rfl);intro K hK)|(with_reducible (first|apply wI|apply wJ|apply wK)));try simp only [go_sem,simprocAttr])|fail|(with_reducible (first|apply oC|apply oJ|exact oK|apply wA|apply wB|apply wC hX hC|apply wD hX hC|apply wE hX hC af|apply wF hX hC af|apply wG|apply wH|apply And.intro))|((with_reducible refine oD ?_ ?_);first|fail|kernel_rfl)|((with_reducible (first|apply oE|apply oF));(iterate 3 exact rfl);all_goals (intro h;first|(exact absurd h (by decide))|((try simp only [go_sem,simprocAttr] at h);(try with_reducible intro K hK);simp only [go_sem,simprocAttr])))|((first|((with_reducible apply wL);exact rfl)|((with_reducible apply wM);exact rfl));all_goals (try ((with_reducible intro h);first|(exact absurd h (by decide))|(try simp only [go_sem,simprocAttr] at h))))|omega|((first|(first|(refine bf hX hC hP hR (hf _) rfl rfl rfl ?_ ?_ rfl rfl ?_;(focus (simp only [go_sem,simprocAttr];done));(focus (first|(intro p hp;exact aL (bz.nd hR) hp)|(simp [go_sem,simprocAttr];done))))|(refine bf hX hC hP hR (hf _) rfl rfl rfl ?_ ?_ ?_ rfl ?_;(focus (simp only [go_sem,simprocAttr];done));(focus (first|(intro p hp;exact aL (bz.nd hR) hp)|(simp [go_sem,simprocAttr];done)));(focus (simp [go_sem,simprocAttr];done)))));try simp only [go_sem,simprocAttr])|(intro h))
 refine ak (fun k:Nat=>k≤ps.length∧∀j,j<k→g (ps.getD j (0,0))=false) (fun k=>⟨[(0, .d (sE ps)),(1, .fn f [] caps),(7,eN ps.length),(8,eN k)],m⟩) (fun k=>ps.length - k) 0 (by simp) ?_ ?_
 ·(refine ⟨bN ?_,fun _ _ h=>h⟩;simp [go_sem,simprocAttr])
 rintro k ⟨hk,hg⟩
 repeat' (first|fail|((first|((with_reducible (first|apply oA|apply oB));exact rfl;intro K hK)|(refine hK _ ?_;clear hK K)|((with_reducible (first|apply oG|apply oH));iterate 3 exact rfl)|((with_reducible apply oI);(iterate 2 exact rfl);intro K hK)|(with_reducible (first|apply wI|apply wJ|apply wK)));try simp only [go_sem,simprocAttr])|fail|(with_reducible (first|apply oC|apply oJ|exact oK|apply wA|apply wB|apply wC hX hC|apply wD hX hC|apply wE hX hC af|apply wF hX hC af|apply wG|apply wH|apply And.intro))|((with_reducible refine oD ?_ ?_);first|fail|kernel_rfl)|((with_reducible (first|apply oE|apply oF));(iterate 3 exact rfl);all_goals (intro h;first|(exact absurd h (by decide))|((try simp only [go_sem,simprocAttr] at h);(try with_reducible intro K hK);simp only [go_sem,simprocAttr])))|((first|((with_reducible apply wL);exact rfl)|((with_reducible apply wM);exact rfl));all_goals (try ((with_reducible intro h);first|(exact absurd h (by decide))|(try simp only [go_sem,simprocAttr] at h))))|omega|((first|(first|(refine bf hX hC hP hR (hf _) rfl rfl rfl ?_ ?_ rfl rfl ?_;(focus (simp only [go_sem,simprocAttr];done));(focus (first|(intro p hp;exact aL (bz.nd hR) hp)|(simp [go_sem,simprocAttr];done))))|(refine bf hX hC hP hR (hf _) rfl rfl rfl ?_ ?_ ?_ rfl ?_;(focus (simp only [go_sem,simprocAttr];done));(focus (first|(intro p hp;exact aL (bz.nd hR) hp)|(simp [go_sem,simprocAttr];done)));(focus (simp [go_sem,simprocAttr];done)))));try simp only [go_sem,simprocAttr])|(intro h))
 ·exact (dM (by omega) hg h).symm
 ·exact fO hR
 ·refine ⟨k+1,⟨by omega,fun j hj=> ?_⟩, ?_,by omega⟩
  ·by_cases hjk:j=k
   ·subst hjk;exact h
   ·exact hg j (by omega)
  ·(refine ⟨bN ?_,fun _ _ h=>h⟩;simp [go_sem,simprocAttr])
 ·exact (cD (0,0) fun j hj=>hg j (by omega)).symm
 ·exact fO hR
theorem cL {m:List (Nat × AObj)} (hR:bz m) (f:Nat) (caps:List AV) (g:Int→Bool) (hf:∀p,Spec Tryz.prog f (Args (eN p::caps)) m (eB (g p)) m) (ps:List Int) (hl:ps.length≤9223372036854775807):
 Spec Tryz.prog 121 (Args [.d (sI ps), .fn f [] caps]) m (eN (bU g ps)) m:=by
 (refine Spec.intro (C:=T.cfg [] []) (rs:= [.t 4]) (T.aq _ _) Tryz.func121 rfl rfl Tryz.ntmps121 Tryz.results121 (fun p hp=>⟨(bz.low hR p hp).1,bz.nest hR p hp⟩) (fun p hp=>⟨(bz.low hR p hp).2,bz.nest hR p hp⟩) (by kernel_rfl) ?_;intro X hX hP hC aN aO vals hA;refine ⟨_,by simp,hA, ?_⟩;have af:X.P.follows .mixedOrders=true:=(by rw [hP];exact T.mixed);clear aN aO)
 repeat' (first|fail|((first|((with_reducible (first|apply oA|apply oB));exact rfl;intro K hK)|(refine hK _ ?_;clear hK K)|((with_reducible (first|apply oG|apply oH));iterate 3 exact rfl)|((with_reducible apply oI);(iterate 2 exact rfl);intro K hK)|(with_reducible (first|apply wI|apply wJ|apply wK)));try simp only [go_sem,simprocAttr])|fail|(with_reducible (first|apply oC|apply oJ|exact oK|apply wA|apply wB|apply wC hX hC|apply wD hX hC|apply wE hX hC af|apply wF hX hC af|apply wG|apply wH|apply And.intro))|((with_reducible refine oD ?_ ?_);first|fail|kernel_rfl)|((with_reducible (first|apply oE|apply oF));(iterate 3 exact rfl);all_goals (intro h;first|(exact absurd h (by decide))|((try simp only [go_sem,simprocAttr] at h);(try with_reducible intro K hK);simp only [go_sem,simprocAttr])))|((first|((with_reducible apply wL);exact rfl)|((with_reducible apply wM);exact rfl));all_goals (try ((with_reducible intro h);first|(exact absurd h (by decide))|(try simp only [go_sem,simprocAttr] at h))))|omega|((first|(first|(refine bf hX hC hP hR (hf _) rfl rfl rfl ?_ ?_ rfl rfl ?_;(focus (simp only [go_sem,simprocAttr];done));(focus (first|(intro p hp;exact aL (bz.nd hR) hp)|(simp [go_sem,simprocAttr];done))))|(refine bf hX hC hP hR (hf _) rfl rfl rfl ?_ ?_ ?_ rfl ?_;(focus (simp only [go_sem,simprocAttr];done));(focus (first|(intro p hp;exact aL (bz.nd hR) hp)|(simp [go_sem,simprocAttr];done)));(focus (simp [go_sem,simprocAttr];done)))));try simp only [go_sem,simprocAttr])|(intro h))
 refine ak (fun k:Nat=>k≤ps.length∧∀j,j<k→g (ps.getD j 0)=false) (fun k=>⟨[(0, .d (sI ps)),(1, .fn f [] caps),(7,eN ps.length),(8,eN k)],m⟩) (fun k=>ps.length - k) 0 (by simp) ?_ ?_
 ·(refine ⟨bN ?_,fun _ _ h=>h⟩;simp [go_sem,simprocAttr])
 rintro k ⟨hk,hg⟩
 repeat' (first|fail|((first|((with_reducible (first|apply oA|apply oB));exact rfl;intro K hK)|(refine hK _ ?_;clear hK K)|((with_reducible (first|apply oG|apply oH));iterate 3 exact rfl)|((with_reducible apply oI);(iterate 2 exact rfl);intro K hK)|(with_reducible (first|apply wI|apply wJ|apply wK)));try simp only [go_sem,simprocAttr])|fail|(with_reducible (first|apply oC|apply oJ|exact oK|apply wA|apply wB|apply wC hX hC|apply wD hX hC|apply wE hX hC af|apply wF hX hC af|apply wG|apply wH|apply And.intro))|((with_reducible refine oD ?_ ?_);first|fail|kernel_rfl)|((with_reducible (first|apply oE|apply oF));(iterate 3 exact rfl);all_goals (intro h;first|(exact absurd h (by decide))|((try simp only [go_sem,simprocAttr] at h);(try with_reducible intro K hK);simp only [go_sem,simprocAttr])))|((first|((with_reducible apply wL);exact rfl)|((with_reducible apply wM);exact rfl));all_goals (try ((with_reducible intro h);first|(exact absurd h (by decide))|(try simp only [go_sem,simprocAttr] at h))))|omega|((first|(first|(refine bf hX hC hP hR (hf _) rfl rfl rfl ?_ ?_ rfl rfl ?_;(focus (simp only [go_sem,simprocAttr];done));(focus (first|(intro p hp;exact aL (bz.nd hR) hp)|(simp [go_sem,simprocAttr];done))))|(refine bf hX hC hP hR (hf _) rfl rfl rfl ?_ ?_ ?_ rfl ?_;(focus (simp only [go_sem,simprocAttr];done));(focus (first|(intro p hp;exact aL (bz.nd hR) hp)|(simp [go_sem,simprocAttr];done)));(focus (simp [go_sem,simprocAttr];done)))));try simp only [go_sem,simprocAttr])|(intro h))
 ·exact (dM (by omega) hg h).symm
 ·exact fO hR
 ·refine ⟨k+1,⟨by omega,fun j hj=> ?_⟩, ?_,by omega⟩
  ·by_cases hjk:j=k
   ·subst hjk;exact h
   ·exact hg j (by omega)
  ·(refine ⟨bN ?_,fun _ _ h=>h⟩;simp [go_sem,simprocAttr])
 ·exact (cD 0 fun j hj=>hg j (by omega)).symm
 ·exact fO hR
theorem mC {m:List (Nat × AObj)} (hR:bz m) (f:Nat) (caps:List AV) (g:Edge→Bool) (hf:∀p,Spec Tryz.prog f (Args (eE p::caps)) m (eB (g p)) m) (ps:List Edge) (hl:ps.length≤9223372036854775807):
 Spec Tryz.prog 93 (Args [.d (sE ps), .fn f [] caps]) m (eB (ps.any g)) m:=by
 (refine Spec.intro (C:=T.cfg [] []) (rs:= [.t 4]) (T.aq _ _) Tryz.func93 rfl rfl Tryz.ntmps93 Tryz.results93 (fun p hp=>⟨(bz.low hR p hp).1,bz.nest hR p hp⟩) (fun p hp=>⟨(bz.low hR p hp).2,bz.nest hR p hp⟩) (by kernel_rfl) ?_;intro X hX hP hC aN aO vals hA;refine ⟨_,by simp,hA, ?_⟩;have af:X.P.follows .mixedOrders=true:=(by rw [hP];exact T.mixed);clear aN aO)
 repeat' (first|fail|((first|((with_reducible (first|apply oA|apply oB));exact rfl;intro K hK)|(refine hK _ ?_;clear hK K)|((with_reducible (first|apply oG|apply oH));iterate 3 exact rfl)|((with_reducible apply oI);(iterate 2 exact rfl);intro K hK)|(with_reducible (first|apply wI|apply wJ|apply wK)));try simp only [go_sem,simprocAttr])|fail|(with_reducible (first|apply oC|apply oJ|exact oK|apply wA|apply wB|apply wC hX hC|apply wD hX hC|apply wE hX hC af|apply wF hX hC af|apply wG|apply wH|apply And.intro))|((with_reducible refine oD ?_ ?_);first|fail|kernel_rfl)|((with_reducible (first|apply oE|apply oF));(iterate 3 exact rfl);all_goals (intro h;first|(exact absurd h (by decide))|((try simp only [go_sem,simprocAttr] at h);(try with_reducible intro K hK);simp only [go_sem,simprocAttr])))|((first|((with_reducible apply wL);exact rfl)|((with_reducible apply wM);exact rfl));all_goals (try ((with_reducible intro h);first|(exact absurd h (by decide))|(try simp only [go_sem,simprocAttr] at h))))|omega|((first|(first|(refine bf hX hC hP hR (bL hR _ _ g hf ps hl) rfl rfl rfl ?_ ?_ rfl rfl ?_;(focus (simp only [go_sem,simprocAttr];done));(focus (first|(intro p hp;exact aL (bz.nd hR) hp)|(simp [go_sem,simprocAttr];done))))|(refine bf hX hC hP hR (bL hR _ _ g hf ps hl) rfl rfl rfl ?_ ?_ ?_ rfl ?_;(focus (simp only [go_sem,simprocAttr];done));(focus (first|(intro p hp;exact aL (bz.nd hR) hp)|(simp [go_sem,simprocAttr];done)));(focus (simp [go_sem,simprocAttr];done)))));try simp only [go_sem,simprocAttr])|(intro h))
 ·exact hM g ps
 ·exact fO hR
def uB (g:Gr) (x:Int):Bool:=decide (x<0)||decide (g.n≤x)
def ot (g:Gr) (e:Edge):Bool:=uB g e.1||uB g e.2
def aU (g:Gr):Bool:=decide (0<g.n)&&decide (g.n≤64)&&decide ((g.es.length:Int)≤128)&& !g.es.any (ot g)
def rG (g:Gr):AObj:= .rob [eN g.n, .d (sE g.es)]
theorem sZ (g:Gr) (x:Int):Spec Tryz.prog 92 (Args [eN x, .ptr 10000 0]) [(10000,rG g)] (eB (uB g x)) [(10000,rG g)]:=by
 unfold rG
 (refine Spec.intro (C:=T.cfg [] []) (rs:= [.t 3]) (T.aq _ _) Tryz.func92 rfl rfl Tryz.ntmps92 Tryz.results92 (by simp [AObj.isNest]) (by simp [AObj.isNest]) (by kernel_rfl) ?_;intro X hX hP hC aN aO vals hA;refine ⟨_,by simp,hA, ?_⟩;have af:X.P.follows .mixedOrders=true:=(by rw [hP];exact T.mixed);clear aN aO)
 repeat' (first|fail|((first|((with_reducible (first|apply oA|apply oB));exact rfl;intro K hK)|(refine hK _ ?_;clear hK K)|((with_reducible (first|apply oG|apply oH));iterate 3 exact rfl)|((with_reducible apply oI);(iterate 2 exact rfl);intro K hK)|(with_reducible (first|apply wI|apply wJ|apply wK)));try simp only [go_sem,simprocAttr])|fail|(with_reducible (first|apply oC|apply oJ|exact oK|apply wA|apply wB|apply wC hX hC|apply wD hX hC|apply wE hX hC af|apply wF hX hC af|apply wG|apply wH|apply And.intro))|((with_reducible refine oD ?_ ?_);first|fail|kernel_rfl)|((with_reducible (first|apply oE|apply oF));(iterate 3 exact rfl);all_goals (intro h;first|(exact absurd h (by decide))|((try simp only [go_sem,simprocAttr] at h);(try with_reducible intro K hK);simp only [go_sem,simprocAttr])))|((first|((with_reducible apply wL);exact rfl)|((with_reducible apply wM);exact rfl));all_goals (try ((with_reducible intro h);first|(exact absurd h (by decide))|(try simp only [go_sem,simprocAttr] at h))))|omega|((first|(first|(refine bf hX hC hP hR (bL hR _ _ g hf ps hl) rfl rfl rfl ?_ ?_ rfl rfl ?_;(focus (simp only [go_sem,simprocAttr];done));(focus (first|(intro p hp;exact aL (bz.nd hR) hp)|(simp [go_sem,simprocAttr];done))))|(refine bf hX hC hP hR (bL hR _ _ g hf ps hl) rfl rfl rfl ?_ ?_ ?_ rfl ?_;(focus (simp only [go_sem,simprocAttr];done));(focus (first|(intro p hp;exact aL (bz.nd hR) hp)|(simp [go_sem,simprocAttr];done)));(focus (simp [go_sem,simprocAttr];done)))));try simp only [go_sem,simprocAttr])|(intro h))
 ·simp [uB, *]
 ·simp [uB, *]
theorem DY (g:Gr):bz [(10000,rG g)]:=⟨by simp [rG,AObj.ro],by simp [nodupM,look],by simp,by simp [rG,AObj.ids,AV.ids,AV.idss,eN]⟩
def rF:AObj:= .rob [.fn 92 [] [.ptr 10000 0]]
attribute [go_sem] rG rF
theorem zO (g:Gr) (e:Edge):Spec Tryz.prog 94 (Args [eE e, .ptr 10001 0]) [(10001,rF),(10000,rG g)] (eB (ot g e)) [(10001,rF),(10000,rG g)]:=by
 unfold rF rG
 (refine Spec.intro (C:=T.cfg [] []) (rs:= [.t 3]) (T.aq _ _) Tryz.func94 rfl rfl Tryz.ntmps94 Tryz.results94 (by simp [AObj.isNest]) (by simp [AObj.isNest]) (by kernel_rfl) ?_;intro X hX hP hC aN aO vals hA;refine ⟨_,by simp,hA, ?_⟩;have af:X.P.follows .mixedOrders=true:=(by rw [hP];exact T.mixed);clear aN aO)
 repeat' (first|fail|((first|((with_reducible (first|apply oA|apply oB));exact rfl;intro K hK)|(refine hK _ ?_;clear hK K)|((with_reducible (first|apply oG|apply oH));iterate 3 exact rfl)|((with_reducible apply oI);(iterate 2 exact rfl);intro K hK)|(with_reducible (first|apply wI|apply wJ|apply wK)));try simp only [go_sem,simprocAttr])|fail|(with_reducible (first|apply oC|apply oJ|exact oK|apply wA|apply wB|apply wC hX hC|apply wD hX hC|apply wE hX hC af|apply wF hX hC af|apply wG|apply wH|apply And.intro))|((with_reducible refine oD ?_ ?_);first|fail|kernel_rfl)|((with_reducible (first|apply oE|apply oF));(iterate 3 exact rfl);all_goals (intro h;first|(exact absurd h (by decide))|((try simp only [go_sem,simprocAttr] at h);(try with_reducible intro K hK);simp only [go_sem,simprocAttr])))|((first|((with_reducible apply wL);exact rfl)|((with_reducible apply wM);exact rfl));all_goals (try ((with_reducible intro h);first|(exact absurd h (by decide))|(try simp only [go_sem,simprocAttr] at h))))|omega|((first|(first|(refine bf hX hC hP (DY g) (sZ g _) rfl rfl rfl ?_ ?_ rfl rfl ?_;(focus (simp only [go_sem,simprocAttr];done));(focus (first|(intro p hp;exact aL (bz.nd (DY g)) hp)|(simp [go_sem,simprocAttr];done))))|(refine bf hX hC hP (DY g) (sZ g _) rfl rfl rfl ?_ ?_ ?_ rfl ?_;(focus (simp only [go_sem,simprocAttr];done));(focus (first|(intro p hp;exact aL (bz.nd (DY g)) hp)|(simp [go_sem,simprocAttr];done)));(focus (simp [go_sem,simprocAttr];done)))));try simp only [go_sem,simprocAttr])|(intro h))
 ·simp [ot, *]
 ·simp [ot, *]
theorem LH (g:Gr):bz [(10001,rF),(10000,rG g)]:=⟨by simp [rG,rF,AObj.ro],by simp [nodupM,look],by simp,by simp [rG,rF,AObj.ids,AV.ids,AV.idss,eN,look]⟩
theorem gE (g:Gr) (hl:g.es.length≤9223372036854775807):Spec Tryz.prog 58 (Args [eG g]) [] (eB (aU g)) []:=by
 (refine Spec.intro (C:=T.cfg [] []) (rs:= [.t 2]) (T.aq _ _) Tryz.func58 rfl rfl Tryz.ntmps58 Tryz.results58 (by simp [AObj.isNest]) (by simp [AObj.isNest]) (by kernel_rfl) ?_;intro X hX hP hC aN aO vals hA;refine ⟨_,by simp,hA, ?_⟩;have af:X.P.follows .mixedOrders=true:=(by rw [hP];exact T.mixed);clear aN aO)
 repeat' (first|fail|((first|((with_reducible (first|apply oA|apply oB));exact rfl;intro K hK)|(refine hK _ ?_;clear hK K)|((with_reducible (first|apply oG|apply oH));iterate 3 exact rfl)|((with_reducible apply oI);(iterate 2 exact rfl);intro K hK)|(with_reducible (first|apply wI|apply wJ|apply wK)));try simp only [go_sem,simprocAttr])|fail|(with_reducible (first|apply oC|apply oJ|exact oK|apply wA|apply wB|apply wC hX hC|apply wD hX hC|apply wE hX hC af|apply wF hX hC af|apply wG|apply wH|apply And.intro))|((with_reducible refine oD ?_ ?_);first|fail|kernel_rfl)|((with_reducible (first|apply oE|apply oF));(iterate 3 exact rfl);all_goals (intro h;first|(exact absurd h (by decide))|((try simp only [go_sem,simprocAttr] at h);(try with_reducible intro K hK);simp only [go_sem,simprocAttr])))|((first|((with_reducible apply wL);exact rfl)|((with_reducible apply wM);exact rfl));all_goals (try ((with_reducible intro h);first|(exact absurd h (by decide))|(try simp only [go_sem,simprocAttr] at h))))|omega|((first|(refine aR hX hC hP [(10000,1),(10001,3)] (mC (LH g) _ _ (ot g) (zO g) g.es hl) rfl rfl rfl ?_ ?_ ?_ ?_ ?_ ?_ rfl rfl ?_ ?_;(focus (simp only [go_sem,simprocAttr];done));(iterate 6 (focus (simp [go_sem,simprocAttr];done)));simp only [go_sem,simprocAttr,List.map_cons,List.map_nil]));try simp only [go_sem,simprocAttr])|(intro h))
 all_goals simp [aU, *]
end Go.Ab
end
section
namespace Go.Ab
open Go.Proofs
attribute [local congr] ACall.congr
set_option maxRecDepth 10000
def dB (l:List Int) (x:Int):Int:=bU (fun y=>decide (x=y)) l
def Fz (l:List Edge) (x:Edge):Int:=bU (fun y=>decide (x=y)) l
theorem BY (l:List Int) (x:Int):decide (0≤dB l x)=decide (x∈l):=by
 unfold dB;rw [hM,Bool.eq_iff_iff];simp
theorem BZ (l:List Edge) (x:Edge):decide (0≤Fz l x)=decide (x∈l):=by
 unfold Fz;rw [hM,Bool.eq_iff_iff];simp [-Prod.exists, -Prod.forall]
theorem eR (x y:Edge):(decide (x.1=y.1)&&decide (x.2=y.2))=decide (x=y):=by
 obtain ⟨a,b⟩:=x;obtain ⟨c,d⟩:=y
 rw [Bool.eq_iff_iff];simp
theorem aP (ps:List Int) (x:Int) (hl:ps.length≤9223372036854775807):
 Spec Tryz.prog 55 (Args [.d (sI ps),eN x]) [] (eN (dB ps x)) []:=by
 (refine Spec.intro (C:=T.cfg [] []) (rs:= [.t 4]) (T.aq _ _) Tryz.func55 rfl rfl Tryz.ntmps55 Tryz.results55 (by simp [AObj.isNest]) (by simp [AObj.isNest]) (by kernel_rfl) ?_;intro X hX hP hC aN aO vals hA;refine ⟨_,by simp,hA, ?_⟩;have af:X.P.follows .mixedOrders=true:=(by rw [hP];exact T.mixed);clear aN aO)
 repeat' (first|fail|((first|((with_reducible (first|apply oA|apply oB));exact rfl;intro K hK)|(refine hK _ ?_;clear hK K)|((with_reducible (first|apply oG|apply oH));iterate 3 exact rfl)|((with_reducible apply oI);(iterate 2 exact rfl);intro K hK)|(with_reducible (first|apply wI|apply wJ|apply wK)));try simp only [go_sem,simprocAttr])|fail|(with_reducible (first|apply oC|apply oJ|exact oK|apply wA|apply wB|apply wC hX hC|apply wD hX hC|apply wE hX hC af|apply wF hX hC af|apply wG|apply wH|apply And.intro))|((with_reducible refine oD ?_ ?_);first|fail|kernel_rfl)|((with_reducible (first|apply oE|apply oF));(iterate 3 exact rfl);all_goals (intro h;first|(exact absurd h (by decide))|((try simp only [go_sem,simprocAttr] at h);(try with_reducible intro K hK);simp only [go_sem,simprocAttr])))|((first|((with_reducible apply wL);exact rfl)|((with_reducible apply wM);exact rfl));all_goals (try ((with_reducible intro h);first|(exact absurd h (by decide))|(try simp only [go_sem,simprocAttr] at h))))|omega|((first|fail);try simp only [go_sem,simprocAttr])|(intro h))
 refine ak (fun k:Nat=>k≤ps.length∧∀j,j<k→decide (x=ps.getD j 0)=false) (fun k=>⟨[(0, .d (sI ps)),(1,eN x),(7,eN ps.length),(8,eN k)], []⟩) (fun k=>ps.length - k) 0 (by simp) ?_ ?_
 ·(refine ⟨bN ?_,fun _ _ h=>h⟩;simp [go_sem,simprocAttr])
 rintro k ⟨hk,hg⟩
 repeat' (first|fail|((first|((with_reducible (first|apply oA|apply oB));exact rfl;intro K hK)|(refine hK _ ?_;clear hK K)|((with_reducible (first|apply oG|apply oH));iterate 3 exact rfl)|((with_reducible apply oI);(iterate 2 exact rfl);intro K hK)|(with_reducible (first|apply wI|apply wJ|apply wK)));try simp only [go_sem,simprocAttr])|fail|(with_reducible (first|apply oC|apply oJ|exact oK|apply wA|apply wB|apply wC hX hC|apply wD hX hC|apply wE hX hC af|apply wF hX hC af|apply wG|apply wH|apply And.intro))|((with_reducible refine oD ?_ ?_);first|fail|kernel_rfl)|((with_reducible (first|apply oE|apply oF));(iterate 3 exact rfl);all_goals (intro h;first|(exact absurd h (by decide))|((try simp only [go_sem,simprocAttr] at h);(try with_reducible intro K hK);simp only [go_sem,simprocAttr])))|((first|((with_reducible apply wL);exact rfl)|((with_reducible apply wM);exact rfl));all_goals (try ((with_reducible intro h);first|(exact absurd h (by decide))|(try simp only [go_sem,simprocAttr] at h))))|omega|((first|fail);try simp only [go_sem,simprocAttr])|(intro h))
 ·exact (dM (by omega) hg (by simpa using h)).symm
 ·refine ⟨k+1,⟨by omega,fun j hj=> ?_⟩, ?_,by omega⟩
  ·by_cases hjk:j=k
   ·subst hjk;simpa using h
   ·simpa using hg j (by omega)
  ·(refine ⟨bN ?_,fun _ _ h=>h⟩;simp [go_sem,simprocAttr])
 ·exact (cD 0 fun j hj=>hg j (by omega)).symm
theorem bn (ps:List Int) (x:Int) (hl:ps.length≤9223372036854775807):
 Spec Tryz.prog 123 (Args [.d (sI ps),eN x]) [] (eB (decide (x∈ps))) []:=by
 rw [← BY]
 (refine Spec.intro (C:=T.cfg [] []) (rs:= [.t 4]) (T.aq _ _) Tryz.func123 rfl rfl Tryz.ntmps123 Tryz.results123 (by simp [AObj.isNest]) (by simp [AObj.isNest]) (by kernel_rfl) ?_;intro X hX hP hC aN aO vals hA;refine ⟨_,by simp,hA, ?_⟩;have af:X.P.follows .mixedOrders=true:=(by rw [hP];exact T.mixed);clear aN aO)
 repeat' (first|fail|((first|((with_reducible (first|apply oA|apply oB));exact rfl;intro K hK)|(refine hK _ ?_;clear hK K)|((with_reducible (first|apply oG|apply oH));iterate 3 exact rfl)|((with_reducible apply oI);(iterate 2 exact rfl);intro K hK)|(with_reducible (first|apply wI|apply wJ|apply wK)));try simp only [go_sem,simprocAttr])|fail|(with_reducible (first|apply oC|apply oJ|exact oK|apply wA|apply wB|apply wC hX hC|apply wD hX hC|apply wE hX hC af|apply wF hX hC af|apply wG|apply wH|apply And.intro))|((with_reducible refine oD ?_ ?_);first|fail|kernel_rfl)|((with_reducible (first|apply oE|apply oF));(iterate 3 exact rfl);all_goals (intro h;first|(exact absurd h (by decide))|((try simp only [go_sem,simprocAttr] at h);(try with_reducible intro K hK);simp only [go_sem,simprocAttr])))|((first|((with_reducible apply wL);exact rfl)|((with_reducible apply wM);exact rfl));all_goals (try ((with_reducible intro h);first|(exact absurd h (by decide))|(try simp only [go_sem,simprocAttr] at h))))|omega|((first|refine aa hX hC hP (aP ps x hl) rfl rfl rfl (by simp only [go_sem,simprocAttr]) rfl ?_);try simp only [go_sem,simprocAttr])|(intro h))
theorem we (ps:List Edge) (x:Edge) (hl:ps.length≤9223372036854775807):
 Spec Tryz.prog 120 (Args [.d (sE ps),eE x]) [] (eN (Fz ps x)) []:=by
 (refine Spec.intro (C:=T.cfg [] []) (rs:= [.t 4]) (T.aq _ _) Tryz.func120 rfl rfl Tryz.ntmps120 Tryz.results120 (by simp [AObj.isNest]) (by simp [AObj.isNest]) (by kernel_rfl) ?_;intro X hX hP hC aN aO vals hA;refine ⟨_,by simp,hA, ?_⟩;have af:X.P.follows .mixedOrders=true:=(by rw [hP];exact T.mixed);clear aN aO)
 repeat' (first|fail|((first|((with_reducible (first|apply oA|apply oB));exact rfl;intro K hK)|(refine hK _ ?_;clear hK K)|((with_reducible (first|apply oG|apply oH));iterate 3 exact rfl)|((with_reducible apply oI);(iterate 2 exact rfl);intro K hK)|(with_reducible (first|apply wI|apply wJ|apply wK)));try simp only [go_sem,simprocAttr])|fail|(with_reducible (first|apply oC|apply oJ|exact oK|apply wA|apply wB|apply wC hX hC|apply wD hX hC|apply wE hX hC af|apply wF hX hC af|apply wG|apply wH|apply And.intro))|((with_reducible refine oD ?_ ?_);first|fail|kernel_rfl)|((with_reducible (first|apply oE|apply oF));(iterate 3 exact rfl);all_goals (intro h;first|(exact absurd h (by decide))|((try simp only [go_sem,simprocAttr] at h);(try with_reducible intro K hK);simp only [go_sem,simprocAttr])))|((first|((with_reducible apply wL);exact rfl)|((with_reducible apply wM);exact rfl));all_goals (try ((with_reducible intro h);first|(exact absurd h (by decide))|(try simp only [go_sem,simprocAttr] at h))))|omega|((first|fail);try simp only [go_sem,simprocAttr])|(intro h))
 refine ak (fun k:Nat=>k≤ps.length∧∀j,j<k→decide (x=ps.getD j (0,0))=false) (fun k=>⟨[(0, .d (sE ps)),(3, .ptr 3 0),(7,eN ps.length),(8,eN k)], [(3, .box [eN x.1,eN x.2])]⟩) (fun k=>ps.length - k) 0 (by simp) ?_ ?_
 ·(refine Le.of ?_ ?_<;>simp [go_sem,simprocAttr])
 rintro k ⟨hk,hg⟩
 repeat' (first|fail|((first|((with_reducible (first|apply oA|apply oB));exact rfl;intro K hK)|(refine hK _ ?_;clear hK K)|((with_reducible (first|apply oG|apply oH));iterate 3 exact rfl)|((with_reducible apply oI);(iterate 2 exact rfl);intro K hK)|(with_reducible (first|apply wI|apply wJ|apply wK)));try simp only [go_sem,simprocAttr,eR])|fail|(with_reducible (first|apply oC|apply oJ|exact oK|apply wA|apply wB|apply wC hX hC|apply wD hX hC|apply wE hX hC af|apply wF hX hC af|apply wG|apply wH|apply And.intro))|((with_reducible refine oD ?_ ?_);first|fail|kernel_rfl)|((with_reducible (first|apply oE|apply oF));(iterate 3 exact rfl);all_goals (intro h;first|(exact absurd h (by decide))|((try simp only [go_sem,simprocAttr,eR] at h);(try with_reducible intro K hK);simp only [go_sem,simprocAttr,eR])))|((first|((with_reducible apply wL);exact rfl)|((with_reducible apply wM);exact rfl));all_goals (try ((with_reducible intro h);first|(exact absurd h (by decide))|(try simp only [go_sem,simprocAttr,eR] at h))))|omega|((first|fail);try simp only [go_sem,simprocAttr,eR])|(intro h))
 ·exact (dM (d:=(0,0)) (by omega) hg (by simpa using h)).symm
 ·refine ⟨k+1,⟨by omega,fun j hj=> ?_⟩, ?_,by omega⟩
  ·by_cases hjk:j=k
   ·subst hjk;exact h
   ·simpa using hg j (by omega)
  ·(refine Le.of ?_ ?_<;>simp [go_sem,simprocAttr,eR])
 ·exact (cD (0,0) fun j hj=>hg j (by omega)).symm
theorem ec (ps:List Edge) (x:Edge) (hl:ps.length≤9223372036854775807):
 Spec Tryz.prog 102 (Args [.d (sE ps),eE x]) [] (eB (decide (x∈ps))) []:=by
 rw [← BZ]
 (refine Spec.intro (C:=T.cfg [] []) (rs:= [.t 4]) (T.aq _ _) Tryz.func102 rfl rfl Tryz.ntmps102 Tryz.results102 (by simp [AObj.isNest]) (by simp [AObj.isNest]) (by kernel_rfl) ?_;intro X hX hP hC aN aO vals hA;refine ⟨_,by simp,hA, ?_⟩;have af:X.P.follows .mixedOrders=true:=(by rw [hP];exact T.mixed);clear aN aO)
 repeat' (first|fail|((first|((with_reducible (first|apply oA|apply oB));exact rfl;intro K hK)|(refine hK _ ?_;clear hK K)|((with_reducible (first|apply oG|apply oH));iterate 3 exact rfl)|((with_reducible apply oI);(iterate 2 exact rfl);intro K hK)|(with_reducible (first|apply wI|apply wJ|apply wK)));try simp only [go_sem,simprocAttr,eR])|fail|(with_reducible (first|apply oC|apply oJ|exact oK|apply wA|apply wB|apply wC hX hC|apply wD hX hC|apply wE hX hC af|apply wF hX hC af|apply wG|apply wH|apply And.intro))|((with_reducible refine oD ?_ ?_);first|fail|kernel_rfl)|((with_reducible (first|apply oE|apply oF));(iterate 3 exact rfl);all_goals (intro h;first|(exact absurd h (by decide))|((try simp only [go_sem,simprocAttr,eR] at h);(try with_reducible intro K hK);simp only [go_sem,simprocAttr,eR])))|((first|((with_reducible apply wL);exact rfl)|((with_reducible apply wM);exact rfl));all_goals (try ((with_reducible intro h);first|(exact absurd h (by decide))|(try simp only [go_sem,simprocAttr,eR] at h))))|omega|((first|refine aa hX hC hP (we ps x hl) rfl rfl rfl (by simp only [go_sem,simprocAttr,eR]) rfl ?_);try simp only [go_sem,simprocAttr,eR])|(intro h))
theorem kW (ps:List Edge) (hl:ps.length≤1000000):
 Spec Tryz.prog 59 (Args [.d (sE ps)]) [] (.d (sE ps)) []:=by
 (refine Spec.intro (C:=T.cfg [] []) (rs:= [.t 2]) (T.aq _ _) Tryz.func59 rfl rfl Tryz.ntmps59 Tryz.results59 (by simp [AObj.isNest]) (by simp [AObj.isNest]) (by kernel_rfl) ?_;intro X hX hP hC aN aO vals hA;refine ⟨_,by simp,hA, ?_⟩;have af:X.P.follows .mixedOrders=true:=(by rw [hP];exact T.mixed);clear aN aO)
 repeat' (first|fail|((first|((with_reducible (first|apply oA|apply oB));exact rfl;intro K hK)|(refine hK _ ?_;clear hK K)|((with_reducible (first|apply oG|apply oH));iterate 3 exact rfl)|((with_reducible apply oI);(iterate 2 exact rfl);intro K hK)|(with_reducible (first|apply wI|apply wJ|apply wK)));try simp only [go_sem,simprocAttr])|fail|(with_reducible (first|apply oC|apply oJ|exact oK|apply wA|apply wB|apply wC hX hC|apply wD hX hC|apply wE hX hC af|apply wF hX hC af|apply wG|apply wH|apply And.intro))|((with_reducible refine oD ?_ ?_);first|fail|kernel_rfl)|((with_reducible (first|apply oE|apply oF));(iterate 3 exact rfl);all_goals (intro h;first|(exact absurd h (by decide))|((try simp only [go_sem,simprocAttr] at h);(try with_reducible intro K hK);simp only [go_sem,simprocAttr])))|((first|((with_reducible apply wL);exact rfl)|((with_reducible apply wM);exact rfl));all_goals (try ((with_reducible intro h);first|(exact absurd h (by decide))|(try simp only [go_sem,simprocAttr] at h))))|omega|((first|fail);try simp only [go_sem,simprocAttr])|(intro h))
 exact h.symm
theorem kX (ps:List Int) (hl:ps.length≤1000000):
 Spec Tryz.prog 53 (Args [.d (sI ps)]) [] (.d (sI ps)) []:=by
 (refine Spec.intro (C:=T.cfg [] []) (rs:= [.t 2]) (T.aq _ _) Tryz.func53 rfl rfl Tryz.ntmps53 Tryz.results53 (by simp [AObj.isNest]) (by simp [AObj.isNest]) (by kernel_rfl) ?_;intro X hX hP hC aN aO vals hA;refine ⟨_,by simp,hA, ?_⟩;have af:X.P.follows .mixedOrders=true:=(by rw [hP];exact T.mixed);clear aN aO)
 repeat' (first|fail|((first|((with_reducible (first|apply oA|apply oB));exact rfl;intro K hK)|(refine hK _ ?_;clear hK K)|((with_reducible (first|apply oG|apply oH));iterate 3 exact rfl)|((with_reducible apply oI);(iterate 2 exact rfl);intro K hK)|(with_reducible (first|apply wI|apply wJ|apply wK)));try simp only [go_sem,simprocAttr])|fail|(with_reducible (first|apply oC|apply oJ|exact oK|apply wA|apply wB|apply wC hX hC|apply wD hX hC|apply wE hX hC af|apply wF hX hC af|apply wG|apply wH|apply And.intro))|((with_reducible refine oD ?_ ?_);first|fail|kernel_rfl)|((with_reducible (first|apply oE|apply oF));(iterate 3 exact rfl);all_goals (intro h;first|(exact absurd h (by decide))|((try simp only [go_sem,simprocAttr] at h);(try with_reducible intro K hK);simp only [go_sem,simprocAttr])))|((first|((with_reducible apply wL);exact rfl)|((with_reducible apply wM);exact rfl));all_goals (try ((with_reducible intro h);first|(exact absurd h (by decide))|(try simp only [go_sem,simprocAttr] at h))))|omega|((first|fail);try simp only [go_sem,simprocAttr])|(intro h))
 exact h.symm
theorem ou {α:Type} {xs ys:List α} (d:α) {k:Nat} (h1:k<xs.length) (h2:k<ys.length) (h:xs.take k=ys.take k) (he:xs.getD k d=ys.getD k d):xs.take (k+1)=ys.take (k+1):=by
 rw [List.take_add_one,List.take_add_one,h,List.getElem?_eq_getElem h1,List.getElem?_eq_getElem h2]
 simp only [List.getD_eq_getElem?_getD,List.getElem?_eq_getElem h1,List.getElem?_eq_getElem h2,Option.getD_some] at he
 rw [he]
theorem dP (xs ys:List Int) (hlen:xs.length≤9223372036854775807):Spec Tryz.prog 21 (Args [.d (sI xs), .d (sI ys)]) [] (eB (decide (xs=ys))) []:=by
 (refine Spec.intro (C:=T.cfg [] []) (rs:= [.t 4]) (T.aq _ _) Tryz.func21 rfl rfl Tryz.ntmps21 Tryz.results21 (by simp [AObj.isNest]) (by simp [AObj.isNest]) (by kernel_rfl) ?_;intro X hX hP hC aN aO vals hA;refine ⟨_,by simp,hA, ?_⟩;have af:X.P.follows .mixedOrders=true:=(by rw [hP];exact T.mixed);clear aN aO)
 repeat' (first|fail|((first|((with_reducible (first|apply oA|apply oB));exact rfl;intro K hK)|(refine hK _ ?_;clear hK K)|((with_reducible (first|apply oG|apply oH));iterate 3 exact rfl)|((with_reducible apply oI);(iterate 2 exact rfl);intro K hK)|(with_reducible (first|apply wI|apply wJ|apply wK)));try simp only [go_sem,simprocAttr])|fail|(with_reducible (first|apply oC|apply oJ|exact oK|apply wA|apply wB|apply wC hX hC|apply wD hX hC|apply wE hX hC af|apply wF hX hC af|apply wG|apply wH|apply And.intro))|((with_reducible refine oD ?_ ?_);first|fail|kernel_rfl)|((with_reducible (first|apply oE|apply oF));(iterate 3 exact rfl);all_goals (intro h;first|(exact absurd h (by decide))|((try simp only [go_sem,simprocAttr] at h);(try with_reducible intro K hK);simp only [go_sem,simprocAttr])))|((first|((with_reducible apply wL);exact rfl)|((with_reducible apply wM);exact rfl));all_goals (try ((with_reducible intro h);first|(exact absurd h (by decide))|(try simp only [go_sem,simprocAttr] at h))))|omega|((first|fail);try simp only [go_sem,simprocAttr])|(intro h))
 ·have:xs≠ys:=fun e=>h (by rw [e])
  simp [this]
 refine ak (fun k:Nat=>k≤xs.length∧xs.take k=ys.take k) (fun k=>⟨[(0, .d (sI xs)),(1, .d (sI ys)),(5,eN k)], []⟩) (fun k=>xs.length - k) 0 (by simp) ?_ ?_
 ·(refine ⟨bN ?_,fun _ _ h=>h⟩;simp [go_sem,simprocAttr])
 rintro k ⟨hk,hp⟩
 have yz:xs.length=ys.length:=by omega
 repeat' (first|fail|((first|((with_reducible (first|apply oA|apply oB));exact rfl;intro K hK)|(refine hK _ ?_;clear hK K)|((with_reducible (first|apply oG|apply oH));iterate 3 exact rfl)|((with_reducible apply oI);(iterate 2 exact rfl);intro K hK)|(with_reducible (first|apply wI|apply wJ|apply wK)));try simp only [go_sem,simprocAttr])|fail|(with_reducible (first|apply oC|apply oJ|exact oK|apply wA|apply wB|apply wC hX hC|apply wD hX hC|apply wE hX hC af|apply wF hX hC af|apply wG|apply wH|apply And.intro))|((with_reducible refine oD ?_ ?_);first|fail|kernel_rfl)|((with_reducible (first|apply oE|apply oF));(iterate 3 exact rfl);all_goals (intro h;first|(exact absurd h (by decide))|((try simp only [go_sem,simprocAttr] at h);(try with_reducible intro K hK);simp only [go_sem,simprocAttr])))|((first|((with_reducible apply wL);exact rfl)|((with_reducible apply wM);exact rfl));all_goals (try ((with_reducible intro h);first|(exact absurd h (by decide))|(try simp only [go_sem,simprocAttr] at h))))|omega|((first|fail);try simp only [go_sem,simprocAttr])|(intro h))
 ·have:xs≠ys:=fun e=>h (by rw [e])
  simp [this]
 ·refine ⟨k+1,⟨by omega,ou 0 (by omega) (by omega) hp h⟩, ?_,by omega⟩
  (refine ⟨bN ?_,fun _ _ h=>h⟩;simp [go_sem,simprocAttr])
 ·have:k=xs.length:=by omega
  subst this
  rw [List.take_of_length_le (Nat.le_refl _),List.take_of_length_le (by omega)] at hp
  simp [hp]
theorem B0 {α:Type} {f:α→Bool} {xs:List α} (d:α) {k:Nat} (h1:k<xs.length) (h:(xs.take k).any f=false) (he:f (xs.getD k d)=false):(xs.take (k+1)).any f=false:=by
 rw [List.take_add_one,List.any_append,h,List.getElem?_eq_getElem h1]
 simp only [List.getD_eq_getElem?_getD,List.getElem?_eq_getElem h1,Option.getD_some] at he
 simp [he]
theorem FA {α:Type} {f:α→Bool} {xs:List α} {d:α} {k:Nat} (h1:k<xs.length) (he:f (xs.getD k d)=true):xs.any f=true:=by
 rw [List.any_eq_true]
 refine ⟨_,List.getElem_mem h1, ?_⟩
 simpa only [List.getD_eq_getElem?_getD,List.getElem?_eq_getElem h1,Option.getD_some] using he
theorem wg {g:Gr} {k:Nat} (h1:k<g.es.length) (he:ot g (g.es.getD k (0,0))=true):false=aU g:=by
 simp [aU,FA h1 he]
theorem cR (g:Gr) (hl:g.es.length≤9223372036854775807):Spec Tryz.prog 63 (Args [eG g]) [] (eB (aU g)) []:=by
 (refine Spec.intro (C:=T.cfg [] []) (rs:= [.t 2]) (T.aq _ _) Tryz.func63 rfl rfl Tryz.ntmps63 Tryz.results63 (by simp [AObj.isNest]) (by simp [AObj.isNest]) (by kernel_rfl) ?_;intro X hX hP hC aN aO vals hA;refine ⟨_,by simp,hA, ?_⟩;have af:X.P.follows .mixedOrders=true:=(by rw [hP];exact T.mixed);clear aN aO)
 repeat' (first|fail|((first|((with_reducible (first|apply oA|apply oB));exact rfl;intro K hK)|(refine hK _ ?_;clear hK K)|((with_reducible (first|apply oG|apply oH));iterate 3 exact rfl)|((with_reducible apply oI);(iterate 2 exact rfl);intro K hK)|(with_reducible (first|apply wI|apply wJ|apply wK)));try simp only [go_sem,simprocAttr])|fail|(with_reducible (first|apply oC|apply oJ|exact oK|apply wA|apply wB|apply wC hX hC|apply wD hX hC|apply wE hX hC af|apply wF hX hC af|apply wG|apply wH|apply And.intro))|((with_reducible refine oD ?_ ?_);first|fail|kernel_rfl)|((with_reducible (first|apply oE|apply oF));(iterate 3 exact rfl);all_goals (intro h;first|(exact absurd h (by decide))|((try simp only [go_sem,simprocAttr] at h);(try with_reducible intro K hK);simp only [go_sem,simprocAttr])))|((first|((with_reducible apply wL);exact rfl)|((with_reducible apply wM);exact rfl));all_goals (try ((with_reducible intro h);first|(exact absurd h (by decide))|(try simp only [go_sem,simprocAttr] at h))))|omega|((first|fail);try simp only [go_sem,simprocAttr])|(intro h))
 any_goals (simp [aU];omega)
 refine ak (fun k:Nat=>k≤g.es.length∧(g.es.take k).any (ot g)=false) (fun k=>⟨[(1, .ptr 1 0),(3,eN k)], [(1, .box [eN g.n, .d (sE g.es)])]⟩) (fun k=>g.es.length - k) 0 (by simp) ?_ ?_
 ·(refine Le.of ?_ ?_<;>simp [go_sem,simprocAttr])
 rintro k ⟨hk,hp⟩
 repeat' (first|fail|((first|((with_reducible (first|apply oA|apply oB));exact rfl;intro K hK)|(refine hK _ ?_;clear hK K)|((with_reducible (first|apply oG|apply oH));iterate 3 exact rfl)|((with_reducible apply oI);(iterate 2 exact rfl);intro K hK)|(with_reducible (first|apply wI|apply wJ|apply wK)));try simp only [go_sem,simprocAttr])|fail|(with_reducible (first|apply oC|apply oJ|exact oK|apply wA|apply wB|apply wC hX hC|apply wD hX hC|apply wE hX hC af|apply wF hX hC af|apply wG|apply wH|apply And.intro))|((with_reducible refine oD ?_ ?_);first|fail|kernel_rfl)|((with_reducible (first|apply oE|apply oF));(iterate 3 exact rfl);all_goals (intro h;first|(exact absurd h (by decide))|((try simp only [go_sem,simprocAttr] at h);(try with_reducible intro K hK);simp only [go_sem,simprocAttr])))|((first|((with_reducible apply wL);exact rfl)|((with_reducible apply wM);exact rfl));all_goals (try ((with_reducible intro h);first|(exact absurd h (by decide))|(try simp only [go_sem,simprocAttr] at h))))|omega|((first|fail);try simp only [go_sem,simprocAttr])|(intro h))
 any_goals (refine wg (k:=k) (by omega) ?_;simp only [ot,uB,Bool.or_eq_true,decide_eq_true_eq];omega)
 ·refine ⟨k+1,⟨by omega,B0 (0,0) (by omega) hp ?_⟩, ?_,by omega⟩
  ·simp only [ot,uB,Bool.or_eq_false_iff,decide_eq_false_iff_not];omega
  ·(refine Le.of ?_ ?_<;>simp [go_sem,simprocAttr])
 ·rw [List.take_of_length_le (by omega)] at hp
  simp [aU,hp];omega
end Go.Ab
end
