/- A part of the proof. -/
import Derived.Test.YtameldglfobjkaaProg
import Derived.Test.YtameldglfobjkaaL5P10
set_option linter.unusedSimpArgs false
set_option linter.unusedVariables false
section
namespace Go.Ab.T
open Go.Proofs
def T:Nat→Option TI
 |2=>some ⟨(.int .i64),1,8, [(.d (.sc (.int .i64 0)))]⟩
 |3=>some ⟨(.int .i64),1,8, [(.d (.sc (.int .i64 0)))]⟩
 |4=>some ⟨.bool,1,1, [(.d (.sc (.bool false)))]⟩
 |5=>some ⟨(.int .u8),1,1, [(.d (.sc (.int .u8 0)))]⟩
 |9=>some ⟨.sc,1,16, [(.d (.sc (.string ⟨#[]⟩)))]⟩
 |12=>some ⟨(.int .u64),1,8, [(.d (.sc (.int .u64 0)))]⟩
 |21=>some ⟨(.int .i32),1,4, [(.d (.sc (.int .i32 0)))]⟩
 |22=>some ⟨(.sl 42),1,24, [(.nil 42)]⟩
 |24=>some ⟨(.st [(0,3),(1,22)]),2,32, [(.d (.sc (.int .i64 0))),(.nil 42)]⟩
 |25=>some ⟨(.sl 3),1,24, [(.nil 3)]⟩
 |26=>some ⟨(.sl 25),1,24, [(.nil 25)]⟩
 |28=>some ⟨(.st [(0,25),(1,26)]),2,48, [(.nil 3),(.nil 25)]⟩
 |31=>some ⟨(.int .i64),1,8, [(.d (.sc (.int .i64 0)))]⟩
 |34=>some ⟨(.sl 25),1,24, [(.nil 25)]⟩
 |39=>some ⟨(.sl 4),1,24, [(.nil 4)]⟩
 |42=>some ⟨(.st [(0,3),(1,3)]),2,16, [(.d (.sc (.int .i64 0))),(.d (.sc (.int .i64 0)))]⟩
 |46=>some ⟨(.sl 50),1,24, [(.nil 50)]⟩
 |50=>some ⟨(.st [(0,4),(1,3),(2,3)]),3,24, [(.d (.sc (.bool false))),(.d (.sc (.int .i64 0))),(.d (.sc (.int .i64 0)))]⟩
 |53=>some ⟨(.sl 56),1,24, [(.nil 56)]⟩
 |55=>some ⟨(.int .u64),1,8, [(.d (.sc (.int .u64 0)))]⟩
 |56=>some ⟨(.int .u64),1,8, [(.d (.sc (.int .u64 0)))]⟩
 |58=>some ⟨(.sl 59),1,24, [(.nil 59)]⟩
 |59=>some ⟨(.sl 74),1,24, [(.nil 74)]⟩
 |61=>some ⟨(.st [(0,31),(1,3),(2,25)]),3,40, [(.d (.sc (.int .i64 0))),(.d (.sc (.int .i64 0))),(.nil 3)]⟩
 |64=>some ⟨(.pt 68),1,8, [(.d (.sc (.pointer none)))]⟩
 |68=>some ⟨(.st [(0,24),(2,28)]),4,80, [(.d (.sc (.int .i64 0))),(.nil 42),(.nil 3),(.nil 25)]⟩
 |74=>some ⟨(.st [(0,3),(1,3),(2,3)]),3,24, [(.d (.sc (.int .i64 0))),(.d (.sc (.int .i64 0))),(.d (.sc (.int .i64 0)))]⟩
 |78=>some ⟨(.pt 81),1,8, [(.d (.sc (.pointer none)))]⟩
 |81=>some ⟨(.st [(0,24),(2,26),(3,25),(4,25),(5,3),(6,25),(7,26)]),8,160, [(.d (.sc (.int .i64 0))),(.nil 42),(.nil 25),(.nil 3),(.nil 3),(.d (.sc (.int .i64 0))),(.nil 3),(.nil 25)]⟩
 |94=>some ⟨.sc,1,8, [(.d (.sc .nilFunc))]⟩
 |96=>some ⟨(.pt 123),1,8, [(.d (.sc (.pointer none)))]⟩
 |99=>some ⟨(.pt 109),1,8, [(.d (.sc (.pointer none)))]⟩
 |107=>some ⟨(.st [(0,59)]),1,24, [(.nil 74)]⟩
 |109=>some ⟨(.st [(0,107),(1,96),(2,25)]),3,56, [(.nil 74),(.d (.sc (.pointer none))),(.nil 3)]⟩
 |117=>some ⟨(.int .u64),1,8, [(.d (.sc (.int .u64 0)))]⟩
 |118=>some ⟨(.ar 2 3),2,16, [(.d (.sc (.int .i64 0))),(.d (.sc (.int .i64 0)))]⟩
 |123=>some ⟨(.st [(0,24),(2,26),(3,26)]),4,80, [(.d (.sc (.int .i64 0))),(.nil 42),(.nil 25),(.nil 25)]⟩
 |134=>some ⟨(.pt 107),1,8, [(.d (.sc (.pointer none)))]⟩
 |138=>some ⟨(.int .i64),1,8, [(.d (.sc (.int .i64 0)))]⟩
 |146=>some ⟨(.int .u32),1,4, [(.d (.sc (.int .u32 0)))]⟩
 |157=>some ⟨(.int .u64),1,8, [(.d (.sc (.int .u64 0)))]⟩
 |161=>some ⟨(.pt 3),1,8, [(.d (.sc (.pointer none)))]⟩
 |168=>some ⟨(.pt 157),1,8, [(.d (.sc (.pointer none)))]⟩
 |191=>some ⟨(.pt 5),1,8, [(.d (.sc (.pointer none)))]⟩
 |_=>none
theorem T2:T 2=some ⟨(.int .i64),1,8, [(.d (.sc (.int .i64 0)))]⟩:=rfl
theorem T3:T 3=some ⟨(.int .i64),1,8, [(.d (.sc (.int .i64 0)))]⟩:=rfl
theorem T4:T 4=some ⟨.bool,1,1, [(.d (.sc (.bool false)))]⟩:=rfl
theorem T5:T 5=some ⟨(.int .u8),1,1, [(.d (.sc (.int .u8 0)))]⟩:=rfl
theorem T9:T 9=some ⟨.sc,1,16, [(.d (.sc (.string ⟨#[]⟩)))]⟩:=rfl
theorem T12:T 12=some ⟨(.int .u64),1,8, [(.d (.sc (.int .u64 0)))]⟩:=rfl
theorem T21:T 21=some ⟨(.int .i32),1,4, [(.d (.sc (.int .i32 0)))]⟩:=rfl
theorem T22:T 22=some ⟨(.sl 42),1,24, [(.nil 42)]⟩:=rfl
theorem T24:T 24=some ⟨(.st [(0,3),(1,22)]),2,32, [(.d (.sc (.int .i64 0))),(.nil 42)]⟩:=rfl
theorem T25:T 25=some ⟨(.sl 3),1,24, [(.nil 3)]⟩:=rfl
theorem T26:T 26=some ⟨(.sl 25),1,24, [(.nil 25)]⟩:=rfl
theorem T28:T 28=some ⟨(.st [(0,25),(1,26)]),2,48, [(.nil 3),(.nil 25)]⟩:=rfl
theorem T31:T 31=some ⟨(.int .i64),1,8, [(.d (.sc (.int .i64 0)))]⟩:=rfl
theorem T34:T 34=some ⟨(.sl 25),1,24, [(.nil 25)]⟩:=rfl
theorem T39:T 39=some ⟨(.sl 4),1,24, [(.nil 4)]⟩:=rfl
theorem T42:T 42=some ⟨(.st [(0,3),(1,3)]),2,16, [(.d (.sc (.int .i64 0))),(.d (.sc (.int .i64 0)))]⟩:=rfl
theorem T46:T 46=some ⟨(.sl 50),1,24, [(.nil 50)]⟩:=rfl
theorem T50:T 50=some ⟨(.st [(0,4),(1,3),(2,3)]),3,24, [(.d (.sc (.bool false))),(.d (.sc (.int .i64 0))),(.d (.sc (.int .i64 0)))]⟩:=rfl
theorem T53:T 53=some ⟨(.sl 56),1,24, [(.nil 56)]⟩:=rfl
theorem T55:T 55=some ⟨(.int .u64),1,8, [(.d (.sc (.int .u64 0)))]⟩:=rfl
theorem T56:T 56=some ⟨(.int .u64),1,8, [(.d (.sc (.int .u64 0)))]⟩:=rfl
theorem T58:T 58=some ⟨(.sl 59),1,24, [(.nil 59)]⟩:=rfl
theorem T59:T 59=some ⟨(.sl 74),1,24, [(.nil 74)]⟩:=rfl
theorem T61:T 61=some ⟨(.st [(0,31),(1,3),(2,25)]),3,40, [(.d (.sc (.int .i64 0))),(.d (.sc (.int .i64 0))),(.nil 3)]⟩:=rfl
theorem T64:T 64=some ⟨(.pt 68),1,8, [(.d (.sc (.pointer none)))]⟩:=rfl
theorem T68:T 68=some ⟨(.st [(0,24),(2,28)]),4,80, [(.d (.sc (.int .i64 0))),(.nil 42),(.nil 3),(.nil 25)]⟩:=rfl
theorem T74:T 74=some ⟨(.st [(0,3),(1,3),(2,3)]),3,24, [(.d (.sc (.int .i64 0))),(.d (.sc (.int .i64 0))),(.d (.sc (.int .i64 0)))]⟩:=rfl
theorem T78:T 78=some ⟨(.pt 81),1,8, [(.d (.sc (.pointer none)))]⟩:=rfl
theorem T81:T 81=some ⟨(.st [(0,24),(2,26),(3,25),(4,25),(5,3),(6,25),(7,26)]),8,160, [(.d (.sc (.int .i64 0))),(.nil 42),(.nil 25),(.nil 3),(.nil 3),(.d (.sc (.int .i64 0))),(.nil 3),(.nil 25)]⟩:=rfl
theorem T94:T 94=some ⟨.sc,1,8, [(.d (.sc .nilFunc))]⟩:=rfl
theorem T96:T 96=some ⟨(.pt 123),1,8, [(.d (.sc (.pointer none)))]⟩:=rfl
theorem T99:T 99=some ⟨(.pt 109),1,8, [(.d (.sc (.pointer none)))]⟩:=rfl
theorem T107:T 107=some ⟨(.st [(0,59)]),1,24, [(.nil 74)]⟩:=rfl
theorem T109:T 109=some ⟨(.st [(0,107),(1,96),(2,25)]),3,56, [(.nil 74),(.d (.sc (.pointer none))),(.nil 3)]⟩:=rfl
theorem T117:T 117=some ⟨(.int .u64),1,8, [(.d (.sc (.int .u64 0)))]⟩:=rfl
theorem T118:T 118=some ⟨(.ar 2 3),2,16, [(.d (.sc (.int .i64 0))),(.d (.sc (.int .i64 0)))]⟩:=rfl
theorem T123:T 123=some ⟨(.st [(0,24),(2,26),(3,26)]),4,80, [(.d (.sc (.int .i64 0))),(.nil 42),(.nil 25),(.nil 25)]⟩:=rfl
theorem T134:T 134=some ⟨(.pt 107),1,8, [(.d (.sc (.pointer none)))]⟩:=rfl
theorem T138:T 138=some ⟨(.int .i64),1,8, [(.d (.sc (.int .i64 0)))]⟩:=rfl
theorem T146:T 146=some ⟨(.int .u32),1,4, [(.d (.sc (.int .u32 0)))]⟩:=rfl
theorem T157:T 157=some ⟨(.int .u64),1,8, [(.d (.sc (.int .u64 0)))]⟩:=rfl
theorem T161:T 161=some ⟨(.pt 3),1,8, [(.d (.sc (.pointer none)))]⟩:=rfl
theorem T168:T 168=some ⟨(.pt 157),1,8, [(.d (.sc (.pointer none)))]⟩:=rfl
theorem T191:T 191=some ⟨(.pt 5),1,8, [(.d (.sc (.pointer none)))]⟩:=rfl
def qj:Nat→Option Nat
 |42=>some 2
 |74=>some 3
 |_=>none
theorem eqn42:qj 42=some 2:=rfl
theorem eqn74:qj 74=some 3:=rfl
theorem FE:ak Try.prog 2 ⟨(.int .i64),1,8, [(.d (.sc (.int .i64 0)))]⟩:=ak.mk' (by kernel_rfl) (by kernel_rfl) rfl Try.underlying2
theorem FF:ak Try.prog 3 ⟨(.int .i64),1,8, [(.d (.sc (.int .i64 0)))]⟩:=ak.mk' (by kernel_rfl) (by kernel_rfl) rfl Try.underlying3
theorem FG:ak Try.prog 4 ⟨.bool,1,1, [(.d (.sc (.bool false)))]⟩:=ak.mk' (by kernel_rfl) (by kernel_rfl) rfl Try.underlying4
theorem FH:ak Try.prog 5 ⟨(.int .u8),1,1, [(.d (.sc (.int .u8 0)))]⟩:=ak.mk' (by kernel_rfl) (by kernel_rfl) rfl Try.underlying5
theorem FI:ak Try.prog 9 ⟨.sc,1,16, [(.d (.sc (.string ⟨#[]⟩)))]⟩:=ak.mk' (by kernel_rfl) (by kernel_rfl) rfl ⟨_,Try.underlying9,trivial⟩
theorem CP:ak Try.prog 12 ⟨(.int .u64),1,8, [(.d (.sc (.int .u64 0)))]⟩:=ak.mk' (by kernel_rfl) (by kernel_rfl) rfl Try.underlying12
theorem CQ:ak Try.prog 21 ⟨(.int .i32),1,4, [(.d (.sc (.int .i32 0)))]⟩:=ak.mk' (by kernel_rfl) (by kernel_rfl) rfl Try.underlying21
theorem CR:ak Try.prog 22 ⟨(.sl 42),1,24, [(.nil 42)]⟩:=ak.mk' (by kernel_rfl) (by kernel_rfl) rfl Try.underlying22
theorem CS:ak Try.prog 24 ⟨(.st [(0,3),(1,22)]),2,32, [(.d (.sc (.int .i64 0))),(.nil 42)]⟩:=ak.mk' (by kernel_rfl) (by kernel_rfl) rfl ⟨_,Try.underlying24,rfl⟩
theorem CT:ak Try.prog 25 ⟨(.sl 3),1,24, [(.nil 3)]⟩:=ak.mk' (by kernel_rfl) (by kernel_rfl) rfl Try.underlying25
theorem CU:ak Try.prog 26 ⟨(.sl 25),1,24, [(.nil 25)]⟩:=ak.mk' (by kernel_rfl) (by kernel_rfl) rfl Try.underlying26
theorem CV:ak Try.prog 28 ⟨(.st [(0,25),(1,26)]),2,48, [(.nil 3),(.nil 25)]⟩:=ak.mk' (by kernel_rfl) (by kernel_rfl) rfl ⟨_,Try.underlying28,rfl⟩
theorem CW:ak Try.prog 31 ⟨(.int .i64),1,8, [(.d (.sc (.int .i64 0)))]⟩:=ak.mk' (by kernel_rfl) (by kernel_rfl) rfl Try.underlying31
theorem CX:ak Try.prog 34 ⟨(.sl 25),1,24, [(.nil 25)]⟩:=ak.mk' (by kernel_rfl) (by kernel_rfl) rfl Try.underlying34
theorem CY:ak Try.prog 39 ⟨(.sl 4),1,24, [(.nil 4)]⟩:=ak.mk' (by kernel_rfl) (by kernel_rfl) rfl Try.underlying39
theorem CZ:ak Try.prog 42 ⟨(.st [(0,3),(1,3)]),2,16, [(.d (.sc (.int .i64 0))),(.d (.sc (.int .i64 0)))]⟩:=ak.mk' (by kernel_rfl) (by kernel_rfl) rfl ⟨_,Try.underlying42,rfl⟩
theorem C1:ak Try.prog 46 ⟨(.sl 50),1,24, [(.nil 50)]⟩:=ak.mk' (by kernel_rfl) (by kernel_rfl) rfl Try.underlying46
theorem C2:ak Try.prog 50 ⟨(.st [(0,4),(1,3),(2,3)]),3,24, [(.d (.sc (.bool false))),(.d (.sc (.int .i64 0))),(.d (.sc (.int .i64 0)))]⟩:=ak.mk' (by kernel_rfl) (by kernel_rfl) rfl ⟨_,Try.underlying50,rfl⟩
theorem C3:ak Try.prog 53 ⟨(.sl 56),1,24, [(.nil 56)]⟩:=ak.mk' (by kernel_rfl) (by kernel_rfl) rfl Try.underlying53
theorem C4:ak Try.prog 55 ⟨(.int .u64),1,8, [(.d (.sc (.int .u64 0)))]⟩:=ak.mk' (by kernel_rfl) (by kernel_rfl) rfl Try.underlying55
theorem C5:ak Try.prog 56 ⟨(.int .u64),1,8, [(.d (.sc (.int .u64 0)))]⟩:=ak.mk' (by kernel_rfl) (by kernel_rfl) rfl Try.underlying56
theorem C6:ak Try.prog 58 ⟨(.sl 59),1,24, [(.nil 59)]⟩:=ak.mk' (by kernel_rfl) (by kernel_rfl) rfl Try.underlying58
theorem C7:ak Try.prog 59 ⟨(.sl 74),1,24, [(.nil 74)]⟩:=ak.mk' (by kernel_rfl) (by kernel_rfl) rfl Try.underlying59
theorem C8:ak Try.prog 61 ⟨(.st [(0,31),(1,3),(2,25)]),3,40, [(.d (.sc (.int .i64 0))),(.d (.sc (.int .i64 0))),(.nil 3)]⟩:=ak.mk' (by kernel_rfl) (by kernel_rfl) rfl ⟨_,Try.underlying61,rfl⟩
theorem C9:ak Try.prog 64 ⟨(.pt 68),1,8, [(.d (.sc (.pointer none)))]⟩:=ak.mk' (by kernel_rfl) (by kernel_rfl) rfl Try.underlying64
theorem Da:ak Try.prog 68 ⟨(.st [(0,24),(2,28)]),4,80, [(.d (.sc (.int .i64 0))),(.nil 42),(.nil 3),(.nil 25)]⟩:=ak.mk' (by kernel_rfl) (by kernel_rfl) rfl ⟨_,Try.underlying68,rfl⟩
theorem Db:ak Try.prog 74 ⟨(.st [(0,3),(1,3),(2,3)]),3,24, [(.d (.sc (.int .i64 0))),(.d (.sc (.int .i64 0))),(.d (.sc (.int .i64 0)))]⟩:=ak.mk' (by kernel_rfl) (by kernel_rfl) rfl ⟨_,Try.underlying74,rfl⟩
theorem Dc:ak Try.prog 78 ⟨(.pt 81),1,8, [(.d (.sc (.pointer none)))]⟩:=ak.mk' (by kernel_rfl) (by kernel_rfl) rfl Try.underlying78
theorem Dd:ak Try.prog 81 ⟨(.st [(0,24),(2,26),(3,25),(4,25),(5,3),(6,25),(7,26)]),8,160, [(.d (.sc (.int .i64 0))),(.nil 42),(.nil 25),(.nil 3),(.nil 3),(.d (.sc (.int .i64 0))),(.nil 3),(.nil 25)]⟩:=ak.mk' (by kernel_rfl) (by kernel_rfl) rfl ⟨_,Try.underlying81,rfl⟩
theorem De:ak Try.prog 94 ⟨.sc,1,8, [(.d (.sc .nilFunc))]⟩:=ak.mk' (by kernel_rfl) (by kernel_rfl) rfl ⟨_,Try.underlying94,trivial⟩
theorem Df:ak Try.prog 96 ⟨(.pt 123),1,8, [(.d (.sc (.pointer none)))]⟩:=ak.mk' (by kernel_rfl) (by kernel_rfl) rfl Try.underlying96
theorem Dg:ak Try.prog 99 ⟨(.pt 109),1,8, [(.d (.sc (.pointer none)))]⟩:=ak.mk' (by kernel_rfl) (by kernel_rfl) rfl Try.underlying99
theorem Ac:ak Try.prog 107 ⟨(.st [(0,59)]),1,24, [(.nil 74)]⟩:=ak.mk' (by kernel_rfl) (by kernel_rfl) rfl ⟨_,Try.underlying107,rfl⟩
theorem Ad:ak Try.prog 109 ⟨(.st [(0,107),(1,96),(2,25)]),3,56, [(.nil 74),(.d (.sc (.pointer none))),(.nil 3)]⟩:=ak.mk' (by kernel_rfl) (by kernel_rfl) rfl ⟨_,Try.underlying109,rfl⟩
theorem Ae:ak Try.prog 117 ⟨(.int .u64),1,8, [(.d (.sc (.int .u64 0)))]⟩:=ak.mk' (by kernel_rfl) (by kernel_rfl) rfl Try.underlying117
theorem Af:ak Try.prog 118 ⟨(.ar 2 3),2,16, [(.d (.sc (.int .i64 0))),(.d (.sc (.int .i64 0)))]⟩:=ak.mk' (by kernel_rfl) (by kernel_rfl) rfl Try.underlying118
theorem Ag:ak Try.prog 123 ⟨(.st [(0,24),(2,26),(3,26)]),4,80, [(.d (.sc (.int .i64 0))),(.nil 42),(.nil 25),(.nil 25)]⟩:=ak.mk' (by kernel_rfl) (by kernel_rfl) rfl ⟨_,Try.underlying123,rfl⟩
theorem Ah:ak Try.prog 134 ⟨(.pt 107),1,8, [(.d (.sc (.pointer none)))]⟩:=ak.mk' (by kernel_rfl) (by kernel_rfl) rfl Try.underlying134
theorem Ai:ak Try.prog 138 ⟨(.int .i64),1,8, [(.d (.sc (.int .i64 0)))]⟩:=ak.mk' (by kernel_rfl) (by kernel_rfl) rfl Try.underlying138
theorem Aj:ak Try.prog 146 ⟨(.int .u32),1,4, [(.d (.sc (.int .u32 0)))]⟩:=ak.mk' (by kernel_rfl) (by kernel_rfl) rfl Try.underlying146
theorem Ak:ak Try.prog 157 ⟨(.int .u64),1,8, [(.d (.sc (.int .u64 0)))]⟩:=ak.mk' (by kernel_rfl) (by kernel_rfl) rfl Try.underlying157
theorem Al:ak Try.prog 161 ⟨(.pt 3),1,8, [(.d (.sc (.pointer none)))]⟩:=ak.mk' (by kernel_rfl) (by kernel_rfl) rfl Try.underlying161
theorem Am:ak Try.prog 168 ⟨(.pt 157),1,8, [(.d (.sc (.pointer none)))]⟩:=ak.mk' (by kernel_rfl) (by kernel_rfl) rfl Try.underlying168
theorem An:ak Try.prog 191 ⟨(.pt 5),1,8, [(.d (.sc (.pointer none)))]⟩:=ak.mk' (by kernel_rfl) (by kernel_rfl) rfl Try.underlying191
theorem Dh:jm Try.prog 42 2:=jm.two (by kernel_rfl) (by kernel_rfl) Try.underlying42 (by decide) rfl Try.underlying3 (by decide) rfl Try.underlying3
theorem Di:jm Try.prog 74 3:=jm.three (by kernel_rfl) (by kernel_rfl) Try.underlying74 (by decide) rfl Try.underlying3 (by decide) rfl Try.underlying3 (by decide) rfl Try.underlying3
set_option maxHeartbeats 4000000 in
theorem FJ:∀t ti,T t=some ti→ak Try.prog t ti:=by
 intro t ti h
 unfold T at h
 split at h
 ·cases h;exact FE
 ·cases h;exact FF
 ·cases h;exact FG
 ·cases h;exact FH
 ·cases h;exact FI
 ·cases h;exact CP
 ·cases h;exact CQ
 ·cases h;exact CR
 ·cases h;exact CS
 ·cases h;exact CT
 ·cases h;exact CU
 ·cases h;exact CV
 ·cases h;exact CW
 ·cases h;exact CX
 ·cases h;exact CY
 ·cases h;exact CZ
 ·cases h;exact C1
 ·cases h;exact C2
 ·cases h;exact C3
 ·cases h;exact C4
 ·cases h;exact C5
 ·cases h;exact C6
 ·cases h;exact C7
 ·cases h;exact C8
 ·cases h;exact C9
 ·cases h;exact Da
 ·cases h;exact Db
 ·cases h;exact Dc
 ·cases h;exact Dd
 ·cases h;exact De
 ·cases h;exact Df
 ·cases h;exact Dg
 ·cases h;exact Ac
 ·cases h;exact Ad
 ·cases h;exact Ae
 ·cases h;exact Af
 ·cases h;exact Ag
 ·cases h;exact Ah
 ·cases h;exact Ai
 ·cases h;exact Aj
 ·cases h;exact Ak
 ·cases h;exact Al
 ·cases h;exact Am
 ·cases h;exact An
 ·cases h
theorem FK:∀t n,qj t=some n→jm Try.prog t n:=by
 intro t n h
 unfold qj at h
 split at h
 ·cases h;exact Dh
 ·cases h;exact Di
 ·cases h
def cfg (own mU:List Nat):Cfg:=⟨T,own,qj,mU⟩
theorem cfg_T (own mU:List Nat):(cfg own mU).T=T:=rfl
theorem cfg_own (own mU:List Nat):(cfg own mU).own=own:=rfl
theorem cfg_nst (own mU:List Nat):(cfg own mU).mU=mU:=rfl
theorem cfg_eqn (own mU:List Nat):(cfg own mU).qj=qj:=rfl
theorem aI (own mU:List Nat):(cfg own mU).Ok Try.prog:=⟨FJ,FK⟩
theorem mixed:Try.prog.follows .mixedOrders=true:=by kernel_rfl
attribute [go_sem] T2 T3 T4 T5 T9 T12 T21 T22 T24 T25 T26 T28 T31 T34 T39 T42 T46 T50 T53 T55 T56 T58 T59 T61 T64 T68 T74 T78 T81 T94 T96 T99 T107 T109 T117 T118 T123 T134 T138 T146 T157 T161 T168 T191 eqn42 eqn74 cfg_T cfg_own cfg_nst cfg_eqn
end Go.Ab.T
end
section
namespace Go.Ab
open Go.Proofs
attribute [local congr] ACall.congr gd.congr Nx.congr
set_option maxRecDepth 10000
def eN (n:Int):AV:= .d (.sc (.int .i64 n))
def eB (b:Bool):AV:= .d (.sc (.bool b))
abbrev Edge:=Int × Int
structure Gr where
 n:Int
 es:List Edge
def rE (e:Edge):List D:= [.sc (.int .i64 e.1), .sc (.int .i64 e.2)]
def rI (n:Int):List D:= [.sc (.int .i64 n)]
def eE (e:Edge):AV:= .agg [.d (.sc (.int .i64 e.1)), .d (.sc (.int .i64 e.2))]
def sE (es:List Edge):D:= .sl 2 (es.map rE)
def sI (l:List Int):D:= .sl 1 (l.map rI)
def eG (g:Gr):AV:= .agg [eN g.n, .d (sE g.es)]
attribute [go_sem] eN eB eE sE sI eG Args AVrs
theorem getD_rE (ps:List Edge) (i:Nat):(ps.map rE).getD i [.sc (.int .i64 0), .sc (.int .i64 0)]= [.sc (.int .i64 (ps.getD i (0,0)).1), .sc (.int .i64 (ps.getD i (0,0)).2)]:=by
 simp only [List.getD_eq_getElem?_getD,List.getElem?_map]
 cases ps[i]? <;>rfl
theorem getD_rI (ps:List Int) (i:Nat):(ps.map rI).getD i [.sc (.int .i64 0)]= [.sc (.int .i64 (ps.getD i 0))]:=by
 simp only [List.getD_eq_getElem?_getD,List.getElem?_map]
 cases ps[i]? <;>rfl
attribute [go_sem] getD_rE getD_rI Int.toNat_natCast List.length_set
def Hh (n:Int):Prop:= -9223372036854775808≤n∧n≤9223372036854775807
def Len (n:Nat):Prop:=n≤9223372036854775807
end Go.Ab
end
section
namespace Go.Ab
open Go.Proofs
attribute [local congr] ACall.congr gd.congr Nx.congr
set_option maxRecDepth 10000
def dc {α:Type} (g:α→Bool) (ps:List α):Int:=match ps.findIdx? g with|some i=>i|none=> -1
theorem kr {α:Type} {g:α→Bool} {ps:List α} (d:α) (h:∀j,j<ps.length→g (ps.getD j d)=false):dc g ps= -1:=by
 have:ps.findIdx? g=none:=by
  rw [List.findIdx?_eq_none_iff]
  intro x hx
  obtain ⟨j,hj,rfl⟩:=List.getElem_of_mem hx
  simpa [List.getD_eq_getElem?_getD,List.getElem?_eq_getElem hj] using h j hj
 simp [dc,this]
theorem ku {α:Type} {g:α→Bool} {ps:List α} {d:α} {k:Nat} (hk:k<ps.length) (h:∀j,j<k→g (ps.getD j d)=false) (hg:g (ps.getD k d)=true):dc g ps=k:=by
 have:ps.findIdx? g=some k:=by
  rw [List.findIdx?_eq_some_iff_getElem]
  refine ⟨hk,by simpa [List.getD_eq_getElem?_getD,List.getElem?_eq_getElem hk] using hg,fun j hj=> ?_⟩
  have:=h j hj
  simpa [List.getD_eq_getElem?_getD,List.getElem?_eq_getElem (Nat.lt_trans hj hk)] using this
 simp [dc,this]
theorem lF {α:Type} (g:α→Bool) (ps:List α):decide (0≤dc g ps)=ps.any g:=by
 cases h:ps.findIdx? g with
 |none=>
  have:dc g ps= -1:=by simp [dc,h]
  rw [this]
  rw [List.findIdx?_eq_none_iff] at h
  symm
  simpa using h
 |some i=>
  have:dc g ps=i:=by simp [dc,h]
  rw [this]
  obtain ⟨hi,hg,_⟩:=List.findIdx?_eq_some_iff_getElem.1 h
  have:ps.any g=true:=List.any_eq_true.2 ⟨_,List.getElem_mem hi,hg⟩
  rw [this];simp
theorem nU (rn:List (Nat × Nat)) (h0:rn= []) {m:List (Nat × AObj)} :∀ {r:List (Nat × AObj)},(∀p∈r,look m p.1=some p.2)→leR m rn r
 | [],_=>trivial
 |p::r,h=>by
  subst h0
  have h1:=h p List.mem_cons_self
  refine ⟨?_,nU [] rfl fun q hq=>h q (List.mem_cons_of_mem _ hq)⟩
  have e:renO [] p.2=p.2:=rfl
  show look m p.1=some (renO [] p.2)
  rw [e];exact h1
theorem kz {m:List (Nat × AObj)} (h:cF m):leR m [] m:=nU [] rfl fun _ hp=>aF h.nd hp
theorem b9 {m:List (Nat × AObj)} (hR:cF m) (f:Nat) (caps:List AV) (g:Edge→Bool) (hf:∀p,Spec Try.prog f (Args (eE p::caps)) m (eB (g p)) m) (ps:List Edge) (hl:ps.length≤9223372036854775807):
 Spec Try.prog 68 (Args [.d (sE ps), .fn f [] caps]) m (eN (dc g ps)) m:=by
 (refine Spec.hd (C:=T.cfg [] []) (rs:= [.t 4]) (T.aI _ _) Try.func68 rfl rfl Try.ntmps68 Try.results68 (fun p hp=>⟨(cF.low hR p hp).1,cF.nest hR p hp⟩) (fun p hp=>⟨(cF.low hR p hp).2,cF.nest hR p hp⟩) (by kernel_rfl) T.mixed fun X hX hP hC cz gV=> ?_)
 repeat' (first|refine Rn.p ?_|(with_reducible apply And.intro)|((first|(refine hK _ ?_;clear hK K)|with_reducible intro K hK|refine Rs.p ?_|((with_reducible first|apply oP|apply oQ);exact rfl)|(first|(refine bh hX hC hP hR (hf _) rfl rfl rfl ?_ ?_ rfl rfl ?_;(focus (simp only [go_sem,simprocAttr];done));(focus (first|(intro p hp;exact aF (cF.nd hR) hp)|(simp [go_sem,simprocAttr];done))))|(refine bh hX hC hP hR (hf _) rfl rfl rfl ?_ ?_ ?_ rfl ?_;(focus (simp only [go_sem,simprocAttr];done));(focus (first|(intro p hp;exact aF (cF.nd hR) hp)|(simp [go_sem,simprocAttr];done)));(focus (simp [go_sem,simprocAttr];done)))));try simp only [go_sem,simprocAttr])|((with_reducible refine oD ?_ ?_);kernel_rfl)|((with_reducible intro h);try simp only [go_sem,simprocAttr] at h)|omega|intro h)
 refine au (fun k:Nat=>k≤ps.length∧∀j,j<k→g (ps.getD j (0,0))=false) (fun k=>⟨[(0, .d (sE ps)),(1, .fn f [] caps),(7,eN ps.length),(8,eN k)],m⟩) (fun k=>ps.length - k) 0 (by simp) ?_ ?_
 ·(refine ⟨cZ ?_,fun _ _ h=>h⟩;simp [go_sem,simprocAttr])
 rintro k ⟨hk,hg⟩
 repeat' (first|refine Rn.p ?_|(with_reducible apply And.intro)|((first|(refine hK _ ?_;clear hK K)|with_reducible intro K hK|refine Rs.p ?_|((with_reducible first|apply oP|apply oQ);exact rfl)|(first|(refine bh hX hC hP hR (hf _) rfl rfl rfl ?_ ?_ rfl rfl ?_;(focus (simp only [go_sem,simprocAttr];done));(focus (first|(intro p hp;exact aF (cF.nd hR) hp)|(simp [go_sem,simprocAttr];done))))|(refine bh hX hC hP hR (hf _) rfl rfl rfl ?_ ?_ ?_ rfl ?_;(focus (simp only [go_sem,simprocAttr];done));(focus (first|(intro p hp;exact aF (cF.nd hR) hp)|(simp [go_sem,simprocAttr];done)));(focus (simp [go_sem,simprocAttr];done)))));try simp only [go_sem,simprocAttr])|((with_reducible refine oD ?_ ?_);kernel_rfl)|((with_reducible intro h);try simp only [go_sem,simprocAttr] at h)|omega|intro h)
 ·exact (ku (by omega) hg h).symm
 ·exact kz hR
 ·refine ⟨k+1,⟨by omega,fun j hj=> ?_⟩, ?_,by omega⟩
  ·by_cases hjk:j=k
   ·subst hjk;exact h
   ·exact hg j (by omega)
  ·(refine ⟨cZ ?_,fun _ _ h=>h⟩;simp [go_sem,simprocAttr])
 ·exact (kr (0,0) fun j hj=>hg j (by omega)).symm
 ·exact kz hR
theorem dM {m:List (Nat × AObj)} (hR:cF m) (f:Nat) (caps:List AV) (g:Edge→Bool) (hf:∀p,Spec Try.prog f (Args (eE p::caps)) m (eB (g p)) m) (ps:List Edge) (hl:ps.length≤9223372036854775807):
 Spec Try.prog 37 (Args [.d (sE ps), .fn f [] caps]) m (eB (ps.any g)) m:=by
 (refine Spec.hd (C:=T.cfg [] []) (rs:= [.t 4]) (T.aI _ _) Try.func37 rfl rfl Try.ntmps37 Try.results37 (fun p hp=>⟨(cF.low hR p hp).1,cF.nest hR p hp⟩) (fun p hp=>⟨(cF.low hR p hp).2,cF.nest hR p hp⟩) (by kernel_rfl) T.mixed fun X hX hP hC cz gV=> ?_)
 repeat' (first|refine Rn.p ?_|(with_reducible apply And.intro)|((first|(refine hK _ ?_;clear hK K)|with_reducible intro K hK|refine Rs.p ?_|((with_reducible first|apply oP|apply oQ);exact rfl)|(first|(refine bh hX hC hP hR (b9 hR _ _ g hf ps hl) rfl rfl rfl ?_ ?_ rfl rfl ?_;(focus (simp only [go_sem,simprocAttr];done));(focus (first|(intro p hp;exact aF (cF.nd hR) hp)|(simp [go_sem,simprocAttr];done))))|(refine bh hX hC hP hR (b9 hR _ _ g hf ps hl) rfl rfl rfl ?_ ?_ ?_ rfl ?_;(focus (simp only [go_sem,simprocAttr];done));(focus (first|(intro p hp;exact aF (cF.nd hR) hp)|(simp [go_sem,simprocAttr];done)));(focus (simp [go_sem,simprocAttr];done)))));try simp only [go_sem,simprocAttr])|((with_reducible refine oD ?_ ?_);kernel_rfl)|((with_reducible intro h);try simp only [go_sem,simprocAttr] at h)|omega|intro h)
 ·exact lF g ps
 ·exact kz hR
def nV (g:Gr) (x:Int):Bool:=decide (x<0)||decide (g.n≤x)
def iX (g:Gr) (e:Edge):Bool:=nV g e.1||nV g e.2
def aQ (g:Gr):Bool:=decide (0<g.n)&&decide (g.n≤64)&&decide ((g.es.length:Int)≤128)&& !g.es.any (iX g)
def rG (g:Gr):AObj:= .rob [eN g.n, .d (sE g.es)]
theorem lG (g:Gr) (x:Int):Spec Try.prog 66 (Args [eN x, .ptr 10000 0]) [(10000,rG g)] (eB (nV g x)) [(10000,rG g)]:=by
 unfold rG
 (refine Spec.hd (C:=T.cfg [] []) (rs:= [.t 3]) (T.aI _ _) Try.func66 rfl rfl Try.ntmps66 Try.results66 (by simp [AObj.isNest]) (by simp [AObj.isNest]) (by kernel_rfl) T.mixed fun X hX hP hC cz gV=> ?_)
 repeat' (first|refine Rn.p ?_|(with_reducible apply And.intro)|((first|(refine hK _ ?_;clear hK K)|with_reducible intro K hK|refine Rs.p ?_|((with_reducible first|apply oP|apply oQ);exact rfl)|(first|(refine bh hX hC hP hR (b9 hR _ _ g hf ps hl) rfl rfl rfl ?_ ?_ rfl rfl ?_;(focus (simp only [go_sem,simprocAttr];done));(focus (first|(intro p hp;exact aF (cF.nd hR) hp)|(simp [go_sem,simprocAttr];done))))|(refine bh hX hC hP hR (b9 hR _ _ g hf ps hl) rfl rfl rfl ?_ ?_ ?_ rfl ?_;(focus (simp only [go_sem,simprocAttr];done));(focus (first|(intro p hp;exact aF (cF.nd hR) hp)|(simp [go_sem,simprocAttr];done)));(focus (simp [go_sem,simprocAttr];done)))));try simp only [go_sem,simprocAttr])|((with_reducible refine oD ?_ ?_);kernel_rfl)|((with_reducible intro h);try simp only [go_sem,simprocAttr] at h)|omega|intro h)
 ·simp [nV, *]
 ·simp [nV, *]
theorem vW (g:Gr):cF [(10000,rG g)]:=⟨by simp [rG,AObj.ro],by simp [nodupM,look],by simp,by simp [rG,AObj.ids,AV.ids,AV.idss,eN]⟩
def rF:AObj:= .rob [.fn 66 [] [.ptr 10000 0]]
attribute [go_sem] rG rF
theorem rD (g:Gr) (e:Edge):Spec Try.prog 67 (Args [eE e, .ptr 10001 0]) [(10001,rF),(10000,rG g)] (eB (iX g e)) [(10001,rF),(10000,rG g)]:=by
 unfold rF rG
 (refine Spec.hd (C:=T.cfg [] []) (rs:= [.t 3]) (T.aI _ _) Try.func67 rfl rfl Try.ntmps67 Try.results67 (by simp [AObj.isNest]) (by simp [AObj.isNest]) (by kernel_rfl) T.mixed fun X hX hP hC cz gV=> ?_)
 repeat' (first|refine Rn.p ?_|(with_reducible apply And.intro)|((first|(refine hK _ ?_;clear hK K)|with_reducible intro K hK|refine Rs.p ?_|((with_reducible first|apply oP|apply oQ);exact rfl)|(first|(refine bh hX hC hP (vW g) (lG g _) rfl rfl rfl ?_ ?_ rfl rfl ?_;(focus (simp only [go_sem,simprocAttr];done));(focus (first|(intro p hp;exact aF (cF.nd (vW g)) hp)|(simp [go_sem,simprocAttr];done))))|(refine bh hX hC hP (vW g) (lG g _) rfl rfl rfl ?_ ?_ ?_ rfl ?_;(focus (simp only [go_sem,simprocAttr];done));(focus (first|(intro p hp;exact aF (cF.nd (vW g)) hp)|(simp [go_sem,simprocAttr];done)));(focus (simp [go_sem,simprocAttr];done)))));try simp only [go_sem,simprocAttr])|((with_reducible refine oD ?_ ?_);kernel_rfl)|((with_reducible intro h);try simp only [go_sem,simprocAttr] at h)|omega|intro h)
 ·simp [iX, *]
 ·simp [iX, *]
theorem Dj (g:Gr):cF [(10001,rF),(10000,rG g)]:=⟨by simp [rG,rF,AObj.ro],by simp [nodupM,look],by simp,by simp [rG,rF,AObj.ids,AV.ids,AV.idss,eN,look]⟩
theorem tT (g:Gr) (hl:g.es.length≤9223372036854775807):Spec Try.prog 36 (Args [eG g]) [] (eB (aQ g)) []:=by
 (refine Spec.hd (C:=T.cfg [] []) (rs:= [.t 2]) (T.aI _ _) Try.func36 rfl rfl Try.ntmps36 Try.results36 (by simp [AObj.isNest]) (by simp [AObj.isNest]) (by kernel_rfl) T.mixed fun X hX hP hC cz gV=> ?_)
 repeat' (first|refine Rn.p ?_|(with_reducible apply And.intro)|((first|(refine hK _ ?_;clear hK K)|with_reducible intro K hK|refine Rs.p ?_|((with_reducible first|apply oP|apply oQ);exact rfl)|(refine ru hX hC hP [(10000,1),(10001,3)] (dM (Dj g) _ _ (iX g) (rD g) g.es hl) rfl rfl rfl ?_ ?_ ?_ ?_ ?_ ?_ rfl rfl ?_ ?_;(focus (simp only [go_sem,simprocAttr];done));(iterate 6 (focus (simp [go_sem,simprocAttr];done)));try simp only [List.map_cons,List.map_nil]));try simp only [go_sem,simprocAttr])|((with_reducible refine oD ?_ ?_);kernel_rfl)|((with_reducible intro h);try simp only [go_sem,simprocAttr] at h)|omega|intro h)
 all_goals simp [aQ, *]
end Go.Ab
end
section
namespace Go.Ab
open Go.Proofs
attribute [local congr] ACall.congr gd.congr Nx.congr
set_option maxRecDepth 10000
def iY (l:List Int) (x:Int):Int:=dc (fun y=>decide (x=y)) l
def FL (l:List Edge) (x:Edge):Int:=dc (fun y=>decide (x=y)) l
theorem tU (l:List Int) (x:Int):decide (0≤iY l x)=decide (x∈l):=by
 unfold iY;rw [lF,Bool.eq_iff_iff];simp
theorem jl (ps:List Int) (x:Int) (hl:ps.length≤9223372036854775807):
 Spec Try.prog 74 (Args [.d (sI ps),eN x]) [] (eN (iY ps x)) []:=by
 (refine Spec.hd (C:=T.cfg [] []) (rs:= [.t 4]) (T.aI _ _) Try.func74 rfl rfl Try.ntmps74 Try.results74 (by simp [AObj.isNest]) (by simp [AObj.isNest]) (by kernel_rfl) T.mixed fun X hX hP hC cz gV=> ?_)
 repeat' (first|refine Rn.p ?_|(with_reducible apply And.intro)|((first|(refine hK _ ?_;clear hK K)|with_reducible intro K hK|refine Rs.p ?_|((with_reducible first|apply oP|apply oQ);exact rfl));try simp only [go_sem,simprocAttr])|((with_reducible refine oD ?_ ?_);kernel_rfl)|((with_reducible intro h);try simp only [go_sem,simprocAttr] at h)|omega|intro h)
 refine au (fun k:Nat=>k≤ps.length∧∀j,j<k→decide (x=ps.getD j 0)=false) (fun k=>⟨[(0, .d (sI ps)),(1,eN x),(7,eN ps.length),(8,eN k)], []⟩) (fun k=>ps.length - k) 0 (by simp) ?_ ?_
 ·(refine ⟨cZ ?_,fun _ _ h=>h⟩;simp [go_sem,simprocAttr])
 rintro k ⟨hk,hg⟩
 repeat' (first|refine Rn.p ?_|(with_reducible apply And.intro)|((first|(refine hK _ ?_;clear hK K)|with_reducible intro K hK|refine Rs.p ?_|((with_reducible first|apply oP|apply oQ);exact rfl));try simp only [go_sem,simprocAttr])|((with_reducible refine oD ?_ ?_);kernel_rfl)|((with_reducible intro h);try simp only [go_sem,simprocAttr] at h)|omega|intro h)
 ·exact (ku (by omega) hg (by simpa using h)).symm
 ·refine ⟨k+1,⟨by omega,fun j hj=> ?_⟩, ?_,by omega⟩
  ·by_cases hjk:j=k
   ·subst hjk;simpa using h
   ·simpa using hg j (by omega)
  ·(refine ⟨cZ ?_,fun _ _ h=>h⟩;simp [go_sem,simprocAttr])
 ·exact (kr 0 fun j hj=>hg j (by omega)).symm
theorem kA (ps:List Int) (x:Int) (hl:ps.length≤9223372036854775807):
 Spec Try.prog 50 (Args [.d (sI ps),eN x]) [] (eB (decide (x∈ps))) []:=by
 rw [← tU]
 (refine Spec.hd (C:=T.cfg [] []) (rs:= [.t 4]) (T.aI _ _) Try.func50 rfl rfl Try.ntmps50 Try.results50 (by simp [AObj.isNest]) (by simp [AObj.isNest]) (by kernel_rfl) T.mixed fun X hX hP hC cz gV=> ?_)
 repeat' (first|refine Rn.p ?_|(with_reducible apply And.intro)|((first|(refine hK _ ?_;clear hK K)|with_reducible intro K hK|refine Rs.p ?_|((with_reducible first|apply oP|apply oQ);exact rfl)|refine ai hX hC hP (jl ps x hl) rfl rfl rfl (by simp only [go_sem,simprocAttr]) rfl ?_);try simp only [go_sem,simprocAttr])|((with_reducible refine oD ?_ ?_);kernel_rfl)|((with_reducible intro h);try simp only [go_sem,simprocAttr] at h)|omega|intro h)
theorem rH {α:Type} {xs ys:List α} (d:α) {k:Nat} (h1:k<xs.length) (h2:k<ys.length) (h:xs.take k=ys.take k) (he:xs.getD k d=ys.getD k d):xs.take (k+1)=ys.take (k+1):=by
 rw [List.take_add_one,List.take_add_one,h,List.getElem?_eq_getElem h1,List.getElem?_eq_getElem h2]
 simp only [List.getD_eq_getElem?_getD,List.getElem?_eq_getElem h1,List.getElem?_eq_getElem h2,Option.getD_some] at he
 rw [he]
theorem kY (xs ys:List Int) (hlen:xs.length≤9223372036854775807):Spec Try.prog 22 (Args [.d (sI xs), .d (sI ys)]) [] (eB (decide (xs=ys))) []:=by
 (refine Spec.hd (C:=T.cfg [] []) (rs:= [.t 4]) (T.aI _ _) Try.func22 rfl rfl Try.ntmps22 Try.results22 (by simp [AObj.isNest]) (by simp [AObj.isNest]) (by kernel_rfl) T.mixed fun X hX hP hC cz gV=> ?_)
 repeat' (first|refine Rn.p ?_|(with_reducible apply And.intro)|((first|(refine hK _ ?_;clear hK K)|with_reducible intro K hK|refine Rs.p ?_|((with_reducible first|apply oP|apply oQ);exact rfl));try simp only [go_sem,simprocAttr])|((with_reducible refine oD ?_ ?_);kernel_rfl)|((with_reducible intro h);try simp only [go_sem,simprocAttr] at h)|omega|intro h)
 ·have:xs≠ys:=fun e=>h (by rw [e])
  simp [this]
 refine au (fun k:Nat=>k≤xs.length∧xs.take k=ys.take k) (fun k=>⟨[(0, .d (sI xs)),(1, .d (sI ys)),(5,eN k)], []⟩) (fun k=>xs.length - k) 0 (by simp) ?_ ?_
 ·(refine ⟨cZ ?_,fun _ _ h=>h⟩;simp [go_sem,simprocAttr])
 rintro k ⟨hk,hp⟩
 have sr:xs.length=ys.length:=by omega
 repeat' (first|refine Rn.p ?_|(with_reducible apply And.intro)|((first|(refine hK _ ?_;clear hK K)|with_reducible intro K hK|refine Rs.p ?_|((with_reducible first|apply oP|apply oQ);exact rfl));try simp only [go_sem,simprocAttr])|((with_reducible refine oD ?_ ?_);kernel_rfl)|((with_reducible intro h);try simp only [go_sem,simprocAttr] at h)|omega|intro h)
 ·have:xs≠ys:=fun e=>h (by rw [e])
  simp [this]
 ·refine ⟨k+1,⟨by omega,rH 0 (by omega) (by omega) hp h⟩, ?_,by omega⟩
  (refine ⟨cZ ?_,fun _ _ h=>h⟩;simp [go_sem,simprocAttr])
 ·have:k=xs.length:=by omega
  subst this
  rw [List.take_of_length_le (Nat.le_refl _),List.take_of_length_le (by omega)] at hp
  simp [hp]
theorem tV {α:Type} {f:α→Bool} {xs:List α} (d:α) {k:Nat} (h1:k<xs.length) (h:(xs.take k).any f=false) (he:f (xs.getD k d)=false):(xs.take (k+1)).any f=false:=by
 rw [List.take_add_one,List.any_append,h,List.getElem?_eq_getElem h1]
 simp only [List.getD_eq_getElem?_getD,List.getElem?_eq_getElem h1,Option.getD_some] at he
 simp [he]
theorem x7 {α:Type} {f:α→Bool} {xs:List α} {d:α} {k:Nat} (h1:k<xs.length) (he:f (xs.getD k d)=true):xs.any f=true:=by
 rw [List.any_eq_true]
 refine ⟨_,List.getElem_mem h1, ?_⟩
 simpa only [List.getD_eq_getElem?_getD,List.getElem?_eq_getElem h1,Option.getD_some] using he
theorem nW {g:Gr} {k:Nat} (h1:k<g.es.length) (he:iX g (g.es.getD k (0,0))=true):false=aQ g:=by
 simp [aQ,x7 h1 he]
theorem nZ (g:Gr) (hl:g.es.length≤9223372036854775807):Spec Try.prog 45 (Args [eG g]) [] (eB (aQ g)) []:=by
 (refine Spec.hd (C:=T.cfg [] []) (rs:= [.t 2]) (T.aI _ _) Try.func45 rfl rfl Try.ntmps45 Try.results45 (by simp [AObj.isNest]) (by simp [AObj.isNest]) (by kernel_rfl) T.mixed fun X hX hP hC cz gV=> ?_)
 repeat' (first|refine Rn.p ?_|(with_reducible apply And.intro)|((first|(refine hK _ ?_;clear hK K)|with_reducible intro K hK|refine Rs.p ?_|((with_reducible first|apply oP|apply oQ);exact rfl));try simp only [go_sem,simprocAttr])|((with_reducible refine oD ?_ ?_);kernel_rfl)|((with_reducible intro h);try simp only [go_sem,simprocAttr] at h)|omega|intro h)
 any_goals (simp [aQ];omega)
 refine au (fun k:Nat=>k≤g.es.length∧(g.es.take k).any (iX g)=false) (fun k=>⟨[(1, .ptr 1 0),(3,eN k)], [(1, .box [eN g.n, .d (sE g.es)])]⟩) (fun k=>g.es.length - k) 0 (by simp) ?_ ?_
 ·(refine Le.of ?_ ?_<;>simp [go_sem,simprocAttr])
 rintro k ⟨hk,hp⟩
 repeat' (first|refine Rn.p ?_|(with_reducible apply And.intro)|((first|(refine hK _ ?_;clear hK K)|with_reducible intro K hK|refine Rs.p ?_|((with_reducible first|apply oP|apply oQ);exact rfl));try simp only [go_sem,simprocAttr])|((with_reducible refine oD ?_ ?_);kernel_rfl)|((with_reducible intro h);try simp only [go_sem,simprocAttr] at h)|omega|intro h)
 any_goals (refine nW (k:=k) (by omega) ?_;simp only [iX,nV,Bool.or_eq_true,decide_eq_true_eq];omega)
 ·refine ⟨k+1,⟨by omega,tV (0,0) (by omega) hp ?_⟩, ?_,by omega⟩
  ·simp only [iX,nV,Bool.or_eq_false_iff,decide_eq_false_iff_not];omega
  ·(refine Le.of ?_ ?_<;>simp [go_sem,simprocAttr])
 ·rw [List.take_of_length_le (by omega)] at hp
  simp [aQ,hp];omega
end Go.Ab
end
