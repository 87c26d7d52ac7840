/- A part of the proof. -/
import Derived.Test.YtameldglfobjkaaProg
import Derived.Test.YtameldglfobjkaaL6P10
set_option linter.unusedSimpArgs false
set_option linter.unusedVariables false
section
namespace Go.Ab.T
open Go.Proofs
def T:Nat→Option TI
 |2=>some ⟨(.int .i64),1,8, [(.d (.sc (.int .i64 0)))]⟩
 |3=>some ⟨(.int .i64),1,8, [(.d (.sc (.int .i64 0)))]⟩
 |4=>some ⟨.bool,1,1, [(.d (.sc (.bool false)))]⟩
 |5=>some ⟨(.int .u8),1,1, [(.d (.sc (.int .u8 0)))]⟩
 |9=>some ⟨.sc,1,16, [(.d (.sc (.string ⟨#[]⟩)))]⟩
 |12=>some ⟨(.int .u64),1,8, [(.d (.sc (.int .u64 0)))]⟩
 |21=>some ⟨(.int .i32),1,4, [(.d (.sc (.int .i32 0)))]⟩
 |22=>some ⟨(.sl 42),1,24, [(.nil 42)]⟩
 |24=>some ⟨(.st [(0,3),(1,22)]),2,32, [(.d (.sc (.int .i64 0))),(.nil 42)]⟩
 |25=>some ⟨(.sl 3),1,24, [(.nil 3)]⟩
 |26=>some ⟨(.sl 25),1,24, [(.nil 25)]⟩
 |28=>some ⟨(.st [(0,25),(1,26)]),2,48, [(.nil 3),(.nil 25)]⟩
 |31=>some ⟨(.int .i64),1,8, [(.d (.sc (.int .i64 0)))]⟩
 |34=>some ⟨(.sl 25),1,24, [(.nil 25)]⟩
 |39=>some ⟨(.sl 4),1,24, [(.nil 4)]⟩
 |42=>some ⟨(.st [(0,3),(1,3)]),2,16, [(.d (.sc (.int .i64 0))),(.d (.sc (.int .i64 0)))]⟩
 |46=>some ⟨(.sl 50),1,24, [(.nil 50)]⟩
 |50=>some ⟨(.st [(0,4),(1,3),(2,3)]),3,24, [(.d (.sc (.bool false))),(.d (.sc (.int .i64 0))),(.d (.sc (.int .i64 0)))]⟩
 |53=>some ⟨(.sl 56),1,24, [(.nil 56)]⟩
 |55=>some ⟨(.int .u64),1,8, [(.d (.sc (.int .u64 0)))]⟩
 |56=>some ⟨(.int .u64),1,8, [(.d (.sc (.int .u64 0)))]⟩
 |58=>some ⟨(.sl 59),1,24, [(.nil 59)]⟩
 |59=>some ⟨(.sl 74),1,24, [(.nil 74)]⟩
 |61=>some ⟨(.st [(0,31),(1,3),(2,25)]),3,40, [(.d (.sc (.int .i64 0))),(.d (.sc (.int .i64 0))),(.nil 3)]⟩
 |64=>some ⟨(.pt 68),1,8, [(.d (.sc (.pointer none)))]⟩
 |68=>some ⟨(.st [(0,24),(2,28)]),4,80, [(.d (.sc (.int .i64 0))),(.nil 42),(.nil 3),(.nil 25)]⟩
 |74=>some ⟨(.st [(0,3),(1,3),(2,3)]),3,24, [(.d (.sc (.int .i64 0))),(.d (.sc (.int .i64 0))),(.d (.sc (.int .i64 0)))]⟩
 |78=>some ⟨(.pt 81),1,8, [(.d (.sc (.pointer none)))]⟩
 |81=>some ⟨(.st [(0,24),(2,26),(3,25),(4,25),(5,3),(6,25),(7,26)]),8,160, [(.d (.sc (.int .i64 0))),(.nil 42),(.nil 25),(.nil 3),(.nil 3),(.d (.sc (.int .i64 0))),(.nil 3),(.nil 25)]⟩
 |94=>some ⟨.sc,1,8, [(.d (.sc .nilFunc))]⟩
 |96=>some ⟨(.pt 123),1,8, [(.d (.sc (.pointer none)))]⟩
 |99=>some ⟨(.pt 109),1,8, [(.d (.sc (.pointer none)))]⟩
 |107=>some ⟨(.st [(0,59)]),1,24, [(.nil 74)]⟩
 |109=>some ⟨(.st [(0,107),(1,96),(2,25)]),3,56, [(.nil 74),(.d (.sc (.pointer none))),(.nil 3)]⟩
 |117=>some ⟨(.int .u64),1,8, [(.d (.sc (.int .u64 0)))]⟩
 |118=>some ⟨(.ar 2 3),2,16, [(.d (.sc (.int .i64 0))),(.d (.sc (.int .i64 0)))]⟩
 |123=>some ⟨(.st [(0,24),(2,26),(3,26)]),4,80, [(.d (.sc (.int .i64 0))),(.nil 42),(.nil 25),(.nil 25)]⟩
 |134=>some ⟨(.pt 107),1,8, [(.d (.sc (.pointer none)))]⟩
 |138=>some ⟨(.int .i64),1,8, [(.d (.sc (.int .i64 0)))]⟩
 |146=>some ⟨(.int .u32),1,4, [(.d (.sc (.int .u32 0)))]⟩
 |157=>some ⟨(.int .u64),1,8, [(.d (.sc (.int .u64 0)))]⟩
 |161=>some ⟨(.pt 3),1,8, [(.d (.sc (.pointer none)))]⟩
 |168=>some ⟨(.pt 157),1,8, [(.d (.sc (.pointer none)))]⟩
 |191=>some ⟨(.pt 5),1,8, [(.d (.sc (.pointer none)))]⟩
 |_=>none
theorem T2:T 2=some ⟨(.int .i64),1,8, [(.d (.sc (.int .i64 0)))]⟩:=rfl
theorem T3:T 3=some ⟨(.int .i64),1,8, [(.d (.sc (.int .i64 0)))]⟩:=rfl
theorem T4:T 4=some ⟨.bool,1,1, [(.d (.sc (.bool false)))]⟩:=rfl
theorem T5:T 5=some ⟨(.int .u8),1,1, [(.d (.sc (.int .u8 0)))]⟩:=rfl
theorem T9:T 9=some ⟨.sc,1,16, [(.d (.sc (.string ⟨#[]⟩)))]⟩:=rfl
theorem T12:T 12=some ⟨(.int .u64),1,8, [(.d (.sc (.int .u64 0)))]⟩:=rfl
theorem T21:T 21=some ⟨(.int .i32),1,4, [(.d (.sc (.int .i32 0)))]⟩:=rfl
theorem T22:T 22=some ⟨(.sl 42),1,24, [(.nil 42)]⟩:=rfl
theorem T24:T 24=some ⟨(.st [(0,3),(1,22)]),2,32, [(.d (.sc (.int .i64 0))),(.nil 42)]⟩:=rfl
theorem T25:T 25=some ⟨(.sl 3),1,24, [(.nil 3)]⟩:=rfl
theorem T26:T 26=some ⟨(.sl 25),1,24, [(.nil 25)]⟩:=rfl
theorem T28:T 28=some ⟨(.st [(0,25),(1,26)]),2,48, [(.nil 3),(.nil 25)]⟩:=rfl
theorem T31:T 31=some ⟨(.int .i64),1,8, [(.d (.sc (.int .i64 0)))]⟩:=rfl
theorem T34:T 34=some ⟨(.sl 25),1,24, [(.nil 25)]⟩:=rfl
theorem T39:T 39=some ⟨(.sl 4),1,24, [(.nil 4)]⟩:=rfl
theorem T42:T 42=some ⟨(.st [(0,3),(1,3)]),2,16, [(.d (.sc (.int .i64 0))),(.d (.sc (.int .i64 0)))]⟩:=rfl
theorem T46:T 46=some ⟨(.sl 50),1,24, [(.nil 50)]⟩:=rfl
theorem T50:T 50=some ⟨(.st [(0,4),(1,3),(2,3)]),3,24, [(.d (.sc (.bool false))),(.d (.sc (.int .i64 0))),(.d (.sc (.int .i64 0)))]⟩:=rfl
theorem T53:T 53=some ⟨(.sl 56),1,24, [(.nil 56)]⟩:=rfl
theorem T55:T 55=some ⟨(.int .u64),1,8, [(.d (.sc (.int .u64 0)))]⟩:=rfl
theorem T56:T 56=some ⟨(.int .u64),1,8, [(.d (.sc (.int .u64 0)))]⟩:=rfl
theorem T58:T 58=some ⟨(.sl 59),1,24, [(.nil 59)]⟩:=rfl
theorem T59:T 59=some ⟨(.sl 74),1,24, [(.nil 74)]⟩:=rfl
theorem T61:T 61=some ⟨(.st [(0,31),(1,3),(2,25)]),3,40, [(.d (.sc (.int .i64 0))),(.d (.sc (.int .i64 0))),(.nil 3)]⟩:=rfl
theorem T64:T 64=some ⟨(.pt 68),1,8, [(.d (.sc (.pointer none)))]⟩:=rfl
theorem T68:T 68=some ⟨(.st [(0,24),(2,28)]),4,80, [(.d (.sc (.int .i64 0))),(.nil 42),(.nil 3),(.nil 25)]⟩:=rfl
theorem T74:T 74=some ⟨(.st [(0,3),(1,3),(2,3)]),3,24, [(.d (.sc (.int .i64 0))),(.d (.sc (.int .i64 0))),(.d (.sc (.int .i64 0)))]⟩:=rfl
theorem T78:T 78=some ⟨(.pt 81),1,8, [(.d (.sc (.pointer none)))]⟩:=rfl
theorem T81:T 81=some ⟨(.st [(0,24),(2,26),(3,25),(4,25),(5,3),(6,25),(7,26)]),8,160, [(.d (.sc (.int .i64 0))),(.nil 42),(.nil 25),(.nil 3),(.nil 3),(.d (.sc (.int .i64 0))),(.nil 3),(.nil 25)]⟩:=rfl
theorem T94:T 94=some ⟨.sc,1,8, [(.d (.sc .nilFunc))]⟩:=rfl
theorem T96:T 96=some ⟨(.pt 123),1,8, [(.d (.sc (.pointer none)))]⟩:=rfl
theorem T99:T 99=some ⟨(.pt 109),1,8, [(.d (.sc (.pointer none)))]⟩:=rfl
theorem T107:T 107=some ⟨(.st [(0,59)]),1,24, [(.nil 74)]⟩:=rfl
theorem T109:T 109=some ⟨(.st [(0,107),(1,96),(2,25)]),3,56, [(.nil 74),(.d (.sc (.pointer none))),(.nil 3)]⟩:=rfl
theorem T117:T 117=some ⟨(.int .u64),1,8, [(.d (.sc (.int .u64 0)))]⟩:=rfl
theorem T118:T 118=some ⟨(.ar 2 3),2,16, [(.d (.sc (.int .i64 0))),(.d (.sc (.int .i64 0)))]⟩:=rfl
theorem T123:T 123=some ⟨(.st [(0,24),(2,26),(3,26)]),4,80, [(.d (.sc (.int .i64 0))),(.nil 42),(.nil 25),(.nil 25)]⟩:=rfl
theorem T134:T 134=some ⟨(.pt 107),1,8, [(.d (.sc (.pointer none)))]⟩:=rfl
theorem T138:T 138=some ⟨(.int .i64),1,8, [(.d (.sc (.int .i64 0)))]⟩:=rfl
theorem T146:T 146=some ⟨(.int .u32),1,4, [(.d (.sc (.int .u32 0)))]⟩:=rfl
theorem T157:T 157=some ⟨(.int .u64),1,8, [(.d (.sc (.int .u64 0)))]⟩:=rfl
theorem T161:T 161=some ⟨(.pt 3),1,8, [(.d (.sc (.pointer none)))]⟩:=rfl
theorem T168:T 168=some ⟨(.pt 157),1,8, [(.d (.sc (.pointer none)))]⟩:=rfl
theorem T191:T 191=some ⟨(.pt 5),1,8, [(.d (.sc (.pointer none)))]⟩:=rfl
def p8:Nat→Option Nat
 |42=>some 2
 |50=>some 0
 |74=>some 3
 |_=>none
theorem eqn42:p8 42=some 2:=rfl
theorem eqn50:p8 50=some 0:=rfl
theorem eqn74:p8 74=some 3:=rfl
theorem Hs:an Try.prog 2 ⟨(.int .i64),1,8, [(.d (.sc (.int .i64 0)))]⟩:=an.mk' (by kernel_rfl) (by kernel_rfl) rfl Try.underlying2
theorem Ht:an Try.prog 3 ⟨(.int .i64),1,8, [(.d (.sc (.int .i64 0)))]⟩:=an.mk' (by kernel_rfl) (by kernel_rfl) rfl Try.underlying3
theorem Hu:an Try.prog 4 ⟨.bool,1,1, [(.d (.sc (.bool false)))]⟩:=an.mk' (by kernel_rfl) (by kernel_rfl) rfl Try.underlying4
theorem Hv:an Try.prog 5 ⟨(.int .u8),1,1, [(.d (.sc (.int .u8 0)))]⟩:=an.mk' (by kernel_rfl) (by kernel_rfl) rfl Try.underlying5
theorem Hw:an Try.prog 9 ⟨.sc,1,16, [(.d (.sc (.string ⟨#[]⟩)))]⟩:=an.mk' (by kernel_rfl) (by kernel_rfl) rfl ⟨_,Try.underlying9,trivial⟩
theorem Ef:an Try.prog 12 ⟨(.int .u64),1,8, [(.d (.sc (.int .u64 0)))]⟩:=an.mk' (by kernel_rfl) (by kernel_rfl) rfl Try.underlying12
theorem Eg:an Try.prog 21 ⟨(.int .i32),1,4, [(.d (.sc (.int .i32 0)))]⟩:=an.mk' (by kernel_rfl) (by kernel_rfl) rfl Try.underlying21
theorem Eh:an Try.prog 22 ⟨(.sl 42),1,24, [(.nil 42)]⟩:=an.mk' (by kernel_rfl) (by kernel_rfl) rfl Try.underlying22
theorem Ei:an Try.prog 24 ⟨(.st [(0,3),(1,22)]),2,32, [(.d (.sc (.int .i64 0))),(.nil 42)]⟩:=an.mk' (by kernel_rfl) (by kernel_rfl) rfl ⟨_,Try.underlying24,rfl⟩
theorem Ej:an Try.prog 25 ⟨(.sl 3),1,24, [(.nil 3)]⟩:=an.mk' (by kernel_rfl) (by kernel_rfl) rfl Try.underlying25
theorem Ek:an Try.prog 26 ⟨(.sl 25),1,24, [(.nil 25)]⟩:=an.mk' (by kernel_rfl) (by kernel_rfl) rfl Try.underlying26
theorem El:an Try.prog 28 ⟨(.st [(0,25),(1,26)]),2,48, [(.nil 3),(.nil 25)]⟩:=an.mk' (by kernel_rfl) (by kernel_rfl) rfl ⟨_,Try.underlying28,rfl⟩
theorem Em:an Try.prog 31 ⟨(.int .i64),1,8, [(.d (.sc (.int .i64 0)))]⟩:=an.mk' (by kernel_rfl) (by kernel_rfl) rfl Try.underlying31
theorem En:an Try.prog 34 ⟨(.sl 25),1,24, [(.nil 25)]⟩:=an.mk' (by kernel_rfl) (by kernel_rfl) rfl Try.underlying34
theorem Eo:an Try.prog 39 ⟨(.sl 4),1,24, [(.nil 4)]⟩:=an.mk' (by kernel_rfl) (by kernel_rfl) rfl Try.underlying39
theorem Ep:an Try.prog 42 ⟨(.st [(0,3),(1,3)]),2,16, [(.d (.sc (.int .i64 0))),(.d (.sc (.int .i64 0)))]⟩:=an.mk' (by kernel_rfl) (by kernel_rfl) rfl ⟨_,Try.underlying42,rfl⟩
theorem Er:an Try.prog 46 ⟨(.sl 50),1,24, [(.nil 50)]⟩:=an.mk' (by kernel_rfl) (by kernel_rfl) rfl Try.underlying46
theorem Es:an Try.prog 50 ⟨(.st [(0,4),(1,3),(2,3)]),3,24, [(.d (.sc (.bool false))),(.d (.sc (.int .i64 0))),(.d (.sc (.int .i64 0)))]⟩:=an.mk' (by kernel_rfl) (by kernel_rfl) rfl ⟨_,Try.underlying50,rfl⟩
theorem Et:an Try.prog 53 ⟨(.sl 56),1,24, [(.nil 56)]⟩:=an.mk' (by kernel_rfl) (by kernel_rfl) rfl Try.underlying53
theorem Eu:an Try.prog 55 ⟨(.int .u64),1,8, [(.d (.sc (.int .u64 0)))]⟩:=an.mk' (by kernel_rfl) (by kernel_rfl) rfl Try.underlying55
theorem Ev:an Try.prog 56 ⟨(.int .u64),1,8, [(.d (.sc (.int .u64 0)))]⟩:=an.mk' (by kernel_rfl) (by kernel_rfl) rfl Try.underlying56
theorem Ew:an Try.prog 58 ⟨(.sl 59),1,24, [(.nil 59)]⟩:=an.mk' (by kernel_rfl) (by kernel_rfl) rfl Try.underlying58
theorem Ex:an Try.prog 59 ⟨(.sl 74),1,24, [(.nil 74)]⟩:=an.mk' (by kernel_rfl) (by kernel_rfl) rfl Try.underlying59
theorem Ey:an Try.prog 61 ⟨(.st [(0,31),(1,3),(2,25)]),3,40, [(.d (.sc (.int .i64 0))),(.d (.sc (.int .i64 0))),(.nil 3)]⟩:=an.mk' (by kernel_rfl) (by kernel_rfl) rfl ⟨_,Try.underlying61,rfl⟩
theorem Ez:an Try.prog 64 ⟨(.pt 68),1,8, [(.d (.sc (.pointer none)))]⟩:=an.mk' (by kernel_rfl) (by kernel_rfl) rfl Try.underlying64
theorem EA:an Try.prog 68 ⟨(.st [(0,24),(2,28)]),4,80, [(.d (.sc (.int .i64 0))),(.nil 42),(.nil 3),(.nil 25)]⟩:=an.mk' (by kernel_rfl) (by kernel_rfl) rfl ⟨_,Try.underlying68,rfl⟩
theorem EB:an Try.prog 74 ⟨(.st [(0,3),(1,3),(2,3)]),3,24, [(.d (.sc (.int .i64 0))),(.d (.sc (.int .i64 0))),(.d (.sc (.int .i64 0)))]⟩:=an.mk' (by kernel_rfl) (by kernel_rfl) rfl ⟨_,Try.underlying74,rfl⟩
theorem EC:an Try.prog 78 ⟨(.pt 81),1,8, [(.d (.sc (.pointer none)))]⟩:=an.mk' (by kernel_rfl) (by kernel_rfl) rfl Try.underlying78
theorem ED:an Try.prog 81 ⟨(.st [(0,24),(2,26),(3,25),(4,25),(5,3),(6,25),(7,26)]),8,160, [(.d (.sc (.int .i64 0))),(.nil 42),(.nil 25),(.nil 3),(.nil 3),(.d (.sc (.int .i64 0))),(.nil 3),(.nil 25)]⟩:=an.mk' (by kernel_rfl) (by kernel_rfl) rfl ⟨_,Try.underlying81,rfl⟩
theorem EE:an Try.prog 94 ⟨.sc,1,8, [(.d (.sc .nilFunc))]⟩:=an.mk' (by kernel_rfl) (by kernel_rfl) rfl ⟨_,Try.underlying94,trivial⟩
theorem EF:an Try.prog 96 ⟨(.pt 123),1,8, [(.d (.sc (.pointer none)))]⟩:=an.mk' (by kernel_rfl) (by kernel_rfl) rfl Try.underlying96
theorem EG:an Try.prog 99 ⟨(.pt 109),1,8, [(.d (.sc (.pointer none)))]⟩:=an.mk' (by kernel_rfl) (by kernel_rfl) rfl Try.underlying99
theorem BE:an Try.prog 107 ⟨(.st [(0,59)]),1,24, [(.nil 74)]⟩:=an.mk' (by kernel_rfl) (by kernel_rfl) rfl ⟨_,Try.underlying107,rfl⟩
theorem BF:an Try.prog 109 ⟨(.st [(0,107),(1,96),(2,25)]),3,56, [(.nil 74),(.d (.sc (.pointer none))),(.nil 3)]⟩:=an.mk' (by kernel_rfl) (by kernel_rfl) rfl ⟨_,Try.underlying109,rfl⟩
theorem BG:an Try.prog 117 ⟨(.int .u64),1,8, [(.d (.sc (.int .u64 0)))]⟩:=an.mk' (by kernel_rfl) (by kernel_rfl) rfl Try.underlying117
theorem BH:an Try.prog 118 ⟨(.ar 2 3),2,16, [(.d (.sc (.int .i64 0))),(.d (.sc (.int .i64 0)))]⟩:=an.mk' (by kernel_rfl) (by kernel_rfl) rfl Try.underlying118
theorem BI:an Try.prog 123 ⟨(.st [(0,24),(2,26),(3,26)]),4,80, [(.d (.sc (.int .i64 0))),(.nil 42),(.nil 25),(.nil 25)]⟩:=an.mk' (by kernel_rfl) (by kernel_rfl) rfl ⟨_,Try.underlying123,rfl⟩
theorem BJ:an Try.prog 134 ⟨(.pt 107),1,8, [(.d (.sc (.pointer none)))]⟩:=an.mk' (by kernel_rfl) (by kernel_rfl) rfl Try.underlying134
theorem BK:an Try.prog 138 ⟨(.int .i64),1,8, [(.d (.sc (.int .i64 0)))]⟩:=an.mk' (by kernel_rfl) (by kernel_rfl) rfl Try.underlying138
theorem BL:an Try.prog 146 ⟨(.int .u32),1,4, [(.d (.sc (.int .u32 0)))]⟩:=an.mk' (by kernel_rfl) (by kernel_rfl) rfl Try.underlying146
theorem BM:an Try.prog 157 ⟨(.int .u64),1,8, [(.d (.sc (.int .u64 0)))]⟩:=an.mk' (by kernel_rfl) (by kernel_rfl) rfl Try.underlying157
theorem BN:an Try.prog 161 ⟨(.pt 3),1,8, [(.d (.sc (.pointer none)))]⟩:=an.mk' (by kernel_rfl) (by kernel_rfl) rfl Try.underlying161
theorem BO:an Try.prog 168 ⟨(.pt 157),1,8, [(.d (.sc (.pointer none)))]⟩:=an.mk' (by kernel_rfl) (by kernel_rfl) rfl Try.underlying168
theorem BP:an Try.prog 191 ⟨(.pt 5),1,8, [(.d (.sc (.pointer none)))]⟩:=an.mk' (by kernel_rfl) (by kernel_rfl) rfl Try.underlying191
theorem EH:gQ Try.prog 42 2:=gQ.two (by kernel_rfl) (by kernel_rfl) Try.underlying42 (by decide) rfl Try.underlying3 (by decide) rfl Try.underlying3
theorem EI:gQ Try.prog 50 0:=gQ.Hh (by kernel_rfl) (by kernel_rfl) Try.underlying50 (by decide) rfl Try.underlying4 (by decide) rfl Try.underlying3 (by decide) rfl Try.underlying3
theorem EJ:gQ Try.prog 74 3:=gQ.three (by kernel_rfl) (by kernel_rfl) Try.underlying74 (by decide) rfl Try.underlying3 (by decide) rfl Try.underlying3 (by decide) rfl Try.underlying3
set_option maxHeartbeats 4000000 in
theorem Hx:∀t ti,T t=some ti→an Try.prog t ti:=by
 intro t ti h
 unfold T at h
 split at h
 ·cases h;exact Hs
 ·cases h;exact Ht
 ·cases h;exact Hu
 ·cases h;exact Hv
 ·cases h;exact Hw
 ·cases h;exact Ef
 ·cases h;exact Eg
 ·cases h;exact Eh
 ·cases h;exact Ei
 ·cases h;exact Ej
 ·cases h;exact Ek
 ·cases h;exact El
 ·cases h;exact Em
 ·cases h;exact En
 ·cases h;exact Eo
 ·cases h;exact Ep
 ·cases h;exact Er
 ·cases h;exact Es
 ·cases h;exact Et
 ·cases h;exact Eu
 ·cases h;exact Ev
 ·cases h;exact Ew
 ·cases h;exact Ex
 ·cases h;exact Ey
 ·cases h;exact Ez
 ·cases h;exact EA
 ·cases h;exact EB
 ·cases h;exact EC
 ·cases h;exact ED
 ·cases h;exact EE
 ·cases h;exact EF
 ·cases h;exact EG
 ·cases h;exact BE
 ·cases h;exact BF
 ·cases h;exact BG
 ·cases h;exact BH
 ·cases h;exact BI
 ·cases h;exact BJ
 ·cases h;exact BK
 ·cases h;exact BL
 ·cases h;exact BM
 ·cases h;exact BN
 ·cases h;exact BO
 ·cases h;exact BP
 ·cases h
theorem Hy:∀t n,p8 t=some n→gQ Try.prog t n:=by
 intro t n h
 unfold p8 at h
 split at h
 ·cases h;exact EH
 ·cases h;exact EI
 ·cases h;exact EJ
 ·cases h
def cfg (own nW:List Nat):Cfg:=⟨T,own,p8,nW⟩
theorem cfg_T (own nW:List Nat):(cfg own nW).T=T:=rfl
theorem cfg_own (own nW:List Nat):(cfg own nW).own=own:=rfl
theorem cfg_nst (own nW:List Nat):(cfg own nW).nW=nW:=rfl
theorem cfg_eqn (own nW:List Nat):(cfg own nW).p8=p8:=rfl
theorem au (own nW:List Nat):(cfg own nW).Ok Try.prog:=⟨Hx,Hy⟩
theorem mixed:Try.prog.follows .mixedOrders=true:=by kernel_rfl
attribute [go_sem] T2 T3 T4 T5 T9 T12 T21 T22 T24 T25 T26 T28 T31 T34 T39 T42 T46 T50 T53 T55 T56 T58 T59 T61 T64 T68 T74 T78 T81 T94 T96 T99 T107 T109 T117 T118 T123 T134 T138 T146 T157 T161 T168 T191 eqn42 eqn50 eqn74 cfg_T cfg_own cfg_nst cfg_eqn
end Go.Ab.T
end
section
namespace Go.Ab
open Go.Proofs
attribute [local congr] ACall.congr gd.congr Nx.congr
set_option maxRecDepth 10000
def eN (n:Int):AV:= .d (.sc (.int .i64 n))
def eB (b:Bool):AV:= .d (.sc (.bool b))
abbrev Edge:=Int × Int
structure Gr where
 n:Int
 es:List Edge
def rE (e:Edge):List D:= [.sc (.int .i64 e.1), .sc (.int .i64 e.2)]
def rI (n:Int):List D:= [.sc (.int .i64 n)]
def eE (e:Edge):AV:= .agg [.d (.sc (.int .i64 e.1)), .d (.sc (.int .i64 e.2))]
def sE (es:List Edge):D:= .sl 2 (es.map rE)
def sI (l:List Int):D:= .sl 1 (l.map rI)
def eG (g:Gr):AV:= .agg [eN g.n, .d (sE g.es)]
attribute [go_sem] eN eB eE sE sI eG Args AVrs
theorem getD_rE (ps:List Edge) (i:Nat):(ps.map rE).getD i [.sc (.int .i64 0), .sc (.int .i64 0)]= [.sc (.int .i64 (ps.getD i (0,0)).1), .sc (.int .i64 (ps.getD i (0,0)).2)]:=by
 simp only [List.getD_eq_getElem?_getD,List.getElem?_map]
 cases ps[i]? <;>rfl
theorem getD_rI (ps:List Int) (i:Nat):(ps.map rI).getD i [.sc (.int .i64 0)]= [.sc (.int .i64 (ps.getD i 0))]:=by
 simp only [List.getD_eq_getElem?_getD,List.getElem?_map]
 cases ps[i]? <;>rfl
attribute [go_sem] getD_rE getD_rI Int.toNat_natCast List.length_set
def I3 (n:Int):Prop:= -9223372036854775808≤n∧n≤9223372036854775807
def Len (n:Nat):Prop:=n≤9223372036854775807
end Go.Ab
end
section
namespace Go.Ab
open Go.Proofs
attribute [local congr] ACall.congr gd.congr Nx.congr
set_option maxRecDepth 10000
def cU {α:Type} (g:α→Bool) (ps:List α):Int:=match ps.findIdx? g with|some i=>i|none=> -1
theorem iB {α:Type} {g:α→Bool} {ps:List α} (d:α) (h:∀j,j<ps.length→g (ps.getD j d)=false):cU g ps= -1:=by
 have:ps.findIdx? g=none:=by
  rw [List.findIdx?_eq_none_iff]
  intro x hx
  obtain ⟨j,hj,rfl⟩:=List.getElem_of_mem hx
  simpa [List.getD_eq_getElem?_getD,List.getElem?_eq_getElem hj] using h j hj
 simp [cU,this]
theorem jc {α:Type} {g:α→Bool} {ps:List α} {d:α} {k:Nat} (hk:k<ps.length) (h:∀j,j<k→g (ps.getD j d)=false) (hg:g (ps.getD k d)=true):cU g ps=k:=by
 have:ps.findIdx? g=some k:=by
  rw [List.findIdx?_eq_some_iff_getElem]
  refine ⟨hk,by simpa [List.getD_eq_getElem?_getD,List.getElem?_eq_getElem hk] using hg,fun j hj=> ?_⟩
  have:=h j hj
  simpa [List.getD_eq_getElem?_getD,List.getElem?_eq_getElem (Nat.lt_trans hj hk)] using this
 simp [cU,this]
theorem jE {α:Type} (g:α→Bool) (ps:List α):decide (0≤cU g ps)=ps.any g:=by
 cases h:ps.findIdx? g with
 |none=>
  have:cU g ps= -1:=by simp [cU,h]
  rw [this]
  rw [List.findIdx?_eq_none_iff] at h
  symm
  simpa using h
 |some i=>
  have:cU g ps=i:=by simp [cU,h]
  rw [this]
  obtain ⟨hi,hg,_⟩:=List.findIdx?_eq_some_iff_getElem.1 h
  have:ps.any g=true:=List.any_eq_true.2 ⟨_,List.getElem_mem hi,hg⟩
  rw [this];simp
theorem pe (rn:List (Nat × Nat)) (h0:rn= []) {m:List (Nat × AObj)} :∀ {r:List (Nat × AObj)},(∀p∈r,look m p.1=some p.2)→leR m rn r
 | [],_=>trivial
 |p::r,h=>by
  subst h0
  have h1:=h p List.mem_cons_self
  refine ⟨?_,pe [] rfl fun q hq=>h q (List.mem_cons_of_mem _ hq)⟩
  have e:renO [] p.2=p.2:=rfl
  show look m p.1=some (renO [] p.2)
  rw [e];exact h1
theorem eV {m:List (Nat × AObj)} (h:bu m):leR m [] m:=pe [] rfl fun _ hp=>aA h.nd hp
theorem cA {m:List (Nat × AObj)} (hR:bu m) (f:Nat) (caps:List AV) (g:Edge→Bool) (hf:∀p,Spec Try.prog f (Args (eE p::caps)) m (eB (g p)) m) (ps:List Edge) (hl:ps.length≤9223372036854775807):
 Spec Try.prog 68 (Args [.d (sE ps), .fn f [] caps]) m (eN (cU g ps)) m:=by
 (refine Spec.hd (C:=T.cfg [] []) (rs:= [.t 4]) (T.au _ _) Try.func68 rfl rfl Try.ntmps68 Try.results68 (fun p hp=>⟨(bu.low hR p hp).1,bu.nest hR p hp⟩) (fun p hp=>⟨(bu.low hR p hp).2,bu.nest hR p hp⟩) (by kernel_rfl) T.mixed fun X hX hP hC bf dB=> ?_)
 repeat' (first|refine Rn.p ?_|(with_reducible apply And.intro)|((first|(refine hK _ ?_;clear hK K)|with_reducible intro K hK|refine Rs.p ?_|((with_reducible first|apply oP|apply oQ);exact rfl)|(first|(refine aL hX hC hP hR (hf _) rfl rfl rfl ?_ ?_ rfl rfl ?_;(focus (simp only [go_sem,simprocAttr];done));(focus (first|(intro p hp;exact aA (bu.nd hR) hp)|(simp [go_sem,simprocAttr];done))))|(refine aL hX hC hP hR (hf _) rfl rfl rfl ?_ ?_ ?_ rfl ?_;(focus (simp only [go_sem,simprocAttr];done));(focus (first|(intro p hp;exact aA (bu.nd hR) hp)|(simp [go_sem,simprocAttr];done)));(focus (simp [go_sem,simprocAttr];done)))));try simp only [go_sem,simprocAttr])|((with_reducible refine oD ?_ ?_);kernel_rfl)|((with_reducible intro h);try simp only [go_sem,simprocAttr] at h)|omega|intro h)
 refine ah (fun k:Nat=>k≤ps.length∧∀j,j<k→g (ps.getD j (0,0))=false) (fun k=>⟨[(0, .d (sE ps)),(1, .fn f [] caps),(7,eN ps.length),(8,eN k)],m⟩) (fun k=>ps.length - k) 0 (by simp) ?_ ?_
 ·(refine ⟨cw ?_,fun _ _ h=>h⟩;simp [go_sem,simprocAttr])
 rintro k ⟨hk,hg⟩
 repeat' (first|refine Rn.p ?_|(with_reducible apply And.intro)|((first|(refine hK _ ?_;clear hK K)|with_reducible intro K hK|refine Rs.p ?_|((with_reducible first|apply oP|apply oQ);exact rfl)|(first|(refine aL hX hC hP hR (hf _) rfl rfl rfl ?_ ?_ rfl rfl ?_;(focus (simp only [go_sem,simprocAttr];done));(focus (first|(intro p hp;exact aA (bu.nd hR) hp)|(simp [go_sem,simprocAttr];done))))|(refine aL hX hC hP hR (hf _) rfl rfl rfl ?_ ?_ ?_ rfl ?_;(focus (simp only [go_sem,simprocAttr];done));(focus (first|(intro p hp;exact aA (bu.nd hR) hp)|(simp [go_sem,simprocAttr];done)));(focus (simp [go_sem,simprocAttr];done)))));try simp only [go_sem,simprocAttr])|((with_reducible refine oD ?_ ?_);kernel_rfl)|((with_reducible intro h);try simp only [go_sem,simprocAttr] at h)|omega|intro h)
 ·exact (jc (by omega) hg h).symm
 ·exact eV hR
 ·refine ⟨k+1,⟨by omega,fun j hj=> ?_⟩, ?_,by omega⟩
  ·by_cases hjk:j=k
   ·subst hjk;exact h
   ·exact hg j (by omega)
  ·(refine ⟨cw ?_,fun _ _ h=>h⟩;simp [go_sem,simprocAttr])
 ·exact (iB (0,0) fun j hj=>hg j (by omega)).symm
 ·exact eV hR
theorem dS {m:List (Nat × AObj)} (hR:bu m) (f:Nat) (caps:List AV) (g:Edge→Bool) (hf:∀p,Spec Try.prog f (Args (eE p::caps)) m (eB (g p)) m) (ps:List Edge) (hl:ps.length≤9223372036854775807):
 Spec Try.prog 37 (Args [.d (sE ps), .fn f [] caps]) m (eB (ps.any g)) m:=by
 (refine Spec.hd (C:=T.cfg [] []) (rs:= [.t 4]) (T.au _ _) Try.func37 rfl rfl Try.ntmps37 Try.results37 (fun p hp=>⟨(bu.low hR p hp).1,bu.nest hR p hp⟩) (fun p hp=>⟨(bu.low hR p hp).2,bu.nest hR p hp⟩) (by kernel_rfl) T.mixed fun X hX hP hC bf dB=> ?_)
 repeat' (first|refine Rn.p ?_|(with_reducible apply And.intro)|((first|(refine hK _ ?_;clear hK K)|with_reducible intro K hK|refine Rs.p ?_|((with_reducible first|apply oP|apply oQ);exact rfl)|(first|(refine aL hX hC hP hR (cA hR _ _ g hf ps hl) rfl rfl rfl ?_ ?_ rfl rfl ?_;(focus (simp only [go_sem,simprocAttr];done));(focus (first|(intro p hp;exact aA (bu.nd hR) hp)|(simp [go_sem,simprocAttr];done))))|(refine aL hX hC hP hR (cA hR _ _ g hf ps hl) rfl rfl rfl ?_ ?_ ?_ rfl ?_;(focus (simp only [go_sem,simprocAttr];done));(focus (first|(intro p hp;exact aA (bu.nd hR) hp)|(simp [go_sem,simprocAttr];done)));(focus (simp [go_sem,simprocAttr];done)))));try simp only [go_sem,simprocAttr])|((with_reducible refine oD ?_ ?_);kernel_rfl)|((with_reducible intro h);try simp only [go_sem,simprocAttr] at h)|omega|intro h)
 ·exact jE g ps
 ·exact eV hR
def pg (g:Gr) (x:Int):Bool:=decide (x<0)||decide (g.n≤x)
def lD (g:Gr) (e:Edge):Bool:=pg g e.1||pg g e.2
def aT (g:Gr):Bool:=decide (0<g.n)&&decide (g.n≤64)&&decide ((g.es.length:Int)≤128)&& !g.es.any (lD g)
def rG (g:Gr):AObj:= .rob [eN g.n, .d (sE g.es)]
theorem mA (g:Gr) (x:Int):Spec Try.prog 66 (Args [eN x, .ptr 10000 0]) [(10000,rG g)] (eB (pg g x)) [(10000,rG g)]:=by
 unfold rG
 (refine Spec.hd (C:=T.cfg [] []) (rs:= [.t 3]) (T.au _ _) Try.func66 rfl rfl Try.ntmps66 Try.results66 (by simp [AObj.isNest]) (by simp [AObj.isNest]) (by kernel_rfl) T.mixed fun X hX hP hC bf dB=> ?_)
 repeat' (first|refine Rn.p ?_|(with_reducible apply And.intro)|((first|(refine hK _ ?_;clear hK K)|with_reducible intro K hK|refine Rs.p ?_|((with_reducible first|apply oP|apply oQ);exact rfl)|(first|(refine aL hX hC hP hR (cA hR _ _ g hf ps hl) rfl rfl rfl ?_ ?_ rfl rfl ?_;(focus (simp only [go_sem,simprocAttr];done));(focus (first|(intro p hp;exact aA (bu.nd hR) hp)|(simp [go_sem,simprocAttr];done))))|(refine aL hX hC hP hR (cA hR _ _ g hf ps hl) rfl rfl rfl ?_ ?_ ?_ rfl ?_;(focus (simp only [go_sem,simprocAttr];done));(focus (first|(intro p hp;exact aA (bu.nd hR) hp)|(simp [go_sem,simprocAttr];done)));(focus (simp [go_sem,simprocAttr];done)))));try simp only [go_sem,simprocAttr])|((with_reducible refine oD ?_ ?_);kernel_rfl)|((with_reducible intro h);try simp only [go_sem,simprocAttr] at h)|omega|intro h)
 ·simp [pg, *]
 ·simp [pg, *]
theorem xQ (g:Gr):bu [(10000,rG g)]:=⟨by simp [rG,AObj.ro],by simp [nodupM,look],by simp,by simp [rG,AObj.ids,AV.ids,AV.idss,eN]⟩
def rF:AObj:= .rob [.fn 66 [] [.ptr 10000 0]]
attribute [go_sem] rG rF
theorem s8 (g:Gr) (e:Edge):Spec Try.prog 67 (Args [eE e, .ptr 10001 0]) [(10001,rF),(10000,rG g)] (eB (lD g e)) [(10001,rF),(10000,rG g)]:=by
 unfold rF rG
 (refine Spec.hd (C:=T.cfg [] []) (rs:= [.t 3]) (T.au _ _) Try.func67 rfl rfl Try.ntmps67 Try.results67 (by simp [AObj.isNest]) (by simp [AObj.isNest]) (by kernel_rfl) T.mixed fun X hX hP hC bf dB=> ?_)
 repeat' (first|refine Rn.p ?_|(with_reducible apply And.intro)|((first|(refine hK _ ?_;clear hK K)|with_reducible intro K hK|refine Rs.p ?_|((with_reducible first|apply oP|apply oQ);exact rfl)|(first|(refine aL hX hC hP (xQ g) (mA g _) rfl rfl rfl ?_ ?_ rfl rfl ?_;(focus (simp only [go_sem,simprocAttr];done));(focus (first|(intro p hp;exact aA (bu.nd (xQ g)) hp)|(simp [go_sem,simprocAttr];done))))|(refine aL hX hC hP (xQ g) (mA g _) rfl rfl rfl ?_ ?_ ?_ rfl ?_;(focus (simp only [go_sem,simprocAttr];done));(focus (first|(intro p hp;exact aA (bu.nd (xQ g)) hp)|(simp [go_sem,simprocAttr];done)));(focus (simp [go_sem,simprocAttr];done)))));try simp only [go_sem,simprocAttr])|((with_reducible refine oD ?_ ?_);kernel_rfl)|((with_reducible intro h);try simp only [go_sem,simprocAttr] at h)|omega|intro h)
 ·simp [lD, *]
 ·simp [lD, *]
theorem EK (g:Gr):bu [(10001,rF),(10000,rG g)]:=⟨by simp [rG,rF,AObj.ro],by simp [nodupM,look],by simp,by simp [rG,rF,AObj.ids,AV.ids,AV.idss,eN,look]⟩
theorem vb (g:Gr) (hl:g.es.length≤9223372036854775807):Spec Try.prog 36 (Args [eG g]) [] (eB (aT g)) []:=by
 (refine Spec.hd (C:=T.cfg [] []) (rs:= [.t 2]) (T.au _ _) Try.func36 rfl rfl Try.ntmps36 Try.results36 (by simp [AObj.isNest]) (by simp [AObj.isNest]) (by kernel_rfl) T.mixed fun X hX hP hC bf dB=> ?_)
 repeat' (first|refine Rn.p ?_|(with_reducible apply And.intro)|((first|(refine hK _ ?_;clear hK K)|with_reducible intro K hK|refine Rs.p ?_|((with_reducible first|apply oP|apply oQ);exact rfl)|(refine s4 hX hC hP [(10000,1),(10001,3)] (dS (EK g) _ _ (lD g) (s8 g) g.es hl) rfl rfl rfl ?_ ?_ ?_ ?_ ?_ ?_ rfl rfl ?_ ?_;(focus (simp only [go_sem,simprocAttr];done));(iterate 6 (focus (simp [go_sem,simprocAttr];done)));try simp only [List.map_cons,List.map_nil]));try simp only [go_sem,simprocAttr])|((with_reducible refine oD ?_ ?_);kernel_rfl)|((with_reducible intro h);try simp only [go_sem,simprocAttr] at h)|omega|intro h)
 all_goals simp [aT, *]
end Go.Ab
end
section
namespace Go.Ab
open Go.Proofs
attribute [local congr] ACall.congr gd.congr Nx.congr
set_option maxRecDepth 10000
def jF (l:List Int) (x:Int):Int:=cU (fun y=>decide (x=y)) l
def Hz (l:List Edge) (x:Edge):Int:=cU (fun y=>decide (x=y)) l
theorem ve (l:List Int) (x:Int):decide (0≤jF l x)=decide (x∈l):=by
 unfold jF;rw [jE,Bool.eq_iff_iff];simp
theorem jY (ps:List Int) (x:Int) (hl:ps.length≤9223372036854775807):
 Spec Try.prog 74 (Args [.d (sI ps),eN x]) [] (eN (jF ps x)) []:=by
 (refine Spec.hd (C:=T.cfg [] []) (rs:= [.t 4]) (T.au _ _) Try.func74 rfl rfl Try.ntmps74 Try.results74 (by simp [AObj.isNest]) (by simp [AObj.isNest]) (by kernel_rfl) T.mixed fun X hX hP hC bf dB=> ?_)
 repeat' (first|refine Rn.p ?_|(with_reducible apply And.intro)|((first|(refine hK _ ?_;clear hK K)|with_reducible intro K hK|refine Rs.p ?_|((with_reducible first|apply oP|apply oQ);exact rfl));try simp only [go_sem,simprocAttr])|((with_reducible refine oD ?_ ?_);kernel_rfl)|((with_reducible intro h);try simp only [go_sem,simprocAttr] at h)|omega|intro h)
 refine ah (fun k:Nat=>k≤ps.length∧∀j,j<k→decide (x=ps.getD j 0)=false) (fun k=>⟨[(0, .d (sI ps)),(1,eN x),(7,eN ps.length),(8,eN k)], []⟩) (fun k=>ps.length - k) 0 (by simp) ?_ ?_
 ·(refine ⟨cw ?_,fun _ _ h=>h⟩;simp [go_sem,simprocAttr])
 rintro k ⟨hk,hg⟩
 repeat' (first|refine Rn.p ?_|(with_reducible apply And.intro)|((first|(refine hK _ ?_;clear hK K)|with_reducible intro K hK|refine Rs.p ?_|((with_reducible first|apply oP|apply oQ);exact rfl));try simp only [go_sem,simprocAttr])|((with_reducible refine oD ?_ ?_);kernel_rfl)|((with_reducible intro h);try simp only [go_sem,simprocAttr] at h)|omega|intro h)
 ·exact (jc (by omega) hg (by simpa using h)).symm
 ·refine ⟨k+1,⟨by omega,fun j hj=> ?_⟩, ?_,by omega⟩
  ·by_cases hjk:j=k
   ·subst hjk;simpa using h
   ·simpa using hg j (by omega)
  ·(refine ⟨cw ?_,fun _ _ h=>h⟩;simp [go_sem,simprocAttr])
 ·exact (iB 0 fun j hj=>hg j (by omega)).symm
theorem lE (ps:List Int) (x:Int) (hl:ps.length≤9223372036854775807):
 Spec Try.prog 50 (Args [.d (sI ps),eN x]) [] (eB (decide (x∈ps))) []:=by
 rw [← ve]
 (refine Spec.hd (C:=T.cfg [] []) (rs:= [.t 4]) (T.au _ _) Try.func50 rfl rfl Try.ntmps50 Try.results50 (by simp [AObj.isNest]) (by simp [AObj.isNest]) (by kernel_rfl) T.mixed fun X hX hP hC bf dB=> ?_)
 repeat' (first|refine Rn.p ?_|(with_reducible apply And.intro)|((first|(refine hK _ ?_;clear hK K)|with_reducible intro K hK|refine Rs.p ?_|((with_reducible first|apply oP|apply oQ);exact rfl)|refine aa hX hC hP (jY ps x hl) rfl rfl rfl (by simp only [go_sem,simprocAttr]) rfl ?_);try simp only [go_sem,simprocAttr])|((with_reducible refine oD ?_ ?_);kernel_rfl)|((with_reducible intro h);try simp only [go_sem,simprocAttr] at h)|omega|intro h)
theorem s9 {α:Type} {xs ys:List α} (d:α) {k:Nat} (h1:k<xs.length) (h2:k<ys.length) (h:xs.take k=ys.take k) (he:xs.getD k d=ys.getD k d):xs.take (k+1)=ys.take (k+1):=by
 rw [List.take_add_one,List.take_add_one,h,List.getElem?_eq_getElem h1,List.getElem?_eq_getElem h2]
 simp only [List.getD_eq_getElem?_getD,List.getElem?_eq_getElem h1,List.getElem?_eq_getElem h2,Option.getD_some] at he
 rw [he]
theorem l6 (xs ys:List Int) (hlen:xs.length≤9223372036854775807):Spec Try.prog 22 (Args [.d (sI xs), .d (sI ys)]) [] (eB (decide (xs=ys))) []:=by
 (refine Spec.hd (C:=T.cfg [] []) (rs:= [.t 4]) (T.au _ _) Try.func22 rfl rfl Try.ntmps22 Try.results22 (by simp [AObj.isNest]) (by simp [AObj.isNest]) (by kernel_rfl) T.mixed fun X hX hP hC bf dB=> ?_)
 repeat' (first|refine Rn.p ?_|(with_reducible apply And.intro)|((first|(refine hK _ ?_;clear hK K)|with_reducible intro K hK|refine Rs.p ?_|((with_reducible first|apply oP|apply oQ);exact rfl));try simp only [go_sem,simprocAttr])|((with_reducible refine oD ?_ ?_);kernel_rfl)|((with_reducible intro h);try simp only [go_sem,simprocAttr] at h)|omega|intro h)
 ·have:xs≠ys:=fun e=>h (by rw [e])
  simp [this]
 refine ah (fun k:Nat=>k≤xs.length∧xs.take k=ys.take k) (fun k=>⟨[(0, .d (sI xs)),(1, .d (sI ys)),(5,eN k)], []⟩) (fun k=>xs.length - k) 0 (by simp) ?_ ?_
 ·(refine ⟨cw ?_,fun _ _ h=>h⟩;simp [go_sem,simprocAttr])
 rintro k ⟨hk,hp⟩
 have tP:xs.length=ys.length:=by omega
 repeat' (first|refine Rn.p ?_|(with_reducible apply And.intro)|((first|(refine hK _ ?_;clear hK K)|with_reducible intro K hK|refine Rs.p ?_|((with_reducible first|apply oP|apply oQ);exact rfl));try simp only [go_sem,simprocAttr])|((with_reducible refine oD ?_ ?_);kernel_rfl)|((with_reducible intro h);try simp only [go_sem,simprocAttr] at h)|omega|intro h)
 ·have:xs≠ys:=fun e=>h (by rw [e])
  simp [this]
 ·refine ⟨k+1,⟨by omega,s9 0 (by omega) (by omega) hp h⟩, ?_,by omega⟩
  (refine ⟨cw ?_,fun _ _ h=>h⟩;simp [go_sem,simprocAttr])
 ·have:k=xs.length:=by omega
  subst this
  rw [List.take_of_length_le (Nat.le_refl _),List.take_of_length_le (by omega)] at hp
  simp [hp]
theorem vf {α:Type} {f:α→Bool} {xs:List α} (d:α) {k:Nat} (h1:k<xs.length) (h:(xs.take k).any f=false) (he:f (xs.getD k d)=false):(xs.take (k+1)).any f=false:=by
 rw [List.take_add_one,List.any_append,h,List.getElem?_eq_getElem h1]
 simp only [List.getD_eq_getElem?_getD,List.getElem?_eq_getElem h1,Option.getD_some] at he
 simp [he]
theorem zI {α:Type} {f:α→Bool} {xs:List α} {d:α} {k:Nat} (h1:k<xs.length) (he:f (xs.getD k d)=true):xs.any f=true:=by
 rw [List.any_eq_true]
 refine ⟨_,List.getElem_mem h1, ?_⟩
 simpa only [List.getD_eq_getElem?_getD,List.getElem?_eq_getElem h1,Option.getD_some] using he
theorem pn {g:Gr} {k:Nat} (h1:k<g.es.length) (he:lD g (g.es.getD k (0,0))=true):false=aT g:=by
 simp [aT,zI h1 he]
theorem pE (g:Gr) (hl:g.es.length≤9223372036854775807):Spec Try.prog 45 (Args [eG g]) [] (eB (aT g)) []:=by
 (refine Spec.hd (C:=T.cfg [] []) (rs:= [.t 2]) (T.au _ _) Try.func45 rfl rfl Try.ntmps45 Try.results45 (by simp [AObj.isNest]) (by simp [AObj.isNest]) (by kernel_rfl) T.mixed fun X hX hP hC bf dB=> ?_)
 repeat' (first|refine Rn.p ?_|(with_reducible apply And.intro)|((first|(refine hK _ ?_;clear hK K)|with_reducible intro K hK|refine Rs.p ?_|((with_reducible first|apply oP|apply oQ);exact rfl));try simp only [go_sem,simprocAttr])|((with_reducible refine oD ?_ ?_);kernel_rfl)|((with_reducible intro h);try simp only [go_sem,simprocAttr] at h)|omega|intro h)
 any_goals (simp [aT];omega)
 refine ah (fun k:Nat=>k≤g.es.length∧(g.es.take k).any (lD g)=false) (fun k=>⟨[(1, .ptr 1 0),(3,eN k)], [(1, .box [eN g.n, .d (sE g.es)])]⟩) (fun k=>g.es.length - k) 0 (by simp) ?_ ?_
 ·(refine Le.of ?_ ?_<;>simp [go_sem,simprocAttr])
 rintro k ⟨hk,hp⟩
 repeat' (first|refine Rn.p ?_|(with_reducible apply And.intro)|((first|(refine hK _ ?_;clear hK K)|with_reducible intro K hK|refine Rs.p ?_|((with_reducible first|apply oP|apply oQ);exact rfl));try simp only [go_sem,simprocAttr])|((with_reducible refine oD ?_ ?_);kernel_rfl)|((with_reducible intro h);try simp only [go_sem,simprocAttr] at h)|omega|intro h)
 any_goals (refine pn (k:=k) (by omega) ?_;simp only [lD,pg,Bool.or_eq_true,decide_eq_true_eq];omega)
 ·refine ⟨k+1,⟨by omega,vf (0,0) (by omega) hp ?_⟩, ?_,by omega⟩
  ·simp only [lD,pg,Bool.or_eq_false_iff,decide_eq_false_iff_not];omega
  ·(refine Le.of ?_ ?_<;>simp [go_sem,simprocAttr])
 ·rw [List.take_of_length_le (by omega)] at hp
  simp [aT,hp];omega
end Go.Ab
end
