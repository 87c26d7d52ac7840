/- A part of the proof. -/
import Derived.Test.YtameldglfobjkaaProg
import Derived.Test.YtameldglfobjkaaL3P10
set_option linter.unusedSimpArgs false
set_option linter.unusedVariables false
section
namespace Go.Ab.T
open Go.Proofs
def T:Nat→Option TI
 |2=>some ⟨(.int .i64),1,8, [(.d (.sc (.int .i64 0)))]⟩
 |3=>some ⟨(.int .i64),1,8, [(.d (.sc (.int .i64 0)))]⟩
 |4=>some ⟨.bool,1,1, [(.d (.sc (.bool false)))]⟩
 |5=>some ⟨(.int .u8),1,1, [(.d (.sc (.int .u8 0)))]⟩
 |9=>some ⟨.sc,1,16, [(.d (.sc (.string ⟨#[]⟩)))]⟩
 |12=>some ⟨(.int .u64),1,8, [(.d (.sc (.int .u64 0)))]⟩
 |21=>some ⟨(.int .i32),1,4, [(.d (.sc (.int .i32 0)))]⟩
 |22=>some ⟨(.sl 42),1,24, [(.nil 42)]⟩
 |24=>some ⟨(.st [(0,3),(1,22)]),2,32, [(.d (.sc (.int .i64 0))),(.nil 42)]⟩
 |25=>some ⟨(.sl 3),1,24, [(.nil 3)]⟩
 |26=>some ⟨(.sl 25),1,24, [(.nil 25)]⟩
 |28=>some ⟨(.st [(0,25),(1,26)]),2,48, [(.nil 3),(.nil 25)]⟩
 |31=>some ⟨(.int .i64),1,8, [(.d (.sc (.int .i64 0)))]⟩
 |34=>some ⟨(.sl 25),1,24, [(.nil 25)]⟩
 |39=>some ⟨(.sl 4),1,24, [(.nil 4)]⟩
 |42=>some ⟨(.st [(0,3),(1,3)]),2,16, [(.d (.sc (.int .i64 0))),(.d (.sc (.int .i64 0)))]⟩
 |46=>some ⟨(.sl 50),1,24, [(.nil 50)]⟩
 |50=>some ⟨(.st [(0,4),(1,3),(2,3)]),3,24, [(.d (.sc (.bool false))),(.d (.sc (.int .i64 0))),(.d (.sc (.int .i64 0)))]⟩
 |53=>some ⟨(.sl 56),1,24, [(.nil 56)]⟩
 |55=>some ⟨(.int .u64),1,8, [(.d (.sc (.int .u64 0)))]⟩
 |56=>some ⟨(.int .u64),1,8, [(.d (.sc (.int .u64 0)))]⟩
 |58=>some ⟨(.sl 59),1,24, [(.nil 59)]⟩
 |59=>some ⟨(.sl 74),1,24, [(.nil 74)]⟩
 |61=>some ⟨(.st [(0,31),(1,3),(2,25)]),3,40, [(.d (.sc (.int .i64 0))),(.d (.sc (.int .i64 0))),(.nil 3)]⟩
 |64=>some ⟨(.pt 68),1,8, [(.d (.sc (.pointer none)))]⟩
 |68=>some ⟨(.st [(0,24),(2,28)]),4,80, [(.d (.sc (.int .i64 0))),(.nil 42),(.nil 3),(.nil 25)]⟩
 |74=>some ⟨(.st [(0,3),(1,3),(2,3)]),3,24, [(.d (.sc (.int .i64 0))),(.d (.sc (.int .i64 0))),(.d (.sc (.int .i64 0)))]⟩
 |78=>some ⟨(.pt 81),1,8, [(.d (.sc (.pointer none)))]⟩
 |81=>some ⟨(.st [(0,24),(2,26),(3,25),(4,25),(5,3),(6,25),(7,26)]),8,160, [(.d (.sc (.int .i64 0))),(.nil 42),(.nil 25),(.nil 3),(.nil 3),(.d (.sc (.int .i64 0))),(.nil 3),(.nil 25)]⟩
 |94=>some ⟨.sc,1,8, [(.d (.sc .nilFunc))]⟩
 |96=>some ⟨(.pt 123),1,8, [(.d (.sc (.pointer none)))]⟩
 |99=>some ⟨(.pt 109),1,8, [(.d (.sc (.pointer none)))]⟩
 |107=>some ⟨(.st [(0,59)]),1,24, [(.nil 74)]⟩
 |109=>some ⟨(.st [(0,107),(1,96),(2,25)]),3,56, [(.nil 74),(.d (.sc (.pointer none))),(.nil 3)]⟩
 |117=>some ⟨(.int .u64),1,8, [(.d (.sc (.int .u64 0)))]⟩
 |118=>some ⟨(.ar 2 3),2,16, [(.d (.sc (.int .i64 0))),(.d (.sc (.int .i64 0)))]⟩
 |123=>some ⟨(.st [(0,24),(2,26),(3,26)]),4,80, [(.d (.sc (.int .i64 0))),(.nil 42),(.nil 25),(.nil 25)]⟩
 |134=>some ⟨(.pt 107),1,8, [(.d (.sc (.pointer none)))]⟩
 |138=>some ⟨(.int .i64),1,8, [(.d (.sc (.int .i64 0)))]⟩
 |146=>some ⟨(.int .u32),1,4, [(.d (.sc (.int .u32 0)))]⟩
 |157=>some ⟨(.int .u64),1,8, [(.d (.sc (.int .u64 0)))]⟩
 |161=>some ⟨(.pt 3),1,8, [(.d (.sc (.pointer none)))]⟩
 |168=>some ⟨(.pt 157),1,8, [(.d (.sc (.pointer none)))]⟩
 |191=>some ⟨(.pt 5),1,8, [(.d (.sc (.pointer none)))]⟩
 |_=>none
theorem T2:T 2=some ⟨(.int .i64),1,8, [(.d (.sc (.int .i64 0)))]⟩:=rfl
theorem T3:T 3=some ⟨(.int .i64),1,8, [(.d (.sc (.int .i64 0)))]⟩:=rfl
theorem T4:T 4=some ⟨.bool,1,1, [(.d (.sc (.bool false)))]⟩:=rfl
theorem T5:T 5=some ⟨(.int .u8),1,1, [(.d (.sc (.int .u8 0)))]⟩:=rfl
theorem T9:T 9=some ⟨.sc,1,16, [(.d (.sc (.string ⟨#[]⟩)))]⟩:=rfl
theorem T12:T 12=some ⟨(.int .u64),1,8, [(.d (.sc (.int .u64 0)))]⟩:=rfl
theorem T21:T 21=some ⟨(.int .i32),1,4, [(.d (.sc (.int .i32 0)))]⟩:=rfl
theorem T22:T 22=some ⟨(.sl 42),1,24, [(.nil 42)]⟩:=rfl
theorem T24:T 24=some ⟨(.st [(0,3),(1,22)]),2,32, [(.d (.sc (.int .i64 0))),(.nil 42)]⟩:=rfl
theorem T25:T 25=some ⟨(.sl 3),1,24, [(.nil 3)]⟩:=rfl
theorem T26:T 26=some ⟨(.sl 25),1,24, [(.nil 25)]⟩:=rfl
theorem T28:T 28=some ⟨(.st [(0,25),(1,26)]),2,48, [(.nil 3),(.nil 25)]⟩:=rfl
theorem T31:T 31=some ⟨(.int .i64),1,8, [(.d (.sc (.int .i64 0)))]⟩:=rfl
theorem T34:T 34=some ⟨(.sl 25),1,24, [(.nil 25)]⟩:=rfl
theorem T39:T 39=some ⟨(.sl 4),1,24, [(.nil 4)]⟩:=rfl
theorem T42:T 42=some ⟨(.st [(0,3),(1,3)]),2,16, [(.d (.sc (.int .i64 0))),(.d (.sc (.int .i64 0)))]⟩:=rfl
theorem T46:T 46=some ⟨(.sl 50),1,24, [(.nil 50)]⟩:=rfl
theorem T50:T 50=some ⟨(.st [(0,4),(1,3),(2,3)]),3,24, [(.d (.sc (.bool false))),(.d (.sc (.int .i64 0))),(.d (.sc (.int .i64 0)))]⟩:=rfl
theorem T53:T 53=some ⟨(.sl 56),1,24, [(.nil 56)]⟩:=rfl
theorem T55:T 55=some ⟨(.int .u64),1,8, [(.d (.sc (.int .u64 0)))]⟩:=rfl
theorem T56:T 56=some ⟨(.int .u64),1,8, [(.d (.sc (.int .u64 0)))]⟩:=rfl
theorem T58:T 58=some ⟨(.sl 59),1,24, [(.nil 59)]⟩:=rfl
theorem T59:T 59=some ⟨(.sl 74),1,24, [(.nil 74)]⟩:=rfl
theorem T61:T 61=some ⟨(.st [(0,31),(1,3),(2,25)]),3,40, [(.d (.sc (.int .i64 0))),(.d (.sc (.int .i64 0))),(.nil 3)]⟩:=rfl
theorem T64:T 64=some ⟨(.pt 68),1,8, [(.d (.sc (.pointer none)))]⟩:=rfl
theorem T68:T 68=some ⟨(.st [(0,24),(2,28)]),4,80, [(.d (.sc (.int .i64 0))),(.nil 42),(.nil 3),(.nil 25)]⟩:=rfl
theorem T74:T 74=some ⟨(.st [(0,3),(1,3),(2,3)]),3,24, [(.d (.sc (.int .i64 0))),(.d (.sc (.int .i64 0))),(.d (.sc (.int .i64 0)))]⟩:=rfl
theorem T78:T 78=some ⟨(.pt 81),1,8, [(.d (.sc (.pointer none)))]⟩:=rfl
theorem T81:T 81=some ⟨(.st [(0,24),(2,26),(3,25),(4,25),(5,3),(6,25),(7,26)]),8,160, [(.d (.sc (.int .i64 0))),(.nil 42),(.nil 25),(.nil 3),(.nil 3),(.d (.sc (.int .i64 0))),(.nil 3),(.nil 25)]⟩:=rfl
theorem T94:T 94=some ⟨.sc,1,8, [(.d (.sc .nilFunc))]⟩:=rfl
theorem T96:T 96=some ⟨(.pt 123),1,8, [(.d (.sc (.pointer none)))]⟩:=rfl
theorem T99:T 99=some ⟨(.pt 109),1,8, [(.d (.sc (.pointer none)))]⟩:=rfl
theorem T107:T 107=some ⟨(.st [(0,59)]),1,24, [(.nil 74)]⟩:=rfl
theorem T109:T 109=some ⟨(.st [(0,107),(1,96),(2,25)]),3,56, [(.nil 74),(.d (.sc (.pointer none))),(.nil 3)]⟩:=rfl
theorem T117:T 117=some ⟨(.int .u64),1,8, [(.d (.sc (.int .u64 0)))]⟩:=rfl
theorem T118:T 118=some ⟨(.ar 2 3),2,16, [(.d (.sc (.int .i64 0))),(.d (.sc (.int .i64 0)))]⟩:=rfl
theorem T123:T 123=some ⟨(.st [(0,24),(2,26),(3,26)]),4,80, [(.d (.sc (.int .i64 0))),(.nil 42),(.nil 25),(.nil 25)]⟩:=rfl
theorem T134:T 134=some ⟨(.pt 107),1,8, [(.d (.sc (.pointer none)))]⟩:=rfl
theorem T138:T 138=some ⟨(.int .i64),1,8, [(.d (.sc (.int .i64 0)))]⟩:=rfl
theorem T146:T 146=some ⟨(.int .u32),1,4, [(.d (.sc (.int .u32 0)))]⟩:=rfl
theorem T157:T 157=some ⟨(.int .u64),1,8, [(.d (.sc (.int .u64 0)))]⟩:=rfl
theorem T161:T 161=some ⟨(.pt 3),1,8, [(.d (.sc (.pointer none)))]⟩:=rfl
theorem T168:T 168=some ⟨(.pt 157),1,8, [(.d (.sc (.pointer none)))]⟩:=rfl
theorem T191:T 191=some ⟨(.pt 5),1,8, [(.d (.sc (.pointer none)))]⟩:=rfl
def qe:Nat→Option Nat
 |42=>some 2
 |74=>some 3
 |_=>none
theorem eqn42:qe 42=some 2:=rfl
theorem eqn74:qe 74=some 3:=rfl
theorem EW:ak Try.prog 2 ⟨(.int .i64),1,8, [(.d (.sc (.int .i64 0)))]⟩:=ak.mk' (by kernel_rfl) (by kernel_rfl) rfl Try.underlying2
theorem EX:ak Try.prog 3 ⟨(.int .i64),1,8, [(.d (.sc (.int .i64 0)))]⟩:=ak.mk' (by kernel_rfl) (by kernel_rfl) rfl Try.underlying3
theorem EY:ak Try.prog 4 ⟨.bool,1,1, [(.d (.sc (.bool false)))]⟩:=ak.mk' (by kernel_rfl) (by kernel_rfl) rfl Try.underlying4
theorem EZ:ak Try.prog 5 ⟨(.int .u8),1,1, [(.d (.sc (.int .u8 0)))]⟩:=ak.mk' (by kernel_rfl) (by kernel_rfl) rfl Try.underlying5
theorem E1:ak Try.prog 9 ⟨.sc,1,16, [(.d (.sc (.string ⟨#[]⟩)))]⟩:=ak.mk' (by kernel_rfl) (by kernel_rfl) rfl ⟨_,Try.underlying9,trivial⟩
theorem Cg:ak Try.prog 12 ⟨(.int .u64),1,8, [(.d (.sc (.int .u64 0)))]⟩:=ak.mk' (by kernel_rfl) (by kernel_rfl) rfl Try.underlying12
theorem Ch:ak Try.prog 21 ⟨(.int .i32),1,4, [(.d (.sc (.int .i32 0)))]⟩:=ak.mk' (by kernel_rfl) (by kernel_rfl) rfl Try.underlying21
theorem Ci:ak Try.prog 22 ⟨(.sl 42),1,24, [(.nil 42)]⟩:=ak.mk' (by kernel_rfl) (by kernel_rfl) rfl Try.underlying22
theorem Cj:ak Try.prog 24 ⟨(.st [(0,3),(1,22)]),2,32, [(.d (.sc (.int .i64 0))),(.nil 42)]⟩:=ak.mk' (by kernel_rfl) (by kernel_rfl) rfl ⟨_,Try.underlying24,rfl⟩
theorem Ck:ak Try.prog 25 ⟨(.sl 3),1,24, [(.nil 3)]⟩:=ak.mk' (by kernel_rfl) (by kernel_rfl) rfl Try.underlying25
theorem Cl:ak Try.prog 26 ⟨(.sl 25),1,24, [(.nil 25)]⟩:=ak.mk' (by kernel_rfl) (by kernel_rfl) rfl Try.underlying26
theorem Cm:ak Try.prog 28 ⟨(.st [(0,25),(1,26)]),2,48, [(.nil 3),(.nil 25)]⟩:=ak.mk' (by kernel_rfl) (by kernel_rfl) rfl ⟨_,Try.underlying28,rfl⟩
theorem Co:ak Try.prog 31 ⟨(.int .i64),1,8, [(.d (.sc (.int .i64 0)))]⟩:=ak.mk' (by kernel_rfl) (by kernel_rfl) rfl Try.underlying31
theorem Cp:ak Try.prog 34 ⟨(.sl 25),1,24, [(.nil 25)]⟩:=ak.mk' (by kernel_rfl) (by kernel_rfl) rfl Try.underlying34
theorem Cr:ak Try.prog 39 ⟨(.sl 4),1,24, [(.nil 4)]⟩:=ak.mk' (by kernel_rfl) (by kernel_rfl) rfl Try.underlying39
theorem Cs:ak Try.prog 42 ⟨(.st [(0,3),(1,3)]),2,16, [(.d (.sc (.int .i64 0))),(.d (.sc (.int .i64 0)))]⟩:=ak.mk' (by kernel_rfl) (by kernel_rfl) rfl ⟨_,Try.underlying42,rfl⟩
theorem Ct:ak Try.prog 46 ⟨(.sl 50),1,24, [(.nil 50)]⟩:=ak.mk' (by kernel_rfl) (by kernel_rfl) rfl Try.underlying46
theorem Cu:ak Try.prog 50 ⟨(.st [(0,4),(1,3),(2,3)]),3,24, [(.d (.sc (.bool false))),(.d (.sc (.int .i64 0))),(.d (.sc (.int .i64 0)))]⟩:=ak.mk' (by kernel_rfl) (by kernel_rfl) rfl ⟨_,Try.underlying50,rfl⟩
theorem Cv:ak Try.prog 53 ⟨(.sl 56),1,24, [(.nil 56)]⟩:=ak.mk' (by kernel_rfl) (by kernel_rfl) rfl Try.underlying53
theorem Cw:ak Try.prog 55 ⟨(.int .u64),1,8, [(.d (.sc (.int .u64 0)))]⟩:=ak.mk' (by kernel_rfl) (by kernel_rfl) rfl Try.underlying55
theorem Cx:ak Try.prog 56 ⟨(.int .u64),1,8, [(.d (.sc (.int .u64 0)))]⟩:=ak.mk' (by kernel_rfl) (by kernel_rfl) rfl Try.underlying56
theorem Cy:ak Try.prog 58 ⟨(.sl 59),1,24, [(.nil 59)]⟩:=ak.mk' (by kernel_rfl) (by kernel_rfl) rfl Try.underlying58
theorem Cz:ak Try.prog 59 ⟨(.sl 74),1,24, [(.nil 74)]⟩:=ak.mk' (by kernel_rfl) (by kernel_rfl) rfl Try.underlying59
theorem CA:ak Try.prog 61 ⟨(.st [(0,31),(1,3),(2,25)]),3,40, [(.d (.sc (.int .i64 0))),(.d (.sc (.int .i64 0))),(.nil 3)]⟩:=ak.mk' (by kernel_rfl) (by kernel_rfl) rfl ⟨_,Try.underlying61,rfl⟩
theorem CB:ak Try.prog 64 ⟨(.pt 68),1,8, [(.d (.sc (.pointer none)))]⟩:=ak.mk' (by kernel_rfl) (by kernel_rfl) rfl Try.underlying64
theorem CC:ak Try.prog 68 ⟨(.st [(0,24),(2,28)]),4,80, [(.d (.sc (.int .i64 0))),(.nil 42),(.nil 3),(.nil 25)]⟩:=ak.mk' (by kernel_rfl) (by kernel_rfl) rfl ⟨_,Try.underlying68,rfl⟩
theorem CD:ak Try.prog 74 ⟨(.st [(0,3),(1,3),(2,3)]),3,24, [(.d (.sc (.int .i64 0))),(.d (.sc (.int .i64 0))),(.d (.sc (.int .i64 0)))]⟩:=ak.mk' (by kernel_rfl) (by kernel_rfl) rfl ⟨_,Try.underlying74,rfl⟩
theorem CE:ak Try.prog 78 ⟨(.pt 81),1,8, [(.d (.sc (.pointer none)))]⟩:=ak.mk' (by kernel_rfl) (by kernel_rfl) rfl Try.underlying78
theorem CF:ak Try.prog 81 ⟨(.st [(0,24),(2,26),(3,25),(4,25),(5,3),(6,25),(7,26)]),8,160, [(.d (.sc (.int .i64 0))),(.nil 42),(.nil 25),(.nil 3),(.nil 3),(.d (.sc (.int .i64 0))),(.nil 3),(.nil 25)]⟩:=ak.mk' (by kernel_rfl) (by kernel_rfl) rfl ⟨_,Try.underlying81,rfl⟩
theorem CG:ak Try.prog 94 ⟨.sc,1,8, [(.d (.sc .nilFunc))]⟩:=ak.mk' (by kernel_rfl) (by kernel_rfl) rfl ⟨_,Try.underlying94,trivial⟩
theorem CH:ak Try.prog 96 ⟨(.pt 123),1,8, [(.d (.sc (.pointer none)))]⟩:=ak.mk' (by kernel_rfl) (by kernel_rfl) rfl Try.underlying96
theorem CI:ak Try.prog 99 ⟨(.pt 109),1,8, [(.d (.sc (.pointer none)))]⟩:=ak.mk' (by kernel_rfl) (by kernel_rfl) rfl Try.underlying99
theorem zQ:ak Try.prog 107 ⟨(.st [(0,59)]),1,24, [(.nil 74)]⟩:=ak.mk' (by kernel_rfl) (by kernel_rfl) rfl ⟨_,Try.underlying107,rfl⟩
theorem zR:ak Try.prog 109 ⟨(.st [(0,107),(1,96),(2,25)]),3,56, [(.nil 74),(.d (.sc (.pointer none))),(.nil 3)]⟩:=ak.mk' (by kernel_rfl) (by kernel_rfl) rfl ⟨_,Try.underlying109,rfl⟩
theorem zS:ak Try.prog 117 ⟨(.int .u64),1,8, [(.d (.sc (.int .u64 0)))]⟩:=ak.mk' (by kernel_rfl) (by kernel_rfl) rfl Try.underlying117
theorem zT:ak Try.prog 118 ⟨(.ar 2 3),2,16, [(.d (.sc (.int .i64 0))),(.d (.sc (.int .i64 0)))]⟩:=ak.mk' (by kernel_rfl) (by kernel_rfl) rfl Try.underlying118
theorem zU:ak Try.prog 123 ⟨(.st [(0,24),(2,26),(3,26)]),4,80, [(.d (.sc (.int .i64 0))),(.nil 42),(.nil 25),(.nil 25)]⟩:=ak.mk' (by kernel_rfl) (by kernel_rfl) rfl ⟨_,Try.underlying123,rfl⟩
theorem zV:ak Try.prog 134 ⟨(.pt 107),1,8, [(.d (.sc (.pointer none)))]⟩:=ak.mk' (by kernel_rfl) (by kernel_rfl) rfl Try.underlying134
theorem zW:ak Try.prog 138 ⟨(.int .i64),1,8, [(.d (.sc (.int .i64 0)))]⟩:=ak.mk' (by kernel_rfl) (by kernel_rfl) rfl Try.underlying138
theorem zX:ak Try.prog 146 ⟨(.int .u32),1,4, [(.d (.sc (.int .u32 0)))]⟩:=ak.mk' (by kernel_rfl) (by kernel_rfl) rfl Try.underlying146
theorem zY:ak Try.prog 157 ⟨(.int .u64),1,8, [(.d (.sc (.int .u64 0)))]⟩:=ak.mk' (by kernel_rfl) (by kernel_rfl) rfl Try.underlying157
theorem zZ:ak Try.prog 161 ⟨(.pt 3),1,8, [(.d (.sc (.pointer none)))]⟩:=ak.mk' (by kernel_rfl) (by kernel_rfl) rfl Try.underlying161
theorem z1:ak Try.prog 168 ⟨(.pt 157),1,8, [(.d (.sc (.pointer none)))]⟩:=ak.mk' (by kernel_rfl) (by kernel_rfl) rfl Try.underlying168
theorem z6:ak Try.prog 191 ⟨(.pt 5),1,8, [(.d (.sc (.pointer none)))]⟩:=ak.mk' (by kernel_rfl) (by kernel_rfl) rfl Try.underlying191
theorem CJ:je Try.prog 42 2:=je.two (by kernel_rfl) (by kernel_rfl) Try.underlying42 (by decide) rfl Try.underlying3 (by decide) rfl Try.underlying3
theorem CK:je Try.prog 74 3:=je.three (by kernel_rfl) (by kernel_rfl) Try.underlying74 (by decide) rfl Try.underlying3 (by decide) rfl Try.underlying3 (by decide) rfl Try.underlying3
set_option maxHeartbeats 4000000 in
theorem E3:∀t ti,T t=some ti→ak Try.prog t ti:=by
 intro t ti h
 unfold T at h
 split at h
 ·cases h;exact EW
 ·cases h;exact EX
 ·cases h;exact EY
 ·cases h;exact EZ
 ·cases h;exact E1
 ·cases h;exact Cg
 ·cases h;exact Ch
 ·cases h;exact Ci
 ·cases h;exact Cj
 ·cases h;exact Ck
 ·cases h;exact Cl
 ·cases h;exact Cm
 ·cases h;exact Co
 ·cases h;exact Cp
 ·cases h;exact Cr
 ·cases h;exact Cs
 ·cases h;exact Ct
 ·cases h;exact Cu
 ·cases h;exact Cv
 ·cases h;exact Cw
 ·cases h;exact Cx
 ·cases h;exact Cy
 ·cases h;exact Cz
 ·cases h;exact CA
 ·cases h;exact CB
 ·cases h;exact CC
 ·cases h;exact CD
 ·cases h;exact CE
 ·cases h;exact CF
 ·cases h;exact CG
 ·cases h;exact CH
 ·cases h;exact CI
 ·cases h;exact zQ
 ·cases h;exact zR
 ·cases h;exact zS
 ·cases h;exact zT
 ·cases h;exact zU
 ·cases h;exact zV
 ·cases h;exact zW
 ·cases h;exact zX
 ·cases h;exact zY
 ·cases h;exact zZ
 ·cases h;exact z1
 ·cases h;exact z6
 ·cases h
theorem E4:∀t n,qe t=some n→je Try.prog t n:=by
 intro t n h
 unfold qe at h
 split at h
 ·cases h;exact CJ
 ·cases h;exact CK
 ·cases h
def cfg (own mR:List Nat):Cfg:=⟨T,own,qe,mR⟩
theorem cfg_T (own mR:List Nat):(cfg own mR).T=T:=rfl
theorem cfg_own (own mR:List Nat):(cfg own mR).own=own:=rfl
theorem cfg_nst (own mR:List Nat):(cfg own mR).mR=mR:=rfl
theorem cfg_eqn (own mR:List Nat):(cfg own mR).qe=qe:=rfl
theorem aB (own mR:List Nat):(cfg own mR).Ok Try.prog:=⟨E3,E4⟩
theorem mixed:Try.prog.follows .mixedOrders=true:=by kernel_rfl
attribute [go_sem] T2 T3 T4 T5 T9 T12 T21 T22 T24 T25 T26 T28 T31 T34 T39 T42 T46 T50 T53 T55 T56 T58 T59 T61 T64 T68 T74 T78 T81 T94 T96 T99 T107 T109 T117 T118 T123 T134 T138 T146 T157 T161 T168 T191 eqn42 eqn74 cfg_T cfg_own cfg_nst cfg_eqn
end Go.Ab.T
end
section
namespace Go.Ab
open Go.Proofs
attribute [local congr] ACall.congr gd.congr Nx.congr
set_option maxRecDepth 10000
def eN (n:Int):AV:= .d (.sc (.int .i64 n))
def eB (b:Bool):AV:= .d (.sc (.bool b))
abbrev Edge:=Int × Int
structure Gr where
 n:Int
 es:List Edge
def rE (e:Edge):List D:= [.sc (.int .i64 e.1), .sc (.int .i64 e.2)]
def rI (n:Int):List D:= [.sc (.int .i64 n)]
def eE (e:Edge):AV:= .agg [.d (.sc (.int .i64 e.1)), .d (.sc (.int .i64 e.2))]
def sE (es:List Edge):D:= .sl 2 (es.map rE)
def sI (l:List Int):D:= .sl 1 (l.map rI)
def eG (g:Gr):AV:= .agg [eN g.n, .d (sE g.es)]
attribute [go_sem] eN eB eE sE sI eG Args AVrs
theorem getD_rE (ps:List Edge) (i:Nat):(ps.map rE).getD i [.sc (.int .i64 0), .sc (.int .i64 0)]= [.sc (.int .i64 (ps.getD i (0,0)).1), .sc (.int .i64 (ps.getD i (0,0)).2)]:=by
 simp only [List.getD_eq_getElem?_getD,List.getElem?_map]
 cases ps[i]? <;>rfl
theorem getD_rI (ps:List Int) (i:Nat):(ps.map rI).getD i [.sc (.int .i64 0)]= [.sc (.int .i64 (ps.getD i 0))]:=by
 simp only [List.getD_eq_getElem?_getD,List.getElem?_map]
 cases ps[i]? <;>rfl
attribute [go_sem] getD_rE getD_rI Int.toNat_natCast List.length_set
def Gs (n:Int):Prop:= -9223372036854775808≤n∧n≤9223372036854775807
def Len (n:Nat):Prop:=n≤9223372036854775807
end Go.Ab
end
section
namespace Go.Ab
open Go.Proofs
attribute [local congr] ACall.congr gd.congr Nx.congr
set_option maxRecDepth 10000
def cV {α:Type} (g:α→Bool) (ps:List α):Int:=match ps.findIdx? g with|some i=>i|none=> -1
theorem j7 {α:Type} {g:α→Bool} {ps:List α} (d:α) (h:∀j,j<ps.length→g (ps.getD j d)=false):cV g ps= -1:=by
 have:ps.findIdx? g=none:=by
  rw [List.findIdx?_eq_none_iff]
  intro x hx
  obtain ⟨j,hj,rfl⟩:=List.getElem_of_mem hx
  simpa [List.getD_eq_getElem?_getD,List.getElem?_eq_getElem hj] using h j hj
 simp [cV,this]
theorem j8 {α:Type} {g:α→Bool} {ps:List α} {d:α} {k:Nat} (hk:k<ps.length) (h:∀j,j<k→g (ps.getD j d)=false) (hg:g (ps.getD k d)=true):cV g ps=k:=by
 have:ps.findIdx? g=some k:=by
  rw [List.findIdx?_eq_some_iff_getElem]
  refine ⟨hk,by simpa [List.getD_eq_getElem?_getD,List.getElem?_eq_getElem hk] using hg,fun j hj=> ?_⟩
  have:=h j hj
  simpa [List.getD_eq_getElem?_getD,List.getElem?_eq_getElem (Nat.lt_trans hj hk)] using this
 simp [cV,this]
theorem lu {α:Type} (g:α→Bool) (ps:List α):decide (0≤cV g ps)=ps.any g:=by
 cases h:ps.findIdx? g with
 |none=>
  have:cV g ps= -1:=by simp [cV,h]
  rw [this]
  rw [List.findIdx?_eq_none_iff] at h
  symm
  simpa using h
 |some i=>
  have:cV g ps=i:=by simp [cV,h]
  rw [this]
  obtain ⟨hi,hg,_⟩:=List.findIdx?_eq_some_iff_getElem.1 h
  have:ps.any g=true:=List.any_eq_true.2 ⟨_,List.getElem_mem hi,hg⟩
  rw [this];simp
theorem nR (rn:List (Nat × Nat)) (h0:rn= []) {m:List (Nat × AObj)} :∀ {r:List (Nat × AObj)},(∀p∈r,look m p.1=some p.2)→leR m rn r
 | [],_=>trivial
 |p::r,h=>by
  subst h0
  have h1:=h p List.mem_cons_self
  refine ⟨?_,nR [] rfl fun q hq=>h q (List.mem_cons_of_mem _ hq)⟩
  have e:renO [] p.2=p.2:=rfl
  show look m p.1=some (renO [] p.2)
  rw [e];exact h1
theorem j9 {m:List (Nat × AObj)} (h:cD m):leR m [] m:=nR [] rfl fun _ hp=>aD h.nd hp
theorem cc {m:List (Nat × AObj)} (hR:cD m) (f:Nat) (caps:List AV) (g:Edge→Bool) (hf:∀p,Spec Try.prog f (Args (eE p::caps)) m (eB (g p)) m) (ps:List Edge) (hl:ps.length≤9223372036854775807):
 Spec Try.prog 68 (Args [.d (sE ps), .fn f [] caps]) m (eN (cV g ps)) m:=by
 (refine Spec.hd (C:=T.cfg [] []) (rs:= [.t 4]) (T.aB _ _) Try.func68 rfl rfl Try.ntmps68 Try.results68 (fun p hp=>⟨(cD.low hR p hp).1,cD.nest hR p hp⟩) (fun p hp=>⟨(cD.low hR p hp).2,cD.nest hR p hp⟩) (by kernel_rfl) T.mixed fun X hX hP hC bN fH=> ?_)
 repeat' (first|refine Rn.p ?_|(with_reducible apply And.intro)|((first|(refine hK _ ?_;clear hK K)|with_reducible intro K hK|refine Rs.p ?_|((with_reducible first|apply oP|apply oQ);exact rfl)|(first|(refine bt hX hC hP hR (hf _) rfl rfl rfl ?_ ?_ rfl rfl ?_;(focus (simp only [go_sem,simprocAttr];done));(focus (first|(intro p hp;exact aD (cD.nd hR) hp)|(simp [go_sem,simprocAttr];done))))|(refine bt hX hC hP hR (hf _) rfl rfl rfl ?_ ?_ ?_ rfl ?_;(focus (simp only [go_sem,simprocAttr];done));(focus (first|(intro p hp;exact aD (cD.nd hR) hp)|(simp [go_sem,simprocAttr];done)));(focus (simp [go_sem,simprocAttr];done)))));try simp only [go_sem,simprocAttr])|((with_reducible refine oD ?_ ?_);kernel_rfl)|((with_reducible intro h);try simp only [go_sem,simprocAttr] at h)|omega|intro h)
 refine aH (fun k:Nat=>k≤ps.length∧∀j,j<k→g (ps.getD j (0,0))=false) (fun k=>⟨[(0, .d (sE ps)),(1, .fn f [] caps),(7,eN ps.length),(8,eN k)],m⟩) (fun k=>ps.length - k) 0 (by simp) ?_ ?_
 ·(refine ⟨cU ?_,fun _ _ h=>h⟩;simp [go_sem,simprocAttr])
 rintro k ⟨hk,hg⟩
 repeat' (first|refine Rn.p ?_|(with_reducible apply And.intro)|((first|(refine hK _ ?_;clear hK K)|with_reducible intro K hK|refine Rs.p ?_|((with_reducible first|apply oP|apply oQ);exact rfl)|(first|(refine bt hX hC hP hR (hf _) rfl rfl rfl ?_ ?_ rfl rfl ?_;(focus (simp only [go_sem,simprocAttr];done));(focus (first|(intro p hp;exact aD (cD.nd hR) hp)|(simp [go_sem,simprocAttr];done))))|(refine bt hX hC hP hR (hf _) rfl rfl rfl ?_ ?_ ?_ rfl ?_;(focus (simp only [go_sem,simprocAttr];done));(focus (first|(intro p hp;exact aD (cD.nd hR) hp)|(simp [go_sem,simprocAttr];done)));(focus (simp [go_sem,simprocAttr];done)))));try simp only [go_sem,simprocAttr])|((with_reducible refine oD ?_ ?_);kernel_rfl)|((with_reducible intro h);try simp only [go_sem,simprocAttr] at h)|omega|intro h)
 ·exact (j8 (by omega) hg h).symm
 ·exact j9 hR
 ·refine ⟨k+1,⟨by omega,fun j hj=> ?_⟩, ?_,by omega⟩
  ·by_cases hjk:j=k
   ·subst hjk;exact h
   ·exact hg j (by omega)
  ·(refine ⟨cU ?_,fun _ _ h=>h⟩;simp [go_sem,simprocAttr])
 ·exact (j7 (0,0) fun j hj=>hg j (by omega)).symm
 ·exact j9 hR
theorem dL {m:List (Nat × AObj)} (hR:cD m) (f:Nat) (caps:List AV) (g:Edge→Bool) (hf:∀p,Spec Try.prog f (Args (eE p::caps)) m (eB (g p)) m) (ps:List Edge) (hl:ps.length≤9223372036854775807):
 Spec Try.prog 37 (Args [.d (sE ps), .fn f [] caps]) m (eB (ps.any g)) m:=by
 (refine Spec.hd (C:=T.cfg [] []) (rs:= [.t 4]) (T.aB _ _) Try.func37 rfl rfl Try.ntmps37 Try.results37 (fun p hp=>⟨(cD.low hR p hp).1,cD.nest hR p hp⟩) (fun p hp=>⟨(cD.low hR p hp).2,cD.nest hR p hp⟩) (by kernel_rfl) T.mixed fun X hX hP hC bN fH=> ?_)
 repeat' (first|refine Rn.p ?_|(with_reducible apply And.intro)|((first|(refine hK _ ?_;clear hK K)|with_reducible intro K hK|refine Rs.p ?_|((with_reducible first|apply oP|apply oQ);exact rfl)|(first|(refine bt hX hC hP hR (cc hR _ _ g hf ps hl) rfl rfl rfl ?_ ?_ rfl rfl ?_;(focus (simp only [go_sem,simprocAttr];done));(focus (first|(intro p hp;exact aD (cD.nd hR) hp)|(simp [go_sem,simprocAttr];done))))|(refine bt hX hC hP hR (cc hR _ _ g hf ps hl) rfl rfl rfl ?_ ?_ ?_ rfl ?_;(focus (simp only [go_sem,simprocAttr];done));(focus (first|(intro p hp;exact aD (cD.nd hR) hp)|(simp [go_sem,simprocAttr];done)));(focus (simp [go_sem,simprocAttr];done)))));try simp only [go_sem,simprocAttr])|((with_reducible refine oD ?_ ?_);kernel_rfl)|((with_reducible intro h);try simp only [go_sem,simprocAttr] at h)|omega|intro h)
 ·exact lu g ps
 ·exact j9 hR
def nS (g:Gr) (x:Int):Bool:=decide (x<0)||decide (g.n≤x)
def kf (g:Gr) (e:Edge):Bool:=nS g e.1||nS g e.2
def aN (g:Gr):Bool:=decide (0<g.n)&&decide (g.n≤64)&&decide ((g.es.length:Int)≤128)&& !g.es.any (kf g)
def rG (g:Gr):AObj:= .rob [eN g.n, .d (sE g.es)]
theorem lz (g:Gr) (x:Int):Spec Try.prog 66 (Args [eN x, .ptr 10000 0]) [(10000,rG g)] (eB (nS g x)) [(10000,rG g)]:=by
 unfold rG
 (refine Spec.hd (C:=T.cfg [] []) (rs:= [.t 3]) (T.aB _ _) Try.func66 rfl rfl Try.ntmps66 Try.results66 (by simp [AObj.isNest]) (by simp [AObj.isNest]) (by kernel_rfl) T.mixed fun X hX hP hC bN fH=> ?_)
 repeat' (first|refine Rn.p ?_|(with_reducible apply And.intro)|((first|(refine hK _ ?_;clear hK K)|with_reducible intro K hK|refine Rs.p ?_|((with_reducible first|apply oP|apply oQ);exact rfl)|(first|(refine bt hX hC hP hR (cc hR _ _ g hf ps hl) rfl rfl rfl ?_ ?_ rfl rfl ?_;(focus (simp only [go_sem,simprocAttr];done));(focus (first|(intro p hp;exact aD (cD.nd hR) hp)|(simp [go_sem,simprocAttr];done))))|(refine bt hX hC hP hR (cc hR _ _ g hf ps hl) rfl rfl rfl ?_ ?_ ?_ rfl ?_;(focus (simp only [go_sem,simprocAttr];done));(focus (first|(intro p hp;exact aD (cD.nd hR) hp)|(simp [go_sem,simprocAttr];done)));(focus (simp [go_sem,simprocAttr];done)))));try simp only [go_sem,simprocAttr])|((with_reducible refine oD ?_ ?_);kernel_rfl)|((with_reducible intro h);try simp only [go_sem,simprocAttr] at h)|omega|intro h)
 ·simp [nS, *]
 ·simp [nS, *]
theorem vv (g:Gr):cD [(10000,rG g)]:=⟨by simp [rG,AObj.ro],by simp [nodupM,look],by simp,by simp [rG,AObj.ids,AV.ids,AV.idss,eN]⟩
def rF:AObj:= .rob [.fn 66 [] [.ptr 10000 0]]
attribute [go_sem] rG rF
theorem ru (g:Gr) (e:Edge):Spec Try.prog 67 (Args [eE e, .ptr 10001 0]) [(10001,rF),(10000,rG g)] (eB (kf g e)) [(10001,rF),(10000,rG g)]:=by
 unfold rF rG
 (refine Spec.hd (C:=T.cfg [] []) (rs:= [.t 3]) (T.aB _ _) Try.func67 rfl rfl Try.ntmps67 Try.results67 (by simp [AObj.isNest]) (by simp [AObj.isNest]) (by kernel_rfl) T.mixed fun X hX hP hC bN fH=> ?_)
 repeat' (first|refine Rn.p ?_|(with_reducible apply And.intro)|((first|(refine hK _ ?_;clear hK K)|with_reducible intro K hK|refine Rs.p ?_|((with_reducible first|apply oP|apply oQ);exact rfl)|(first|(refine bt hX hC hP (vv g) (lz g _) rfl rfl rfl ?_ ?_ rfl rfl ?_;(focus (simp only [go_sem,simprocAttr];done));(focus (first|(intro p hp;exact aD (cD.nd (vv g)) hp)|(simp [go_sem,simprocAttr];done))))|(refine bt hX hC hP (vv g) (lz g _) rfl rfl rfl ?_ ?_ ?_ rfl ?_;(focus (simp only [go_sem,simprocAttr];done));(focus (first|(intro p hp;exact aD (cD.nd (vv g)) hp)|(simp [go_sem,simprocAttr];done)));(focus (simp [go_sem,simprocAttr];done)))));try simp only [go_sem,simprocAttr])|((with_reducible refine oD ?_ ?_);kernel_rfl)|((with_reducible intro h);try simp only [go_sem,simprocAttr] at h)|omega|intro h)
 ·simp [kf, *]
 ·simp [kf, *]
theorem CL (g:Gr):cD [(10001,rF),(10000,rG g)]:=⟨by simp [rG,rF,AObj.ro],by simp [nodupM,look],by simp,by simp [rG,rF,AObj.ids,AV.ids,AV.idss,eN,look]⟩
theorem nT (g:Gr) (hl:g.es.length≤9223372036854775807):Spec Try.prog 36 (Args [eG g]) [] (eB (aN g)) []:=by
 (refine Spec.hd (C:=T.cfg [] []) (rs:= [.t 2]) (T.aB _ _) Try.func36 rfl rfl Try.ntmps36 Try.results36 (by simp [AObj.isNest]) (by simp [AObj.isNest]) (by kernel_rfl) T.mixed fun X hX hP hC bN fH=> ?_)
 repeat' (first|refine Rn.p ?_|(with_reducible apply And.intro)|((first|(refine hK _ ?_;clear hK K)|with_reducible intro K hK|refine Rs.p ?_|((with_reducible first|apply oP|apply oQ);exact rfl)|(refine gp hX hC hP [(10000,1),(10001,3)] (dL (CL g) _ _ (kf g) (ru g) g.es hl) rfl rfl rfl ?_ ?_ ?_ ?_ ?_ ?_ rfl rfl ?_ ?_;(focus (simp only [go_sem,simprocAttr];done));(iterate 6 (focus (simp [go_sem,simprocAttr];done)));try simp only [List.map_cons,List.map_nil]));try simp only [go_sem,simprocAttr])|((with_reducible refine oD ?_ ?_);kernel_rfl)|((with_reducible intro h);try simp only [go_sem,simprocAttr] at h)|omega|intro h)
 all_goals simp [aN, *]
end Go.Ab
end
section
namespace Go.Ab
open Go.Proofs
attribute [local congr] ACall.congr gd.congr Nx.congr
set_option maxRecDepth 10000
def iK (l:List Int) (x:Int):Int:=cV (fun y=>decide (x=y)) l
def E5 (l:List Edge) (x:Edge):Int:=cV (fun y=>decide (x=y)) l
theorem tP (l:List Int) (x:Int):decide (0≤iK l x)=decide (x∈l):=by
 unfold iK;rw [lu,Bool.eq_iff_iff];simp
theorem jc (ps:List Int) (x:Int) (hl:ps.length≤9223372036854775807):
 Spec Try.prog 74 (Args [.d (sI ps),eN x]) [] (eN (iK ps x)) []:=by
 (refine Spec.hd (C:=T.cfg [] []) (rs:= [.t 4]) (T.aB _ _) Try.func74 rfl rfl Try.ntmps74 Try.results74 (by simp [AObj.isNest]) (by simp [AObj.isNest]) (by kernel_rfl) T.mixed fun X hX hP hC bN fH=> ?_)
 repeat' (first|refine Rn.p ?_|(with_reducible apply And.intro)|((first|(refine hK _ ?_;clear hK K)|with_reducible intro K hK|refine Rs.p ?_|((with_reducible first|apply oP|apply oQ);exact rfl));try simp only [go_sem,simprocAttr])|((with_reducible refine oD ?_ ?_);kernel_rfl)|((with_reducible intro h);try simp only [go_sem,simprocAttr] at h)|omega|intro h)
 refine aH (fun k:Nat=>k≤ps.length∧∀j,j<k→decide (x=ps.getD j 0)=false) (fun k=>⟨[(0, .d (sI ps)),(1,eN x),(7,eN ps.length),(8,eN k)], []⟩) (fun k=>ps.length - k) 0 (by simp) ?_ ?_
 ·(refine ⟨cU ?_,fun _ _ h=>h⟩;simp [go_sem,simprocAttr])
 rintro k ⟨hk,hg⟩
 repeat' (first|refine Rn.p ?_|(with_reducible apply And.intro)|((first|(refine hK _ ?_;clear hK K)|with_reducible intro K hK|refine Rs.p ?_|((with_reducible first|apply oP|apply oQ);exact rfl));try simp only [go_sem,simprocAttr])|((with_reducible refine oD ?_ ?_);kernel_rfl)|((with_reducible intro h);try simp only [go_sem,simprocAttr] at h)|omega|intro h)
 ·exact (j8 (by omega) hg (by simpa using h)).symm
 ·refine ⟨k+1,⟨by omega,fun j hj=> ?_⟩, ?_,by omega⟩
  ·by_cases hjk:j=k
   ·subst hjk;simpa using h
   ·simpa using hg j (by omega)
  ·(refine ⟨cU ?_,fun _ _ h=>h⟩;simp [go_sem,simprocAttr])
 ·exact (j7 0 fun j hj=>hg j (by omega)).symm
theorem kg (ps:List Int) (x:Int) (hl:ps.length≤9223372036854775807):
 Spec Try.prog 50 (Args [.d (sI ps),eN x]) [] (eB (decide (x∈ps))) []:=by
 rw [← tP]
 (refine Spec.hd (C:=T.cfg [] []) (rs:= [.t 4]) (T.aB _ _) Try.func50 rfl rfl Try.ntmps50 Try.results50 (by simp [AObj.isNest]) (by simp [AObj.isNest]) (by kernel_rfl) T.mixed fun X hX hP hC bN fH=> ?_)
 repeat' (first|refine Rn.p ?_|(with_reducible apply And.intro)|((first|(refine hK _ ?_;clear hK K)|with_reducible intro K hK|refine Rs.p ?_|((with_reducible first|apply oP|apply oQ);exact rfl)|refine ag hX hC hP (jc ps x hl) rfl rfl rfl (by simp only [go_sem,simprocAttr]) rfl ?_);try simp only [go_sem,simprocAttr])|((with_reducible refine oD ?_ ?_);kernel_rfl)|((with_reducible intro h);try simp only [go_sem,simprocAttr] at h)|omega|intro h)
theorem ry {α:Type} {xs ys:List α} (d:α) {k:Nat} (h1:k<xs.length) (h2:k<ys.length) (h:xs.take k=ys.take k) (he:xs.getD k d=ys.getD k d):xs.take (k+1)=ys.take (k+1):=by
 rw [List.take_add_one,List.take_add_one,h,List.getElem?_eq_getElem h1,List.getElem?_eq_getElem h2]
 simp only [List.getD_eq_getElem?_getD,List.getElem?_eq_getElem h1,List.getElem?_eq_getElem h2,Option.getD_some] at he
 rw [he]
theorem kP (xs ys:List Int) (hlen:xs.length≤9223372036854775807):Spec Try.prog 22 (Args [.d (sI xs), .d (sI ys)]) [] (eB (decide (xs=ys))) []:=by
 (refine Spec.hd (C:=T.cfg [] []) (rs:= [.t 4]) (T.aB _ _) Try.func22 rfl rfl Try.ntmps22 Try.results22 (by simp [AObj.isNest]) (by simp [AObj.isNest]) (by kernel_rfl) T.mixed fun X hX hP hC bN fH=> ?_)
 repeat' (first|refine Rn.p ?_|(with_reducible apply And.intro)|((first|(refine hK _ ?_;clear hK K)|with_reducible intro K hK|refine Rs.p ?_|((with_reducible first|apply oP|apply oQ);exact rfl));try simp only [go_sem,simprocAttr])|((with_reducible refine oD ?_ ?_);kernel_rfl)|((with_reducible intro h);try simp only [go_sem,simprocAttr] at h)|omega|intro h)
 ·have:xs≠ys:=fun e=>h (by rw [e])
  simp [this]
 refine aH (fun k:Nat=>k≤xs.length∧xs.take k=ys.take k) (fun k=>⟨[(0, .d (sI xs)),(1, .d (sI ys)),(5,eN k)], []⟩) (fun k=>xs.length - k) 0 (by simp) ?_ ?_
 ·(refine ⟨cU ?_,fun _ _ h=>h⟩;simp [go_sem,simprocAttr])
 rintro k ⟨hk,hp⟩
 have sj:xs.length=ys.length:=by omega
 repeat' (first|refine Rn.p ?_|(with_reducible apply And.intro)|((first|(refine hK _ ?_;clear hK K)|with_reducible intro K hK|refine Rs.p ?_|((with_reducible first|apply oP|apply oQ);exact rfl));try simp only [go_sem,simprocAttr])|((with_reducible refine oD ?_ ?_);kernel_rfl)|((with_reducible intro h);try simp only [go_sem,simprocAttr] at h)|omega|intro h)
 ·have:xs≠ys:=fun e=>h (by rw [e])
  simp [this]
 ·refine ⟨k+1,⟨by omega,ry 0 (by omega) (by omega) hp h⟩, ?_,by omega⟩
  (refine ⟨cU ?_,fun _ _ h=>h⟩;simp [go_sem,simprocAttr])
 ·have:k=xs.length:=by omega
  subst this
  rw [List.take_of_length_le (Nat.le_refl _),List.take_of_length_le (by omega)] at hp
  simp [hp]
theorem tQ {α:Type} {f:α→Bool} {xs:List α} (d:α) {k:Nat} (h1:k<xs.length) (h:(xs.take k).any f=false) (he:f (xs.getD k d)=false):(xs.take (k+1)).any f=false:=by
 rw [List.take_add_one,List.any_append,h,List.getElem?_eq_getElem h1]
 simp only [List.getD_eq_getElem?_getD,List.getElem?_eq_getElem h1,Option.getD_some] at he
 simp [he]
theorem xQ {α:Type} {f:α→Bool} {xs:List α} {d:α} {k:Nat} (h1:k<xs.length) (he:f (xs.getD k d)=true):xs.any f=true:=by
 rw [List.any_eq_true]
 refine ⟨_,List.getElem_mem h1, ?_⟩
 simpa only [List.getD_eq_getElem?_getD,List.getElem?_eq_getElem h1,Option.getD_some] using he
theorem nU {g:Gr} {k:Nat} (h1:k<g.es.length) (he:kf g (g.es.getD k (0,0))=true):false=aN g:=by
 simp [aN,xQ h1 he]
theorem nV (g:Gr) (hl:g.es.length≤9223372036854775807):Spec Try.prog 45 (Args [eG g]) [] (eB (aN g)) []:=by
 (refine Spec.hd (C:=T.cfg [] []) (rs:= [.t 2]) (T.aB _ _) Try.func45 rfl rfl Try.ntmps45 Try.results45 (by simp [AObj.isNest]) (by simp [AObj.isNest]) (by kernel_rfl) T.mixed fun X hX hP hC bN fH=> ?_)
 repeat' (first|refine Rn.p ?_|(with_reducible apply And.intro)|((first|(refine hK _ ?_;clear hK K)|with_reducible intro K hK|refine Rs.p ?_|((with_reducible first|apply oP|apply oQ);exact rfl));try simp only [go_sem,simprocAttr])|((with_reducible refine oD ?_ ?_);kernel_rfl)|((with_reducible intro h);try simp only [go_sem,simprocAttr] at h)|omega|intro h)
 any_goals (simp [aN];omega)
 refine aH (fun k:Nat=>k≤g.es.length∧(g.es.take k).any (kf g)=false) (fun k=>⟨[(1, .ptr 1 0),(3,eN k)], [(1, .box [eN g.n, .d (sE g.es)])]⟩) (fun k=>g.es.length - k) 0 (by simp) ?_ ?_
 ·(refine Le.of ?_ ?_<;>simp [go_sem,simprocAttr])
 rintro k ⟨hk,hp⟩
 repeat' (first|refine Rn.p ?_|(with_reducible apply And.intro)|((first|(refine hK _ ?_;clear hK K)|with_reducible intro K hK|refine Rs.p ?_|((with_reducible first|apply oP|apply oQ);exact rfl));try simp only [go_sem,simprocAttr])|((with_reducible refine oD ?_ ?_);kernel_rfl)|((with_reducible intro h);try simp only [go_sem,simprocAttr] at h)|omega|intro h)
 any_goals (refine nU (k:=k) (by omega) ?_;simp only [kf,nS,Bool.or_eq_true,decide_eq_true_eq];omega)
 ·refine ⟨k+1,⟨by omega,tQ (0,0) (by omega) hp ?_⟩, ?_,by omega⟩
  ·simp only [kf,nS,Bool.or_eq_false_iff,decide_eq_false_iff_not];omega
  ·(refine Le.of ?_ ?_<;>simp [go_sem,simprocAttr])
 ·rw [List.take_of_length_le (by omega)] at hp
  simp [aN,hp];omega
end Go.Ab
end
section
namespace Go.Ab
open Go.Proofs
attribute [local congr] ACall.congr gd.congr Nx.congr
set_option maxRecDepth 10000
set_option maxHeartbeats 8000000
def qx (f:Edge→Int) (es:List Edge) (k:Nat) (x:Nat):List Int:=((List.range k).filter fun i=>decide (f (es.getD i (0,0))=(x:Int))).map Int.ofNat
def DI (f:Edge→Int) (es:List Edge) (n k:Nat):List (List (List D)):=(List.range n).map fun x=>(qx f es k x).map rI
def sL (ls:List (List Int)):D:= .sl 1 (ls.map fun l=> [sI l])
def nW (f:Edge→Int) (g:Gr):List (List Int):=(List.range g.n.toNat).map (qx f g.es g.es.length)
def vw (g:Gr):D:= .pt [.sc (.int .i64 g.n),sE g.es,sL (nW (·.1) g),sL (nW (·.2) g)]
theorem dM {g:Gr} (h:aN g=true):0<g.n∧g.n≤64∧g.es.length≤128:=by
 simp [aN] at h;omega
theorem ee {g:Gr} (h:aN g=true) {k:Nat} (hk:k<g.es.length):(0≤(g.es.getD k (0,0)).1∧(g.es.getD k (0,0)).1<g.n)∧(0≤(g.es.getD k (0,0)).2∧(g.es.getD k (0,0)).2<g.n):=by
 have h2:=nU (g:=g) hk
 rw [h] at h2
 have h3:¬kf g (g.es.getD k (0,0))=true:=fun e=>by simpa using h2 e
 simp only [kf,nS,Bool.or_eq_true,decide_eq_true_eq] at h3
 omega
end Go.Ab
end
section
namespace Go.Ab
open Go.Proofs
attribute [local congr] ACall.congr gd.congr Nx.congr
set_option maxRecDepth 10000
def tl (g:Gr) (i:Nat):Int:=(g.es.getD i (0,0)).1
def hd (g:Gr) (i:Nat):Int:=(g.es.getD i (0,0)).2
def wt (g:Gr) (out:List Int) (y:Nat):Int:=
 if (y:Int)∈out then -1 else (((List.range g.es.length).countP fun i=>decide (hd g i=(y:Int))&& !decide (tl g i∈out):Nat):Int)
def xR (g:Gr) (out:List Int):List Int:=(List.range g.n.toNat).map (wt g out)
def z7 (g:Gr):Nat→List Int→List Int
 |0,out=>out
 |f+1,out=>if iK (xR g out) 0<0 then out else z7 g f (out++ [iK (xR g out) 0])
def tR (g:Gr):List Int:=z7 g g.n.toNat []
structure iL (g:Gr) (out:List Int):Prop where
 lo:∀x∈out,0≤x∧x<g.n
 back:∀i,i<g.es.length→hd g i∈out→tl g i∈out
 fuel:out.length+(List.range g.n.toNat).countP (fun y:Nat=> !decide ((y:Int)∈out))=g.n.toNat
theorem wts_length {g:Gr} {out:List Int} :(xR g out).length=g.n.toNat:=by simp [xR]
theorem fS {p:Nat→Bool} {x:Nat} (hx:p x=true):∀ {n:Nat},x<n→(List.range n).countP (fun y=>p y&& !decide (y=x))+1=(List.range n).countP p
 |0,h=>by omega
 |n+1,h=>by
  rw [List.range_succ,List.countP_append,List.countP_append]
  by_cases xS:x=n
  ·subst xS
   have:(List.range x).countP (fun y=>p y&& !decide (y=x))=(List.range x).countP p:=by
    refine List.countP_congr fun y hy=> ?_
    have:y≠x:=by have:=List.mem_range.1 hy;omega
    simp [this]
   rw [this]
   simp [List.countP_cons,hx]
  ·have:=fS hx (n:=n) (by omega)
   have hn:n≠x:=fun e=>xS e.symm
   simp only [List.countP_cons,List.countP_nil,hn,decide_false,Bool.not_false,Bool.and_true]
   omega
theorem iL.nil (g:Gr):iL g []:=⟨by simp,by simp,by rw [List.countP_eq_length_filter,List.filter_eq_self.2 (by simp)];simp⟩
theorem iL.next {g:Gr} (hm:aN g=true) {out:List Int} (h:iL g out) {x:Nat} (hx:x<g.n.toNat) (hw:wt g out x=0):iL g (out++ [(x:Int)])∧(x:Int)∉out∧(∀i,i<g.es.length→hd g i=x→tl g i∈out):=by
 have xD:(x:Int)∉out:=fun hi=>by simp [wt,hi] at hw
 have hb:∀i,i<g.es.length→hd g i=x→tl g i∈out:=by
  intro i hi he
  simp only [wt,xD,if_false] at hw
  have:=List.countP_eq_zero.1 (Int.ofNat.inj hw) i (List.mem_range.2 hi)
  simpa [he] using this
 refine ⟨⟨?_, ?_, ?_⟩,xD,hb⟩
 ·intro y hy
  rcases List.mem_append.1 hy with hy|hy
  ·exact h.lo y hy
  ·simp at hy;omega
 ·intro i hi hh
  rcases List.mem_append.1 hh with hh|hh
  ·exact List.mem_append_left _ (h.back i hi hh)
  ·simp at hh
   exact List.mem_append_left _ (hb i hi hh)
 ·have h1:=h.fuel
  have h2:=fS (p:=fun y:Nat=> !decide ((y:Int)∈out)) (x:=x) (by simp [xD]) hx
  have h3:(List.range g.n.toNat).countP (fun y:Nat=> !decide ((y:Int)∈out++ [(x:Int)]))=(List.range g.n.toNat).countP (fun y:Nat=>(!decide ((y:Int)∈out))&& !decide (y=x)):=by
   refine List.countP_congr fun y _=> ?_
   simp;omega
  rw [h3,List.length_append,List.length_singleton]
  omega
def CM (g:Gr) (x:Nat):List Int:=qx (·.1) g.es g.es.length x
def E6 (g:Gr) (x:Nat):List Int:=qx (·.2) g.es g.es.length x
def E7 (g:Gr) (out:List Int) (x j y:Nat):Int:=
 if (y:Int)∈out++ [(x:Int)] then -1 else (((List.range g.es.length).countP fun i=>decide (hd g i=(y:Int))&& !decide (tl g i∈out):Nat):Int) - (((CM g x).take j).countP fun e=>decide (hd g e.toNat=(y:Int)):Nat)
def z8 (g:Gr) (out:List Int) (x j:Nat):List Int:=(List.range g.n.toNat).map (E7 g out x j)
theorem wtps_length {g:Gr} {out:List Int} {x j:Nat} :(z8 g out x j).length=g.n.toNat:=by simp [z8]
def Bc (f:Edge→Int) (g:Gr):List (List D):=(nW f g).map fun l=> [sI l]
theorem vwl_length {f:Edge→Int} {g:Gr} :(Bc f g).length=g.n.toNat:=by simp [Bc,nW]
def E8 (g:Gr):D:= .pt [.sc (.int .i64 g.n),sE g.es, .sl 1 (Bc (·.1) g), .sl 1 (Bc (·.2) g)]
attribute [go_sem] E8 wtps_length wts_length vwl_length
def left (g:Gr) (out:List Int):Nat:=(List.range g.n.toNat).countP (fun y:Nat=> !decide ((y:Int)∈out))
end Go.Ab
end
section
namespace Go.Ab
open Go.Proofs
attribute [local congr] ACall.congr gd.congr Nx.congr
set_option maxRecDepth 10000
def DJ (l:List Int) (k:Nat):List Int:=(List.range l.length).map fun p=>if p<k∨l.length - 1<p+k then l.getD (l.length - 1 - p) 0 else l.getD p 0
def xT:List Int→Int
 | []=>0
 |a::r=>r.foldl min a
end Go.Ab
end
section
namespace Go.Ab
open Go.Proofs
attribute [local congr] ACall.congr gd.congr Nx.congr
set_option maxRecDepth 10000
def vL (ls:List (List Int)):List (List D):=ls.map fun l=> [sI l]
theorem vL_length {ls:List (List Int)} :(vL ls).length=ls.length:=by simp [vL]
attribute [go_sem] vL_length
def Aa (ls:List (List Int)) (k:Nat):List Int:=((List.range k).filter fun x=>decide ((ls.getD x []).length=0)).map Int.ofNat
def tS (f:Edge→Int) (g:Gr):List Int:=Aa (nW f g) g.n.toNat
end Go.Ab
end
section
namespace Go.Ab
open Go.Proofs
attribute [local congr] ACall.congr gd.congr Nx.congr
set_option maxRecDepth 10000
def Ac (g:Gr) (ws:List Int) (b:Int) (e:Int):Int:=if 0<ws.getD (tl g e.toNat).toNat 0∧(b<0∨tl g e.toNat<b) then tl g e.toNat else b
def Ad (g:Gr) (ws:List Int) (es:List Int):Int:=es.foldl (Ac g ws) (-1)
def Ae (g:Gr) (ws:List Int) (at_:Int):Int:=Ad g ws (E6 g at_.toNat)
def Af (g:Gr) (ws:List Int):Nat→List Int→Int→List Int × Int
 |0,way,at_=>(way,at_)
 |f+1,way,at_=>if at_<0∨at_∈way then (way,at_) else Af g ws f (way++ [at_]) (Ae g ws at_)
def vA (g:Gr):List Int × Int:=Af g (xR g (tR g)) g.n.toNat [] (cV (fun n=>decide (0<n)) (xR g (tR g)))
def Ag (l:List Int):List Int:=l.drop (iK l (xT l)).toNat++l.take (iK l (xT l)).toNat
def CN (g:Gr):List Int:=if (vA g).2<0 then [] else Ag ((vA g).1.drop (iK (vA g).1 (vA g).2).toNat).reverse
structure Way (g:Gr) (way:List Int):Prop where
 lo:∀x∈way,0≤x∧x<g.n
 fuel:way.length+left g way=g.n.toNat
theorem tT {g:Gr} :left g []=g.n.toNat:=by
 have:=(iL.nil g).fuel
 rw [List.length_nil,Nat.zero_add] at this
 exact this
theorem tU {g:Gr} {way:List Int} {a:Nat} (ha:a<g.n.toNat) (hn:(a:Int)∉way):left g way=left g (way++ [(a:Int)])+1:=by
 unfold left
 rw [← fS (p:=fun y:Nat=> !decide ((y:Int)∈way)) (x:=a) (by simp [hn]) ha]
 congr 1
 refine List.countP_congr fun y _=> ?_
 simp;omega
theorem Way.nil (g:Gr):Way g []:=⟨by simp,by rw [tT];simp⟩
theorem Way.next {g:Gr} {way:List Int} {a:Nat} (h:Way g way) (ha:a<g.n.toNat) (hn:(a:Int)∉way):Way g (way++ [(a:Int)]):=by
 refine ⟨fun x hx=> ?_, ?_⟩
 ·rcases List.mem_append.1 hx with hx|hx
  ·exact h.lo x hx
  ·simp at hx;omega
 ·have h1:=h.fuel
  have h2:=tU ha hn
  rw [List.length_append,List.length_singleton];omega
end Go.Ab
end
section
namespace Go.Ab
open Go.Proofs
attribute [local congr] ACall.congr gd.congr Nx.congr
set_option maxRecDepth 10000
def eF (f:Int × Int × List Int):AV:= .agg [eN f.1,eN f.2.1, .d (sI f.2.2)]
attribute [go_sem] eF
def wo (g:Gr):Int:=cV (fun e:Edge=>decide (e.1=e.2)) g.es
def xU (g:Gr) (i:Nat):Bool:=decide (g.es.getD i (0,0)∈g.es.take i)
def tV (g:Gr):Int:=cV (xU g) (List.range g.es.length)
def wq (g:Gr) (DK bare:List Int):Int × Int × List Int:=
 if aN g=false then (1,0, []) else
 if 0≤wo g then (13,wo g, []) else
 if 0≤tV g then (14,tV g, []) else
 if 0<DK.length then (15,0,DK) else
 if 1<bare.length then (16,0,bare.take 2) else (0,0, [])
def Ah (g:Gr):Int × Int × List Int:=wq g (CN g) (tS (·.2) g)
end Go.Ab
end
section
namespace Go.Ab
open Go.Proofs
attribute [local congr] ACall.congr gd.congr Nx.congr
set_option maxRecDepth 10000
def tW (f:Edge→Int) (es:List Edge) (k:Nat) (x:Int):List Int:=((List.range k).filter fun i=>decide (f (es.getD i (0,0))=x)).map Int.ofNat
def E9 (b:Bool) (e:Edge):Int:=if b then e.1 else e.2
end Go.Ab
end
section
namespace Go.Ab
open Go.Proofs
attribute [local congr] ACall.congr gd.congr Nx.congr
set_option maxRecDepth 10000
def rB (b:Bool):List D:= [.sc (.bool b)]
def sB (l:List Bool):D:= .sl 1 (l.map rB)
theorem getD_rB (l:List Bool) (i:Nat):(l.map rB).getD i [.sc (.bool false)]= [.sc (.bool (l.getD i false))]:=by
 simp only [List.getD_eq_getElem?_getD,List.getElem?_map]
 cases l[i]? <;>rfl
attribute [go_sem] getD_rB sB
theorem pH (l:List Bool) (k:Nat) (v:Bool):(l.map rB).set k [.sc (.bool v)]=(l.set k v).map rB:=by
 rw [List.map_set];rfl
def qy (n k:Nat):List Bool:=(List.range n).map fun y=>decide (y<k)
def tX (g:Gr) (l:List Bool) (j:Nat):List Bool:=(List.range g.n.toNat).map fun y:Nat=>(List.range j).any fun i=>decide (hd g i=(y:Int))&&(l.getD (tl g i).toNat false&&l.getD (hd g i).toNat false)
def tY (g:Gr):Nat→List Bool
 |0=>qy g.n.toNat g.n.toNat
 |k+1=>tX g (tY g k) g.es.length
theorem trueK_length {n k:Nat} :(qy n k).length=n:=by simp [qy]
theorem nextK_length {g:Gr} {l:List Bool} {j:Nat} :(tX g l j).length=g.n.toNat:=by simp [tX]
theorem leftK_length {g:Gr} {k:Nat} :(tY g k).length=g.n.toNat:=by
 cases k
 ·exact trueK_length
 ·exact nextK_length
attribute [go_sem] trueK_length nextK_length leftK_length
end Go.Ab
end
section
namespace Go.Ab
open Go.Proofs
attribute [local congr] ACall.congr gd.congr Nx.congr
set_option maxRecDepth 10000
def CO (g:Gr):List Bool:=tY g g.n.toNat
def DL (g:Gr):Int:=if cV (fun b:Bool=>b) (CO g)<0 then g.n else cV (fun b:Bool=>b) (CO g)
def xV (g:Gr) (x:Int) (b:Int) (i:Nat):Int:=if hd g i=x∧(CO g).getD (tl g i).toNat false=true then min b (tl g i) else b
def Ai (g:Gr) (x:Int) (k:Nat):Int:=(List.range k).foldl (xV g x) g.n
def Aj (g:Gr):Nat→List Int→Int→List Int × Int
 |0,way,x=>(way,x)
 |f+1,way,x=>if x∈way then (way,x) else Aj g f (way++ [x]) (Ai g x g.es.length)
def gx (g:Gr):Gr:=⟨g.n+1,g.es⟩
def tZ (g:Gr):List Int × Int:=Aj g (g.n.toNat+1) [] (DL g)
def CP (l:List Int) (m k:Nat):List Int:=(List.range k).map fun i=>l.getD ((m+l.length - i) % l.length) 0
def Ak (l:List Int):List Int:=CP l (iK l (xT l)).toNat l.length
def Al (g:Gr):List Int:=if DL g=g.n then [] else Ak ((tZ g).1.drop (iK (tZ g).1 (tZ g).2).toNat)
end Go.Ab
end
section
namespace Go.Ab
open Go.Proofs
attribute [local congr] ACall.congr gd.congr Nx.congr
set_option maxRecDepth 10000
def DM (g:Gr):Int × Int × List Int:=wq g (Al g) (tS (·.2) g)
end Go.Ab
end
section
namespace Go.Ab
def Ord (g:Gr) (out:List Int):Prop:=∀p,p<out.length→∀i,i<g.es.length→hd g i=out.getD p 0→tl g i∈out.take p
theorem ua {l r:List Int} {p:Nat} (h:p<l.length):(l++r).getD p 0=l.getD p 0:=by
 rw [List.getD_eq_getElem?_getD,List.getD_eq_getElem?_getD,List.getElem?_append_left h]
theorem Ord.next {g:Gr} {out:List Int} (h:Ord g out) {x:Nat} (hb:∀i,i<g.es.length→hd g i=x→tl g i∈out):Ord g (out++ [(x:Int)]):=by
 intro p hp i hi hh
 rw [List.length_append,List.length_singleton] at hp
 by_cases gM:p<out.length
 ·rw [ua gM] at hh
  have:=h p gM i hi hh
  rw [List.take_append_of_le_length (by omega)]
  exact this
 ·have hpe:p=out.length:=by omega
  subst hpe
  rw [List.getD_eq_getElem?_getD,List.getElem?_append_right (by omega)] at hh
  simp at hh
  rw [List.take_append_of_le_length (by omega),List.take_of_length_le (by omega)]
  exact hb i hi hh
def Q (g:Gr) (a:Nat) (t:Int):Prop:=∃i,i<g.es.length∧hd g i=(a:Int)∧tl g i=t∧t∉tR g
theorem uc {g:Gr} (hm:aN g=true) {i:Nat} (hi:i<g.es.length):0≤tl g i∧tl g i<g.n:=(ee hm hi).1
theorem ud {g:Gr} (hm:aN g=true) {i:Nat} (hi:i<g.es.length):0≤hd g i∧hd g i<g.n:=(ee hm hi).2
end Go.Ab
end
section
namespace Go.Ab
set_option maxRecDepth 10000
set_option linter.unusedSectionVars false
structure UG where
 n:Nat
 m:Nat
 T:Nat→Nat
 H:Nat→Nat
namespace UG
structure Ok (G:UG):Prop where
 t:∀i,i<G.m→G.T i<G.n
 h:∀i,i<G.m→G.H i<G.n
 ne:∀i,i<G.m→G.T i≠G.H i
def J (G:UG) (i x y:Nat):Prop:=i<G.m∧(G.T i=x∧G.H i=y∨G.T i=y∧G.H i=x)
variable {G:UG}
theorem J.symm {i x y:Nat} (h:G.J i x y):G.J i y x:=⟨h.1,h.2.symm⟩
theorem J.two {i x y a b:Nat} (h:G.J i x y) (h':G.J i a b):a=x∧b=y∨a=y∧b=x:=by
 obtain ⟨_,h⟩:=h
 obtain ⟨_,h'⟩:=h'
 omega
theorem J.snd {i x y b:Nat} (h:G.J i x y) (h':G.J i x b):b=y:=by
 obtain ⟨_,h⟩:=h
 obtain ⟨_,h'⟩:=h'
 omega
theorem J.lt (hG:G.Ok) {i x y:Nat} (h:G.J i x y):x<G.n∧y<G.n∧x≠y:=by
 have h1:=hG.t i h.1
 have h2:=hG.h i h.1
 have h3:=hG.ne i h.1
 obtain ⟨_,h⟩:=h
 omega
theorem J.self {i:Nat} (h:i<G.m):G.J i (G.T i) (G.H i):=⟨h, .inl ⟨rfl,rfl⟩⟩
inductive Cn (G:UG) (A:Nat→Prop) (x:Nat):Nat→Prop
 |refl:A x→Cn G A x x
 |step {y z i:Nat} :Cn G A x y→G.J i y z→A z→Cn G A x z
theorem Cn.fst {A:Nat→Prop} {x y:Nat} (h:G.Cn A x y):A x:=by
 induction h with
 |refl h=>exact h
 |step _ _ _ ih=>exact ih
theorem Cn.yJ {A:Nat→Prop} {x y:Nat} (h:G.Cn A x y):A y:=by
 cases h with
 |refl h=>exact h
 |step _ _ h=>exact h
theorem Cn.trans {A:Nat→Prop} {x y z:Nat} (h:G.Cn A x y) (k:G.Cn A y z):G.Cn A x z:=by
 induction k with
 |refl _=>exact h
 |step _ j a ih=>exact .step ih j a
theorem Cn.one {A:Nat→Prop} {x y i:Nat} (h:G.J i x y) (hx:A x) (hy:A y):G.Cn A x y:= .step (.refl hx) h hy
theorem Cn.symm {A:Nat→Prop} {x y:Nat} (h:G.Cn A x y):G.Cn A y x:=by
 induction h with
 |refl h=>exact .refl h
 |step h j a ih=>exact (Cn.one j.symm a h.yJ).trans ih
theorem Cn.mono {A B:Nat→Prop} (DN:∀v,A v→B v) {x y:Nat} (h:G.Cn A x y):G.Cn B x y:=by
 induction h with
 |refl h=>exact .refl (DN _ h)
 |step _ j a ih=>exact .step ih j (DN _ a)
def R (G:UG) (i k:Nat):Prop:=∃v a b,G.J i v a∧G.J k v b∧G.Cn (fun u=>u≠v) a b
theorem R.symm {i k:Nat} (h:G.R i k):G.R k i:=by
 obtain ⟨v,a,b,h1,h2,h3⟩:=h
 exact ⟨v,b,a,h2,h1,h3.symm⟩
theorem R.lt {i k:Nat} (h:G.R i k):i<G.m∧k<G.m:=by
 obtain ⟨v,a,b,h1,h2,h3⟩:=h
 exact ⟨h1.1,h2.1⟩
inductive Sm (G:UG) (i:Nat):Nat→Prop
 |refl:Sm G i i
 |step {j k:Nat} :Sm G i j→G.R j k→Sm G i k
theorem Sm.trans {i j k:Nat} (h:G.Sm i j) (h':G.Sm j k):G.Sm i k:=by
 induction h' with
 |refl=>exact h
 |step _ r ih=>exact .step ih r
theorem Sm.symm {i j:Nat} (h:G.Sm i j):G.Sm j i:=by
 induction h with
 |refl=>exact .refl
 |step _ r ih=>exact (Sm.step .refl r.symm).trans ih
theorem Sm.lt {i j:Nat} (h:G.Sm i j) (hi:i<G.m):j<G.m:=by
 cases h with
 |refl=>exact hi
 |step _ r=>exact r.lt.2
def sq (G:UG) (b:List Nat):Prop:=∃i,i<G.m∧i∈b∧∀k,k∈b↔G.Sm i k
theorem sq.step {b:List Nat} (h:G.sq b) {j k:Nat} (hj:j∈b) (r:G.R j k):k∈b:=by
 obtain ⟨i,_,_,h2⟩:=h
 exact (h2 k).2 (.step ((h2 j).1 hj) r)
structure Sc where
 num:List Nat
 low:List Nat
 cnt:Nat
 stk:List Nat
 blk:List (List Nat)
def Sc.nm (s:Sc) (v:Nat):Nat:=s.num.getD v 0
def Sc.lw (s:Sc) (v:Nat):Nat:=s.low.getD v 0
def sr (G:UG) (i x:Nat):Nat:=G.T i+G.H i - x
def ends (G:UG) (x:Nat):List Nat:=(List.range G.m).filter fun i=>decide (G.T i=x)||decide (G.H i=x)
def fm (so:List Nat→List Nat) (s:Sc) (i:Nat):Sc:= {s with blk:=s.blk++ [so (s.stk.drop (s.stk.idxOf i))],stk:=s.stk.take (s.stk.idxOf i)}
def bP (G:UG) (so:List Nat→List Nat) (vis:Nat→Nat→Sc→Sc) (x:Nat) (aq:Option Nat) (s:Sc) (i:Nat):Sc:=
 if some i=aq then s
 else if s.nm (G.sr i x)=0 then
  let s1:=vis (G.sr i x) i {s with stk:=s.stk++ [i]}
  let s2:= {s1 with low:=s1.low.set x (min (s1.lw x) (s1.lw (G.sr i x)))}
  if s2.nm x≤s2.lw (G.sr i x) then fm so s2 i else s2
 else if s.nm (G.sr i x)<s.nm x then {s with stk:=s.stk++ [i],low:=s.low.set x (min (s.lw x) (s.nm (G.sr i x)))}
 else s
def iC (s:Sc) (x:Nat):Sc:= {s with cnt:=s.cnt+1,num:=s.num.set x (s.cnt+1),low:=s.low.set x (s.cnt+1)}
def cz (G:UG) (so:List Nat→List Nat):Nat→Nat→Option Nat→Sc→Sc
 |0,_,_,s=>s
 |f+1,x,aq,s=>(G.ends x).foldl (bP G so (fun y i=>cz G so f y (some i)) x aq) (iC s x)
def kQ (G:UG) (so:List Nat→List Nat) (s:Sc) (x:Nat):Sc:=if s.nm x=0 then cz G so (G.n+1) x none s else s
def bD (G:UG):Sc:=⟨List.replicate G.n 0,List.replicate G.n 0,0, [], []⟩
def bK (G:UG) (so:List Nat→List Nat):List (List Nat):=((List.range G.n).foldl (kQ G so) (bD G)).blk
theorem eM {i x:Nat} :i∈G.ends x↔∃y,G.J i x y:=by
 unfold ends J
 simp only [List.mem_filter,List.mem_range,Bool.or_eq_true,decide_eq_true_eq]
 constructor
 ·rintro ⟨h,h1|h1⟩
  ·exact ⟨_,h, .inl ⟨h1,rfl⟩⟩
  ·exact ⟨_,h, .inr ⟨rfl,h1⟩⟩
 ·rintro ⟨y,h,h1|h1⟩
  ·exact ⟨h, .inl h1.1⟩
  ·exact ⟨h, .inr h1.2⟩
theorem mw {x:Nat} :(G.ends x).Nodup:=List.nodup_range.filter _
theorem mz {i x y:Nat} (h:G.J i x y):G.sr i x=y:=by
 obtain ⟨_,h⟩:=h
 unfold sr
 omega
def Am (G:UG):List Nat→Prop
 |a::b::r=>(∃k,G.J k b a)∧Am G (b::r)
 |_=>True
theorem Am.cn:∀ {P:List Nat} {x:Nat},G.Am (x::P)→∀w∈x::P,G.Cn (fun v=>v∈x::P) w x
 | [],x,_,w,hw=>by
   simp only [List.mem_singleton] at hw
   subst hw
   exact .refl (by simp)
 |b::r,x,h,w,hw=>by
  obtain ⟨⟨k,hk⟩,h2⟩:=h
  rcases List.mem_cons.1 hw with rfl|hw
  ·exact .refl (by simp)
  ·exact .step ((Am.cn h2 w hw).mono fun v hv=>List.mem_cons_of_mem _ hv) hk (by simp)
structure DO (G:UG) (s:Sc) (P:List Nat):Prop where
 met:∀w∈P,w<G.n∧s.nm w≠0
 dec:P.Pairwise fun a b=>s.nm b<s.nm a
 CQ:G.Am P
structure Pre (G:UG) (s:Sc) (y:Nat) (aq:Option Nat) (P:List Nat):Prop where
 ln:s.num.length=G.n
 ll:s.low.length=G.n
 hy:y<G.n
 un:s.nm y=0
 eX:G.DO s P
 bl:∀v i a,s.nm v≠0→v∉P→G.J i v a→s.nm a≠0
 le:∀v,s.nm v≤s.cnt
 inj:∀u v,s.nm u≠0→s.nm u=s.nm v→u=v
 bb:(P= []∧aq=none)∨∃x r i,P=x::r∧aq=some i∧G.J i x y
 CR:∀e∈s.stk++s.blk.flatten,some e=aq∨∀a b,G.J e a b→s.nm a≠0
def dc (s s':Sc) (v:Nat):Prop:=s.nm v=0∧s'.nm v≠0
structure Inv (G:UG) (s:Sc) (y:Nat) (aq:Option Nat) (P:List Nat) (h:Nat→Prop) (s':Sc):Prop where
 ln:s'.num.length=G.n
 ll:s'.low.length=G.n
 ny:s'.nm y=s.cnt+1
 keep:∀v,s.nm v≠0→s'.nm v=s.nm v∧s'.lw v=s.lw v
 new:∀v,dc s s' v→s.cnt<s'.nm v
 le:∀v,s'.nm v≤s'.cnt
 inj:∀u v,s'.nm u≠0→s'.nm u=s'.nm v→u=v
 yK:∀v,dc s s' v→G.Cn (dc s s') y v
 q1:∀e d a,dc s s' d→(d≠y∨h e)→G.J e d a→dc s s' a∨a∈P
 q2:∀e d w,dc s s' d→(d≠y∨h e)→G.J e d w→w∈P→some e≠aq→s'.lw y≤s.nm w
 ly:s'.lw y≤s'.nm y
 q3:s'.lw y=s'.nm y∨∃e d w,dc s s' d∧G.J e d w∧w∈P∧s.nm w=s'.lw y
 sb:∃S B,s'.stk=s.stk++S∧s'.blk=s.blk++B∧(S++B.flatten).Nodup∧(∀e,e∈S++B.flatten↔some e≠aq∧∃d a,dc s s' d∧(d≠y∨h e)∧G.J e d a)∧
  (∀e∈S,∃i,aq=some i∧G.Sm i e)∧∀b∈B,G.sq b
theorem dc.met {s s':Sc} {v:Nat} (h:dc s s' v):s'.nm v≠0:=h.2
theorem bh {l:List Nat} {i j a:Nat} (hi:i<l.length):(l.set i a).getD j 0=if j=i then a else l.getD j 0:=by
 rw [List.getD_eq_getElem?_getD,List.getElem?_set]
 by_cases h:i=j
 ·subst h;simp [hi]
 ·rw [if_neg h,if_neg (fun e=>h e.symm),List.getD_eq_getElem?_getD]
def gG (G:UG) (s:Sc):Nat:=(List.range G.n).countP fun v=>decide (s.nm v=0)
theorem mA {s s':Sc} (hk:∀v,s.nm v≠0→s'.nm v≠0) {y:Nat} (hy:y<G.n) (h0:s.nm y=0) (h1:s'.nm y≠0):G.gG s'<G.gG s:=by
 unfold gG
 have key:∀l:List Nat,l.countP (fun v=>decide (s'.nm v=0))+(if y∈l then 1 else 0)≤l.countP (fun v=>decide (s.nm v=0)):=by
  intro l
  induction l with
  |nil=>simp
  |cons a l ih=>
   rw [List.countP_cons,List.countP_cons]
   by_cases ha:y=a
   ·subst ha
    simp only [List.mem_cons,true_or,if_true,decide_eq_true_eq,h0,if_pos,if_neg h1]
    split at ih<;>omega
   ·have hk':=hk a
    simp only [List.mem_cons,ha,false_or]
    by_cases h2:s.nm a=0
    ·simp only [decide_eq_true_eq,h2,if_true]
     split<;>omega
    ·simp only [decide_eq_true_eq,if_neg h2,if_neg (hk' h2)]
     omega
 have:=key (List.range G.n)
 rw [if_pos (List.mem_range.2 hy)] at this
 omega
section
variable (hG:G.Ok) {so:List Nat→List Nat}
include hG
theorem lB {s:Sc} {y:Nat} {aq:Option Nat} {P:List Nat} (hp:G.Pre s y aq P):G.Inv s y aq P (fun _=>False) (iC s y):=by
 have hn:∀v,(iC s y).nm v=if v=y then s.cnt+1 else s.nm v:=fun v=>bh (by rw [hp.ln];exact hp.hy)
 have hl:∀v,(iC s y).lw v=if v=y then s.cnt+1 else s.lw v:=fun v=>bh (by rw [hp.ll];exact hp.hy)
 have hN:∀v,dc s (iC s y) v↔v=y:=fun v=>by
  unfold dc
  rw [hn]
  constructor
  ·rintro ⟨h1,h2⟩
   refine Decidable.byContradiction fun h=> ?_
   rw [if_neg h] at h2
   exact h2 h1
  ·rintro rfl
   exact ⟨hp.un,by simp⟩
 have xW:∀v,s.nm v≠0→v≠y:=fun v hv e=>hv (by rw [e];exact hp.un)
 refine ⟨by simp [iC,hp.ln],by simp [iC,hp.ll],by rw [hn,if_pos rfl],fun v hv=>⟨by rw [hn,if_neg (xW v hv)],by rw [hl,if_neg (xW v hv)]⟩,fun v hv=> ?_,fun v=> ?_,fun u v hu huv=> ?_,fun v hv=> ?_,fun e d a hd hh=> ?_,fun e d w hd hh=> ?_, ?_, ?_, ?_⟩
 ·rw [(hN v).1 hv,hn,if_pos rfl];omega
 ·rw [hn]
  have:=hp.le v
  show _≤s.cnt+1
  split<;>omega
 ·rw [hn] at hu
  rw [hn,hn] at huv
  have h1:=hp.le u
  have h2:=hp.le v
  by_cases e1:u=y
  ·by_cases e2:v=y
   ·rw [e1,e2]
   ·rw [if_pos e1,if_neg e2] at huv;omega
  ·by_cases e2:v=y
   ·rw [if_neg e1,if_pos e2] at huv;omega
   ·rw [if_neg e1,if_neg e2] at huv
    rw [if_neg e1] at hu
    exact hp.inj u v hu huv
 ·rw [(hN v).1 hv];exact .refl ((hN y).2 rfl)
 ·rw [(hN d).1 hd] at hh;simp at hh
 ·rw [(hN d).1 hd] at hh;simp at hh
 ·rw [hl,hn,if_pos rfl,if_pos rfl];exact Nat.le_refl _
 ·rw [hl,hn,if_pos rfl,if_pos rfl];exact .inl rfl
 ·refine ⟨[], [],by simp [iC],by simp [iC],by simp,fun e=> ?_,by simp,by simp⟩
  simp only [List.append_nil,List.flatten_nil,List.not_mem_nil,false_iff,not_and]
  rintro _ ⟨d,a,hd,hh,_⟩
  rw [(hN d).1 hd] at hh;simp at hh
theorem mB {s s':Sc} {y:Nat} {aq:Option Nat} {P:List Nat} {h:Nat→Prop} (hp:G.Pre s y aq P) (hi:G.Inv s y aq P h s'):G.DO s' (y::P):=by
 have hk:∀w∈P,s'.nm w=s.nm w:=fun w hw=>(hi.keep w (hp.eX.met w hw).2).1
 refine ⟨fun w hw=> ?_,List.pairwise_cons.2 ⟨fun w hw=> ?_, ?_⟩, ?_⟩
 ·rcases List.mem_cons.1 hw with rfl|hw
  ·exact ⟨hp.hy,by rw [hi.ny];omega⟩
  ·rw [hk w hw];exact hp.eX.met w hw
 ·rw [hk w hw,hi.ny]
  have:=hp.le w
  omega
 ·refine hp.eX.dec.imp_of_mem fun ha hb h=> ?_
  rw [hk _ ha,hk _ hb];exact h
 ·rcases hp.bb with ⟨rfl,_⟩|⟨x,r,i,rfl,_,hj⟩
  ·trivial
  ·exact ⟨⟨i,hj⟩,hp.eX.CQ⟩
theorem ue {s:Sc} {y:Nat} {aq:Option Nat} {P:List Nat} (hp:G.Pre s y aq P) {w:Nat} (hw:w∈P):∃b x,aq=some b∧G.J b y x∧G.Cn (fun u=>u≠y) w x:=by
 rcases hp.bb with ⟨rfl,_⟩|⟨x,r,i,rfl,h1,hj⟩
 ·simp at hw
 ·refine ⟨i,x,h1,hj.symm,(hp.eX.CQ.cn w hw).mono fun v hv e=> ?_⟩
  subst e
  exact (hp.eX.met v hv).2 hp.un
theorem lC {s s' s'':Sc} (h1:∀v,s.nm v≠0→s'.nm v=s.nm v) (h2:∀v,s'.nm v≠0→s''.nm v=s'.nm v) (v:Nat):dc s s'' v↔dc s s' v∨dc s' s'' v:=by
 unfold dc
 have:=h1 v
 have:=h2 v
 omega
theorem nZ {s s':Sc} {y:Nat} {aq:Option Nat} {P:List Nat} {h:Nat→Prop} (hi:G.Inv s y aq P h s') {i z:Nat} (hj:G.J i y z) (hz:dc s s' z∨z∈P) (hs:some i=aq∨dc s s' z) (yL:∀w∈P,¬dc s s' w):
 G.Inv s y aq P (fun e=>h e∨e=i) s':=by
 have hyz:=(hj.lt hG).2.2
 have kR:∀e d a,dc s s' d→(d≠y∨h e∨e=i)→G.J e d a→(d≠y∨h e)∨(e=i∧d=y∧a=z):=by
  intro e d a hd hh hJ
  by_cases e1:d=y
  ·rcases hh with hh|hh|rfl
   ·exact .inl (.inl hh)
   ·exact .inl (.inr hh)
   ·subst e1;exact .inr ⟨rfl,rfl,hj.snd hJ⟩
  ·exact .inl (.inl e1)
 refine ⟨hi.ln,hi.ll,hi.ny,hi.keep,hi.new,hi.le,hi.inj,hi.yK,fun e d a hd hh hJ=> ?_,fun e d w hd hh hJ hw hb=> ?_,hi.ly,hi.q3, ?_⟩
 ·rcases kR e d a hd hh hJ with h1|⟨rfl,rfl,rfl⟩
  ·exact hi.q1 e d a hd h1 hJ
  ·exact hz
 ·rcases kR e d w hd hh hJ with h1|⟨rfl,rfl,rfl⟩
  ·exact hi.q2 e d w hd h1 hJ hw hb
  ·rcases hs with hs|hs
   ·exact absurd hs hb
   ·exact absurd hs (yL _ hw)
 ·obtain ⟨S,B,h1,h2,h3,h4,h5,h6⟩:=hi.sb
  refine ⟨S,B,h1,h2,h3,fun e=> ?_,h5,h6⟩
  rw [h4]
  constructor
  ·rintro ⟨hb,d,a,hd,hh,hJ⟩
   exact ⟨hb,d,a,hd,hh.imp_right .inl,hJ⟩
  ·rintro ⟨hb,d,a,hd,hh,hJ⟩
   rcases kR e d a hd hh hJ with h1|⟨rfl,rfl,rfl⟩
   ·exact ⟨hb,d,a,hd,h1,hJ⟩
   ·rcases hs with hs|hs
    ·exact absurd hs hb
    ·exact ⟨hb,a,d,hs, .inl (Ne.symm hyz),hJ.symm⟩
theorem uf {s s':Sc} {y:Nat} {aq:Option Nat} {P:List Nat} {h:Nat→Prop} (hp:G.Pre s y aq P) (hi:G.Inv s y aq P h s') {i z:Nat} (hj:G.J i y z) (hz:z∈P) (hb:some i≠aq) (hni:¬h i):
 G.Inv s y aq P (fun e=>h e∨e=i) {s' with stk:=s'.stk++ [i],low:=s'.low.set y (min (s'.lw y) (s'.nm z))} :=by
 have hyz:=(hj.lt hG).2.2
 have hl:∀v,({s' with stk:=s'.stk++ [i],low:=s'.low.set y (min (s'.lw y) (s'.nm z))} :Sc).lw v=if v=y then min (s'.lw y) (s'.nm z) else s'.lw v:=fun v=>bh (by rw [hi.ll];exact hp.hy)
 have Fa:=hp.eX.met z hz
 have DP:=(hi.keep z Fa.2).1
 have yM:dc s s' y:=⟨hp.un,by rw [hi.ny];omega⟩
 have yL:∀w∈P,¬dc s s' w:=fun w hw hN=>(hp.eX.met w hw).2 hN.1
 have kR:∀e d a,dc s s' d→(d≠y∨h e∨e=i)→G.J e d a→(d≠y∨h e)∨(e=i∧d=y∧a=z):=by
  intro e d a hd hh hJ
  by_cases e1:d=y
  ·rcases hh with hh|hh|rfl
   ·exact .inl (.inl hh)
   ·exact .inl (.inr hh)
   ·subst e1;exact .inr ⟨rfl,rfl,hj.snd hJ⟩
  ·exact .inl (.inl e1)
 refine ⟨hi.ln,by simp [hi.ll],hi.ny,fun v hv=>⟨(hi.keep v hv).1, ?_⟩,hi.new,hi.le,hi.inj,hi.yK,fun e d a hd hh hJ=> ?_,fun e d w hd hh hJ hw su=> ?_, ?_, ?_, ?_⟩
 ·rw [hl,if_neg]
  ·exact (hi.keep v hv).2
  ·rintro rfl;exact hv hp.un
 ·rcases kR e d a hd hh hJ with h1|⟨rfl,rfl,rfl⟩
  ·exact hi.q1 e d a hd h1 hJ
  ·exact .inr hz
 ·rw [hl,if_pos rfl]
  rcases kR e d w hd hh hJ with h1|⟨rfl,rfl,rfl⟩
  ·have:=hi.q2 e d w hd h1 hJ hw su
   omega
  ·rw [DP];omega
 ·rw [hl,if_pos rfl]
  have:=hi.ly
  show _≤s'.nm y
  omega
 ·rw [hl,if_pos rfl]
  show min (s'.lw y) (s'.nm z)=s'.nm y∨_
  rcases Nat.le_total (s'.lw y) (s'.nm z) with h1|h1
  ·rw [Nat.min_eq_left h1]
   exact hi.q3
  ·rw [Nat.min_eq_right h1]
   exact .inr ⟨i,y,z,yM,hj,hz,DP.symm⟩
 ·obtain ⟨S,B,h1,h2,h3,h4,h5,h6⟩:=hi.sb
  have hnew:i∉S++B.flatten:=by
   rw [h4]
   rintro ⟨_,d,a,hd,hh,hJ⟩
   rcases hj.two hJ with ⟨rfl,rfl⟩|⟨rfl,rfl⟩
   ·rcases hh with hh|hh
    ·exact hh rfl
    ·exact hni hh
   ·exact yL _ hz hd
  refine ⟨S++ [i],B,by simp [h1],h2, ?_,fun e=> ?_,fun e he=> ?_,h6⟩
  ·rw [List.append_assoc,List.nodup_append]
   rw [List.nodup_append] at h3
   simp only [List.mem_append,not_or] at hnew
   refine ⟨h3.1, ?_, ?_⟩
   ·rw [List.singleton_append,List.nodup_cons]
    exact ⟨hnew.2,h3.2.1⟩
   ·intro a ha b hb
    rcases List.mem_append.1 hb with hb|hb
    ·rw [List.mem_singleton] at hb
     subst hb
     rintro rfl;exact hnew.1 ha
    ·exact h3.2.2 a ha b hb
  ·have e1:e∈S++ [i]++B.flatten↔e∈S++B.flatten∨e=i:=by
    simp only [List.mem_append,List.mem_singleton]
    constructor
    ·rintro ((h|h)|h)
     ·exact .inl (.inl h)
     ·exact .inr h
     ·exact .inl (.inr h)
    ·rintro ((h|h)|h)
     ·exact .inl (.inl h)
     ·exact .inr h
     ·exact .inl (.inr h)
   rw [e1,h4]
   constructor
   ·rintro (⟨hb,d,a,hd,hh,hJ⟩|rfl)
    ·exact ⟨hb,d,a,hd,hh.imp_right .inl,hJ⟩
    ·exact ⟨hb,y,z,yM, .inr (.inr rfl),hj⟩
   ·rintro ⟨hb',d,a,hd,hh,hJ⟩
    rcases kR e d a hd hh hJ with h1|⟨rfl,rfl,rfl⟩
    ·exact .inl ⟨hb',d,a,hd,h1,hJ⟩
    ·exact .inr rfl
  ·rcases List.mem_append.1 he with he|he
   ·exact h5 e he
   ·rw [List.mem_singleton] at he
    subst he
    obtain ⟨b,x,bQ,mC,Fb⟩:=ue hG hp hz
    exact ⟨b,bQ, .step .refl ⟨y,x,z,mC,hj,Fb.symm⟩⟩
theorem mD {s s':Sc} {y:Nat} {aq:Option Nat} {P:List Nat} {h:Nat→Prop} (hp:G.Pre s y aq P) (hi:G.Inv s y aq P h s') {e:Nat} (he:e∈s'.stk++s'.blk.flatten):∀a b,G.J e a b→s'.nm a≠0:=by
 have rz:s'.nm y≠0:=by rw [hi.ny];omega
 have hkm:∀v,s.nm v≠0→s'.nm v≠0:=fun v hv=>by rw [(hi.keep v hv).1];exact hv
 have hq1:∀e d a,dc s s' d→(d≠y∨h e)→G.J e d a→s'.nm a≠0:=fun e d a hd hh hJ=>by
  rcases hi.q1 e d a hd hh hJ with h1|h1
  ·exact h1.2
  ·exact hkm a (hp.eX.met a h1).2
 obtain ⟨S,B,h1,h2,h3,h4,h5,h6⟩:=hi.sb
 have hold:(some e=aq∨∀a b,G.J e a b→s.nm a≠0)→∀a b,G.J e a b→s'.nm a≠0:=by
  rintro (he|he) a b hJ
  ·rcases hp.bb with ⟨_,h0⟩|⟨x,r,k,rfl,hk,An⟩
   ·rw [h0] at he;cases he
   ·rw [hk] at he
    obtain rfl:=Option.some.inj he
    rcases An.two hJ with ⟨rfl,rfl⟩|⟨rfl,rfl⟩
    ·exact hkm _ (hp.eX.met _ (by simp)).2
    ·exact rz
  ·exact hkm a (he a b hJ)
 have hnew:e∈S++B.flatten→∀a b,G.J e a b→s'.nm a≠0:=fun he a b hJ=>by
  obtain ⟨_,d,c,hd,hh,DQ⟩:=(h4 e).1 he
  rcases DQ.two hJ with ⟨rfl,rfl⟩|⟨rfl,rfl⟩
  ·exact hd.2
  ·exact hq1 e _ _ hd hh DQ
 simp only [h1,h2,List.flatten_append,List.mem_append] at he
 rcases he with (he|he)|(he|he)
 ·exact hold (hp.CR e (by simp [he]))
 ·exact hnew (by simp [he])
 ·exact hold (hp.CR e (List.mem_append.2 (.inr he)))
 ·exact hnew (by simp only [List.mem_append];exact .inr he)
theorem ki {s s':Sc} {y:Nat} {aq:Option Nat} {P:List Nat} {h:Nat→Prop} (hp:G.Pre s y aq P) (hi:G.Inv s y aq P h s') {i z:Nat} (hj:G.J i y z) (hz:s'.nm z=0):
 G.Pre {s' with stk:=s'.stk++ [i]} z (some i) (y::P):=by
 have rz:s'.nm y≠0:=by rw [hi.ny];omega
 have hkm:∀v,s.nm v≠0→s'.nm v≠0:=fun v hv=>by rw [(hi.keep v hv).1];exact hv
 have hq1:∀e d a,dc s s' d→(d≠y∨h e)→G.J e d a→s'.nm a≠0:=fun e d a hd hh hJ=>by
  rcases hi.q1 e d a hd hh hJ with h1|h1
  ·exact h1.2
  ·exact hkm a (hp.eX.met a h1).2
 refine ⟨hi.ln,hi.ll,(hj.lt hG).2.1,hz,⟨(mB hG hp hi).met,(mB hG hp hi).dec,(mB hG hp hi).CQ⟩,fun v e a hv CS hJ=> ?_,hi.le,hi.inj, .inr ⟨y,P,i,rfl,rfl,hj⟩,fun e he=> ?_⟩
 ·simp only [List.mem_cons,not_or] at CS
  by_cases h0:s.nm v=0
  ·exact hq1 e v a ⟨h0,hv⟩ (.inl CS.1) hJ
  ·exact hkm a (hp.bl v e a h0 CS.2 hJ)
 ·have he':e∈s'.stk++s'.blk.flatten∨e=i:=by
   simp only [List.mem_append,List.mem_singleton] at he ⊢
   rcases he with (he|he)|he
   ·exact .inl (.inl he)
   ·exact .inr he
   ·exact .inl (.inr he)
  rcases he' with he'|rfl
  ·exact .inr (mD hG hp hi he')
  ·exact .inl rfl
theorem n4 {s s' s1 s3:Sc} {y:Nat} {aq:Option Nat} {P:List Nat} {h:Nat→Prop} (hp:G.Pre s y aq P) (hi:G.Inv s y aq P h s') {i z:Nat} (hj:G.J i y z) (hz:s'.nm z=0)
 (hq:G.Inv {s' with stk:=s'.stk++ [i]} z (some i) (y::P) (fun _=>True) s1) (e1:s3.num=s1.num) (e2:s3.low=s1.low.set y (min (s1.lw y) (s1.lw z))) (e3:s3.cnt=s1.cnt)
 (yD:∃S B,s3.stk=s.stk++S∧s3.blk=s.blk++B∧(S++B.flatten).Nodup∧(∀e,e∈S++B.flatten↔some e≠aq∧∃d a,dc s s3 d∧(d≠y∨h e∨e=i)∧G.J e d a)∧
 (∀e∈S,∃i,aq=some i∧G.Sm i e)∧∀b∈B,G.sq b):G.Inv s y aq P (fun e=>h e∨e=i) s3:=by
 have rz:s'.nm y≠0:=by rw [hi.ny];omega
 have hyz:=(hj.lt hG).2.2
 have jl:∀v,s.nm v≠0→s'.nm v=s.nm v:=fun v hv=>(hi.keep v hv).1
 have hk2:∀v,s'.nm v≠0→s1.nm v=s'.nm v:=fun v hv=>(hq.keep v hv).1
 have uW:∀v,s3.nm v=s1.nm v:=fun v=>by unfold Sc.nm;rw [e1]
 have yN:∀v,s3.lw v=if v=y then min (s'.lw y) (s1.lw z) else s1.lw v:=fun v=>by
  have Fc:s1.lw y=s'.lw y:=(hq.keep y rz).2
  rw [← Fc]
  unfold Sc.lw
  rw [e2]
  exact bh (by rw [hq.ll];exact hp.hy)
 have hN:∀v,dc s s3 v↔dc s s' v∨dc s' s1 v:=fun v=>by
  rw [← lC hG jl hk2 v];unfold dc;rw [uW]
 have yM:dc s s' y:=⟨hp.un,rz⟩
 have Ao:dc s' s1 z:=⟨hz,by rw [hq.ny];omega⟩
 have xW:s1.nm y=s.cnt+1:=by rw [hk2 y rz,hi.ny]
 have zH:s.cnt<s'.cnt:=by have:=hi.le y;rw [hi.ny] at this;omega
 have hlz:=hq.ly
 have kR:∀e d a,dc s s3 d→(d≠y∨h e∨e=i)→G.J e d a→(dc s s' d∧(d≠y∨h e))∨(e=i∧d=y∧a=z)∨dc s' s1 d:=by
  intro e d a hd hh hJ
  rcases (hN d).1 hd with hd|hd
  ·by_cases e1:d=y
   ·rcases hh with hh|hh|rfl
    ·exact .inl ⟨hd, .inl hh⟩
    ·exact .inl ⟨hd, .inr hh⟩
    ·subst e1;exact .inr (.inl ⟨rfl,rfl,hj.snd hJ⟩)
   ·exact .inl ⟨hd, .inl e1⟩
  ·exact .inr (.inr hd)
 refine ⟨by rw [e1];exact hq.ln,by rw [e2,List.length_set];exact hq.ll,by rw [uW,xW],fun v hv=> ?_,fun v hv=> ?_,fun v=>by rw [uW,e3];exact hq.le v,fun u v hu huv=>hq.inj u v (by rw [← uW];exact hu) (by rw [← uW, ← uW];exact huv),fun v hv=> ?_,fun e d a hd hh hJ=> ?_,fun e d w hd hh hJ hw hb=> ?_, ?_, ?_,yD⟩
 ·have s6:s'.nm v≠0:=by rw [jl v hv];exact hv
  refine ⟨by rw [uW,hk2 v s6,jl v hv], ?_⟩
  rw [yN,if_neg (by rintro rfl;exact hv hp.un),(hq.keep v s6).2]
  exact (hi.keep v hv).2
 ·rw [uW]
  rcases (hN v).1 hv with h1|h1
  ·rw [hk2 v h1.2];exact hi.new v h1
  ·have:=hq.new v h1
   simp only at this;omega
 ·rcases (hN v).1 hv with h1|h1
  ·exact (hi.yK v h1).mono fun u hu=>(hN u).2 (.inl hu)
  ·exact (Cn.one hj ((hN y).2 (.inl yM)) ((hN z).2 (.inr Ao))).trans ((hq.yK v h1).mono fun u hu=>(hN u).2 (.inr hu))
 ·rcases kR e d a hd hh hJ with ⟨h1,h2⟩|⟨rfl,rfl,rfl⟩|h1
  ·rcases hi.q1 e d a h1 h2 hJ with h3|h3
   ·exact .inl ((hN a).2 (.inl h3))
   ·exact .inr h3
  ·exact .inl ((hN a).2 (.inr Ao))
  ·rcases hq.q1 e d a h1 (.inr trivial) hJ with h3|h3
   ·exact .inl ((hN a).2 (.inr h3))
   ·rcases List.mem_cons.1 h3 with rfl|h3
    ·exact .inl ((hN a).2 (.inl yM))
    ·exact .inr h3
 ·have qz:=hp.eX.met w hw
  have Fe:w≠y:=by rintro rfl;exact qz.2 hp.un
  rw [yN,if_pos rfl]
  rcases kR e d w hd hh hJ with ⟨h1,h2⟩|⟨rfl,rfl,rfl⟩|h1
  ·have:=hi.q2 e d w h1 h2 hJ hw hb
   omega
  ·exact absurd hz (by rw [jl w qz.2];exact qz.2)
  ·have he:some e≠some i:=by
    rintro he
    obtain rfl:=Option.some.inj he
    rcases hj.two hJ with ⟨rfl,rfl⟩|⟨rfl,rfl⟩
    ·exact qz.2 (Decidable.byContradiction fun h0=>h0 (by have:=jl w qz.2;omega))
    ·exact Fe rfl
   have:=hq.q2 e d w h1 (.inr trivial) hJ (List.mem_cons_of_mem _ hw) he
   have e4:({s' with stk:=s'.stk++ [i]} :Sc).nm w=s.nm w:=jl w qz.2
   rw [e4] at this
   omega
 ·rw [yN,if_pos rfl,uW,xW]
  have:=hi.ly
  rw [hi.ny] at this
  omega
 ·rw [yN,if_pos rfl,uW,xW]
  have CT:=hi.ly
  rw [hi.ny] at CT
  rcases Nat.le_total (s'.lw y) (s1.lw z) with h1|h1
  ·rw [Nat.min_eq_left h1]
   rcases hi.q3 with h2|⟨e,d,w,h2,h3⟩
   ·rw [hi.ny] at h2;exact .inl h2
   ·exact .inr ⟨e,d,w,(hN d).2 (.inl h2),h3⟩
  ·rw [Nat.min_eq_right h1]
   rcases hq.q3 with h2|⟨e,d,w,h2,hJ,hw,h3⟩
   ·rw [hq.ny] at h2
    simp only at h2;omega
   ·have e4:s'.nm w=s1.lw z:=h3
    rcases List.mem_cons.1 hw with rfl|hw
    ·left;rw [← e4,hi.ny]
    ·refine .inr ⟨e,d,w,(hN d).2 (.inr h2),hJ,hw, ?_⟩
     rw [← e4,jl w (hp.eX.met w hw).2]
theorem qA {s s' s1 s3:Sc} {y:Nat} {aq:Option Nat} {P:List Nat} {h:Nat→Prop} (hp:G.Pre s y aq P) (hi:G.Inv s y aq P h s') {i z:Nat} (hj:G.J i y z) (hz:s'.nm z=0) (hb:some i≠aq)
 (hq:G.Inv {s' with stk:=s'.stk++ [i]} z (some i) (y::P) (fun _=>True) s1) (e1:s3.num=s1.num):
 ∃S B S1 B1,s1.stk=s.stk++S++i::S1∧s1.blk=s.blk++B++B1∧((S++B.flatten)++(i::S1++B1.flatten)).Nodup∧
  (∀e,e∈S++B.flatten∨e∈i::S1++B1.flatten↔some e≠aq∧∃d a,dc s s3 d∧(d≠y∨h e∨e=i)∧G.J e d a)∧(∀e,e∈i::S1++B1.flatten↔∃d a,dc s' s1 d∧G.J e d a)∧
  (∀e∈S,∃i,aq=some i∧G.Sm i e)∧(∀e∈i::S1,G.Sm i e)∧(∀b∈B,G.sq b)∧(∀b∈B1,G.sq b)∧i∉s.stk++S:=by
 have rz:s'.nm y≠0:=by rw [hi.ny];omega
 have hyz:=(hj.lt hG).2.2
 have jl:∀v,s.nm v≠0→s'.nm v=s.nm v:=fun v hv=>(hi.keep v hv).1
 have hk2:∀v,s'.nm v≠0→s1.nm v=s'.nm v:=fun v hv=>(hq.keep v hv).1
 have hN:∀v,dc s s3 v↔dc s s' v∨dc s' s1 v:=fun v=>by
  rw [← lC hG jl hk2 v];unfold dc Sc.nm;rw [e1]
 have Ao:dc s' s1 z:=⟨hz,by rw [hq.ny];omega⟩
 have yM:dc s s' y:=⟨hp.un,rz⟩
 have hold:∀e∈s'.stk++s'.blk.flatten,∀a b,G.J e a b→s'.nm a≠0:=fun e he=>mD hG hp hi he
 obtain ⟨S,B,a1,a2,a3,a4,a5,a6⟩:=hi.sb
 obtain ⟨S1,B1,b1,b2,b3,b4,b5,b6⟩:=hq.sb
 have CU:∀e,e∈i::S1++B1.flatten↔∃d a,dc s' s1 d∧G.J e d a:=fun e=>by
  rw [List.cons_append,List.mem_cons,b4]
  constructor
  ·rintro (rfl|⟨_,d,a,h1,_,h2⟩)
   ·exact ⟨z,y,Ao,hj.symm⟩
   ·exact ⟨d,a,h1,h2⟩
  ·rintro ⟨d,a,h1,h2⟩
   by_cases he:e=i
   ·exact .inl he
   ·exact .inr ⟨fun h=>he (Option.some.inj h),d,a,h1, .inr trivial,h2⟩
 have hin:∀e,e∈S++B.flatten→e∈s'.stk++s'.blk.flatten:=fun e he=>by
  rw [a1,a2,List.flatten_append]
  simp only [List.mem_append] at he ⊢
  rcases he with he|he
  ·exact .inl (.inr he)
  ·exact .inr (.inr he)
 refine ⟨S,B,S1,B1,by rw [b1,a1];simp,by rw [b2,a2], ?_,fun e=> ?_,CU,a5,fun e he=> ?_,a6,b6,fun hi'=> ?_⟩
 ·rw [List.nodup_append]
  refine ⟨a3, ?_,fun u hu v hv=> ?_⟩
  ·rw [List.cons_append,List.nodup_cons]
   exact ⟨fun h=>((b4 i).1 h).1 rfl,b3⟩
  ·rintro rfl
   obtain ⟨d,a,h1,h2⟩:=(CU u).1 hv
   exact hold u (hin u hu) d a h2 h1.1
 ·rw [a4,CU]
  constructor
  ·rintro (⟨h1,d,a,h2,h3,h4⟩|⟨d,a,h1,h2⟩)
   ·exact ⟨h1,d,a,(hN d).2 (.inl h2),h3.imp_right .inl,h4⟩
   ·refine ⟨fun he=> ?_,d,a,(hN d).2 (.inr h1), .inl fun e=>rz (by rw [← e];exact h1.1),h2⟩
    rcases hp.bb with ⟨_,h0⟩|⟨x,r,k,rfl,hk,An⟩
    ·rw [h0] at he;cases he
    ·rw [hk] at he
     obtain rfl:=Option.some.inj he
     have hx:=(hp.eX.met x (by simp)).2
     rcases An.two h2 with ⟨rfl,rfl⟩|⟨rfl,rfl⟩
     ·exact hx (by rw [← jl _ hx];exact h1.1)
     ·exact rz h1.1
  ·rintro ⟨h1,d,a,h2,h3,h4⟩
   rcases (hN d).1 h2 with h5|h5
   ·by_cases e2:d=y
    ·rcases h3 with h3|h3|rfl
     ·exact .inl ⟨h1,d,a,h5, .inl h3,h4⟩
     ·exact .inl ⟨h1,d,a,h5, .inr h3,h4⟩
     ·exact .inr ⟨z,y,Ao,hj.symm⟩
    ·exact .inl ⟨h1,d,a,h5, .inl e2,h4⟩
   ·exact .inr ⟨d,a,h5,h4⟩
 ·rcases List.mem_cons.1 he with rfl|he
  ·exact .refl
  ·obtain ⟨k,h1,h2⟩:=b5 e he
   rw [Option.some.inj h1];exact h2
 ·rw [← a1] at hi'
  exact hold i (List.mem_append.2 (.inl hi')) z y hj.symm hz
theorem qB {i:Nat} :∀ {A B:List Nat},i∉A→(A++i::B).idxOf i=A.length
 | [],B,_=>by simp
 |a::A,B,h=>by
  simp only [List.mem_cons,not_or] at h
  have e:(a==i)=false:=beq_false_of_ne (Ne.symm h.1)
  rw [List.cons_append,List.idxOf_cons,qB h.2,List.length_cons,e]
  rfl
theorem vB (hsp:∀l,(so l).Perm l) {s s' s1:Sc} {y:Nat} {aq:Option Nat} {P:List Nat} {h:Nat→Prop} (hp:G.Pre s y aq P) (hi:G.Inv s y aq P h s') {i z:Nat} (hj:G.J i y z) (hz:s'.nm z=0) (hb:some i≠aq)
 (hq:G.Inv {s' with stk:=s'.stk++ [i]} z (some i) (y::P) (fun _=>True) s1):
 G.Inv s y aq P (fun e=>h e∨e=i) (if s1.nm y≤s1.lw z then fm so {s1 with low:=s1.low.set y (min (s1.lw y) (s1.lw z))} i else {s1 with low:=s1.low.set y (min (s1.lw y) (s1.lw z))}):=by
 have rz:s'.nm y≠0:=by rw [hi.ny];omega
 have hyz:=(hj.lt hG).2.2
 have jl:∀v,s.nm v≠0→s'.nm v=s.nm v:=fun v hv=>(hi.keep v hv).1
 have hk2:∀v,s'.nm v≠0→s1.nm v=s'.nm v:=fun v hv=>(hq.keep v hv).1
 have xW:s1.nm y=s.cnt+1:=by rw [hk2 y rz,hi.ny]
 have zH:s.cnt<s'.cnt:=by have:=hi.le y;rw [hi.ny] at this;omega
 by_cases hc:s1.nm y≤s1.lw z
 ·rw [if_pos hc]
  refine n4 hG hp hi hj hz hq rfl rfl rfl ?_
  obtain ⟨S,B,S1,B1,c1,c2,c3,c4,c5,c6,c7,c8,c9,DR⟩:=qA hG (s3:=fm so {s1 with low:=s1.low.set y (min (s1.lw y) (s1.lw z))} i) hp hi hj hz hb hq rfl
  have DS:s1.stk.idxOf i=(s.stk++S).length:=by rw [c1];exact qB hG DR
  have kO:∀e d a,dc s' s1 d→G.J e d a→dc s' s1 a∨a=y:=fun e d a hd hJ=>by
   rcases hq.q1 e d a hd (.inr trivial) hJ with h1|h1
   ·exact .inl h1
   ·rcases List.mem_cons.1 h1 with rfl|h1
    ·exact .inr rfl
    ·exfalso
     have qz:=hp.eX.met a h1
     have he:some e≠some i:=by
      intro he
      obtain rfl:=Option.some.inj he
      rcases hj.two hJ with ⟨rfl,rfl⟩|⟨rfl,rfl⟩
      ·exact qz.2 (by rw [← jl _ qz.2];exact hz)
      ·exact qz.2 hp.un
     have h2:=hq.q2 e d a hd (.inr trivial) hJ (List.mem_cons_of_mem _ h1) he
     have e4:({s' with stk:=s'.stk++ [i]} :Sc).nm a=s.nm a:=jl a qz.2
     have h3:=hp.le a
     rw [e4] at h2
     omega
  have CV:(i::S1++B1.flatten).Nodup:=(List.nodup_append.1 c3).2.1
  have CW:G.sq (so (i::S1)):=by
   refine ⟨i,hj.1,(hsp _).mem_iff.2 (by simp),fun k=> ?_⟩
   rw [(hsp _).mem_iff]
   refine ⟨c7 k,fun hk=> ?_⟩
   induction hk with
   |refl=>simp
   | @step j k _ r ih=>
     obtain ⟨v,a,b,r1,r2,r3⟩:=r
     have hjn:j∉B1.flatten:=fun hj'=>(List.nodup_append.1 CV).2.2 j ih j hj' rfl
     have hkn:k∉B1.flatten:=fun hk'=>by
      obtain ⟨b1,bQ,mC⟩:=List.mem_flatten.1 hk'
      exact hjn (List.mem_flatten.2 ⟨b1,bQ,(c9 b1 bQ).step mC (R.symm ⟨v,a,b,r1,r2,r3⟩)⟩)
     have Ff:k∈i::S1++B1.flatten:=by
      rw [c5]
      obtain ⟨d,c,h1,h2⟩:=(c5 j).1 (List.mem_append.2 (.inl ih))
      by_cases hv:dc s' s1 v
      ·exact ⟨v,b,hv,r2⟩
      ·rcases r1.two h2 with ⟨rfl,rfl⟩|⟨rfl,rfl⟩
       ·exact absurd h1 hv
       ·have Fg:c=y:=(kO j d c h1 h2).resolve_left hv
        subst Fg
        refine ⟨b,c, ?_,r2.symm⟩
        clear r2
        induction r3 with
        |refl _=>exact h1
        |step _ hj' hne A6=>exact (kO _ _ _ A6 hj').resolve_right hne
     rcases List.mem_append.1 Ff with h1|h1
     ·exact h1
     ·exact absurd h1 hkn
  refine ⟨S,B++B1++ [so (i::S1)], ?_, ?_, ?_,fun e=> ?_,c6,fun b hb'=> ?_⟩
  ·show s1.stk.take (s1.stk.idxOf i)=_
   rw [DS,c1,List.take_left]
  ·show s1.blk++ [so (s1.stk.drop (s1.stk.idxOf i))]=_
   rw [DS,c1,List.drop_left,c2]
   simp
  ·refine (List.Perm.nodup_iff ?_).1 c3
   simp only [List.flatten_append,List.flatten_cons,List.flatten_nil,List.append_nil,List.append_assoc]
   refine List.Perm.append_left _ (List.Perm.append_left _ ?_)
   refine List.perm_append_comm.trans (List.Perm.append_left _ ?_)
   exact (hsp _).symm
  ·rw [← c4]
   simp only [List.flatten_append,List.flatten_cons,List.flatten_nil,List.append_nil,List.mem_append,(hsp (i::S1)).mem_iff]
   constructor
   ·rintro (h1|(h1|h1)|h1)
    ·exact .inl (.inl h1)
    ·exact .inl (.inr h1)
    ·exact .inr (.inr h1)
    ·exact .inr (.inl h1)
   ·rintro ((h1|h1)|(h1|h1))
    ·exact .inl h1
    ·exact .inr (.inl (.inl h1))
    ·exact .inr (.inr h1)
    ·exact .inr (.inl (.inr h1))
  ·simp only [List.mem_append,List.mem_singleton] at hb'
   rcases hb' with (h1|h1)|rfl
   ·exact c8 b h1
   ·exact c9 b h1
   ·exact CW
 ·rw [if_neg hc]
  refine n4 hG hp hi hj hz hq rfl rfl rfl ?_
  obtain ⟨S,B,S1,B1,c1,c2,c3,c4,c5,c6,c7,c8,c9,DR⟩:=qA hG (s3:= {s1 with low:=s1.low.set y (min (s1.lw y) (s1.lw z))}) hp hi hj hz hb hq rfl
  have mP:∃b,aq=some b∧G.R b i:=by
   rcases hq.q3 with h2|⟨e,d,w,h2,hJ,hw,h3⟩
   ·rw [hq.ny] at h2
    simp only at h2
    omega
   ·have e4:s'.nm w=s1.lw z:=h3
    rcases List.mem_cons.1 hw with rfl|hw
    ·rw [hi.ny] at e4;omega
    ·obtain ⟨b,x,d1,d2,d3⟩:=ue hG hp hw
     refine ⟨b,d1,y,x,z,d2,hj, ?_⟩
     have Fh:∀v,dc s' s1 v→v≠y:=fun v hv e=>rz (by rw [← e];exact hv.1)
     refine (Cn.trans ?_ d3).symm
     exact .step ((hq.yK d h2).mono fun v hv=>Fh v hv) hJ (fun e=>(hp.eX.met w hw).2 (by rw [e];exact hp.un))
  obtain ⟨b,bQ,mC⟩:=mP
  refine ⟨S++i::S1,B++B1,by rw [← List.append_assoc];exact c1,by rw [← List.append_assoc];exact c2, ?_,fun e=> ?_,fun e he=> ?_,fun b' hb'=> ?_⟩
  ·refine (List.Perm.nodup_iff ?_).1 c3
   simp only [List.flatten_append,List.append_assoc]
   exact List.Perm.append_left _ (List.perm_append_comm_assoc _ _ _)
  ·rw [← c4]
   simp only [List.flatten_append,List.mem_append]
   constructor
   ·rintro ((h1|h1)|(h1|h1))
    ·exact .inl (.inl h1)
    ·exact .inr (.inl h1)
    ·exact .inl (.inr h1)
    ·exact .inr (.inr h1)
   ·rintro ((h1|h1)|(h1|h1))
    ·exact .inl (.inl h1)
    ·exact .inr (.inl h1)
    ·exact .inl (.inr h1)
    ·exact .inr (.inr h1)
  ·rcases List.mem_append.1 he with he|he
   ·exact c6 e he
   ·exact ⟨b,bQ,(Sm.step .refl mC).trans (c7 e he)⟩
  ·rcases List.mem_append.1 hb' with h1|h1
   ·exact c8 b' h1
   ·exact c9 b' h1
theorem eO {s s':Sc} {y:Nat} {aq:Option Nat} {P:List Nat} {h k:Nat→Prop} (hk:∀e a,G.J e y a→(h e↔k e)) (hi:G.Inv s y aq P h s'):G.Inv s y aq P k s':=by
 have hf:∀e d a,G.J e d a→((d≠y∨h e)↔(d≠y∨k e)):=fun e d a hJ=>by
  by_cases e1:d=y
  ·subst e1;rw [hk e a hJ]
  ·simp [e1]
 refine ⟨hi.ln,hi.ll,hi.ny,hi.keep,hi.new,hi.le,hi.inj,hi.yK,fun e d a hd hh hJ=>hi.q1 e d a hd ((hf e d a hJ).2 hh) hJ,fun e d w hd hh hJ=>hi.q2 e d w hd ((hf e d w hJ).2 hh) hJ,hi.ly,hi.q3, ?_⟩
 obtain ⟨S,B,h1,h2,h3,h4,h5,h6⟩:=hi.sb
 refine ⟨S,B,h1,h2,h3,fun e=> ?_,h5,h6⟩
 rw [h4]
 constructor
 ·rintro ⟨hb,d,a,hd,hh,hJ⟩;exact ⟨hb,d,a,hd,(hf e d a hJ).1 hh,hJ⟩
 ·rintro ⟨hb,d,a,hd,hh,hJ⟩;exact ⟨hb,d,a,hd,(hf e d a hJ).2 hh,hJ⟩
theorem ig (hsp:∀l,(so l).Perm l) {vis:Nat→Nat→Sc→Sc} {s s':Sc} {y:Nat} {aq:Option Nat} {P:List Nat} {h:Nat→Prop} (hp:G.Pre s y aq P) (hi:G.Inv s y aq P h s')
 (hv:∀i z,G.J i y z→s'.nm z=0→G.Inv {s' with stk:=s'.stk++ [i]} z (some i) (y::P) (fun _=>True) (vis z i {s' with stk:=s'.stk++ [i]})) {i z:Nat} (hj:G.J i y z) (hni:¬h i):
 G.Inv s y aq P (fun e=>h e∨e=i) (bP G so vis y aq s' i):=by
 have jl:∀v,s.nm v≠0→s'.nm v=s.nm v:=fun v hv=>(hi.keep v hv).1
 have yL:∀w∈P,¬dc s s' w:=fun w hw hN=>(hp.eX.met w hw).2 hN.1
 have hyz:=(hj.lt hG).2.2
 unfold bP
 rw [mz hj]
 by_cases hb:some i=aq
 ·rw [if_pos hb]
  refine nZ hG hi hj (.inr ?_) (.inl hb) yL
  rcases hp.bb with ⟨_,h0⟩|⟨x,r,k,rfl,hk,An⟩
  ·rw [h0] at hb;cases hb
  ·rw [hk] at hb
   obtain rfl:=Option.some.inj hb
   obtain rfl:=hj.snd An.symm
   simp
 rw [if_neg hb]
 by_cases hz:s'.nm z=0
 ·rw [if_pos hz]
  have hq:=hv i z hj hz
  generalize vis z i {s' with stk:=s'.stk++ [i]} =s1 at hq
  have e5:({s1 with low:=s1.low.set y (min (s1.lw y) (s1.lw z))} :Sc).lw z=s1.lw z:=by
   unfold Sc.lw
   rw [bh (by rw [hq.ll];exact hp.hy),if_neg (Ne.symm hyz)]
  have:=vB hG hsp hp hi hj hz hb hq
  simp only [e5]
  exact this
 rw [if_neg hz]
 have CX:s.nm z≠0→z∈P:=fun h0=>Decidable.byContradiction fun CX=>hp.bl z i y h0 CX hj.symm hp.un
 by_cases hlt:s'.nm z<s'.nm y
 ·rw [if_pos hlt]
  refine uf hG hp hi hj (CX fun h0=> ?_) hb hni
  have:=hi.new z ⟨h0,hz⟩
  rw [hi.ny] at hlt
  omega
 ·rw [if_neg hlt]
  have hN:dc s s' z:=⟨Decidable.byContradiction fun h0=>by
   have h1:=jl z h0
   have h2:=hp.le z
   rw [hi.ny] at hlt
   omega,hz⟩
  exact nZ hG hi hj (.inl hN) (.inr hN) yL
theorem jv (hsp:∀l,(so l).Perm l):∀(f:Nat) {s:Sc} {y:Nat} {aq:Option Nat} {P:List Nat},G.gG s≤f→G.Pre s y aq P→G.Inv s y aq P (fun _=>True) (cz G so f y aq s)
 |0,s,y,aq,P,hf,hp=>by
  exfalso
  have:G.gG s≠0:=by
   unfold gG
   intro h
   rw [List.countP_eq_zero] at h
   exact h y (List.mem_range.2 hp.hy) (decide_eq_true hp.un)
  omega
 |f+1,s,y,aq,P,hf,hp=>by
  have key:∀(R L:List Nat) (s':Sc),(∀e∈L++R,∃a,G.J e y a)→(L++R).Nodup→G.Inv s y aq P (fun e=>e∈L) s'→G.Inv s y aq P (fun e=>e∈L++R) (R.foldl (bP G so (fun y i=>cz G so f y (some i)) y aq) s'):=by
   intro R
   induction R with
   |nil=>intro L s' _ _ hi;simpa using hi
   |cons i R ih=>
    intro L s' hJ b7 hi
    obtain ⟨z,hj⟩:=hJ i (by simp)
    have hni:i∉L:=fun hL=>(List.nodup_append.1 b7).2.2 i hL i (by simp) rfl
    have h1:=ig hG hsp (vis:=fun y i=>cz G so f y (some i)) hp hi (fun k u hk hu=>jv hsp f (by
     have h2:G.gG s'<G.gG s:=mA (fun v hv=>by rw [(hi.keep v hv).1];exact hv) hp.hy hp.un (by rw [hi.ny];omega)
     have h3:G.gG {s' with stk:=s'.stk++ [k]} =G.gG s':=rfl
     omega) (ki hG hp hi hk hu)) hj hni
    have h2:=ih (L++ [i]) _ (by simpa using hJ) (by simpa using b7) (eO hG (fun e a _=>by simp) h1)
    simpa using h2
  have:=key (G.ends y) [] (iC s y) (fun e he=>by simpa using eM.1 he) (by simpa using mw) (eO hG (fun e a _=>by simp) (lB hG hp))
  exact eO hG (fun e a hJ=>by simpa using eM.2 ⟨a,hJ⟩) this
structure xX (G:UG) (s:Sc) (k:Nat):Prop where
 ln:s.num.length=G.n
 ll:s.low.length=G.n
 met:∀v,v<k→s.nm v≠0
 bl:∀v i a,s.nm v≠0→G.J i v a→s.nm a≠0
 le:∀v,s.nm v≤s.cnt
 inj:∀u v,s.nm u≠0→s.nm u=s.nm v→u=v
 stk:s.stk= []
 nd:s.blk.flatten.Nodup
 mem:∀e,e∈s.blk.flatten↔∃d a,s.nm d≠0∧G.J e d a
 cls:∀b∈s.blk,G.sq b
theorem oa (hsp:∀l,(so l).Perm l) {s:Sc} {k:Nat} (hk:k<G.n) (h:G.xX s k):G.xX (kQ G so s k) (k+1):=by
 unfold kQ
 by_cases h0:s.nm k=0
 rotate_left
 ·rw [if_neg h0]
  refine ⟨h.ln,h.ll,fun v hv=> ?_,h.bl,h.le,h.inj,h.stk,h.nd,h.mem,h.cls⟩
  by_cases e:v=k
  ·subst e;exact h0
  ·exact h.met v (by omega)
 rw [if_pos h0]
 have hp:G.Pre s k none []:=⟨h.ln,h.ll,hk,h0,⟨by simp,by simp,trivial⟩,fun v i a hv _ hJ=>h.bl v i a hv hJ,h.le,h.inj, .inl ⟨rfl,rfl⟩,fun e he=> .inr fun a b hJ=>by
  rw [h.stk,List.nil_append,h.mem] at he
  obtain ⟨d,c,h1,h2⟩:=he
  rcases h2.two hJ with ⟨rfl,rfl⟩|⟨rfl,rfl⟩
  ·exact h1
  ·exact h.bl _ _ _ h1 h2⟩
 have hu:G.gG s≤G.n+1:=by
  unfold gG
  have:=List.countP_le_length (l:=List.range G.n) (p:=fun v=>decide (s.nm v=0))
  rw [List.length_range] at this
  omega
 have hi:=jv hG hsp (G.n+1) hu hp
 generalize cz G so (G.n+1) k none s=s' at hi
 have jl:∀v,s.nm v≠0→s'.nm v=s.nm v:=fun v hv=>(hi.keep v hv).1
 obtain ⟨S,B,h1,h2,h3,h4,h5,h6⟩:=hi.sb
 have hS:S= []:=by
  refine List.eq_nil_iff_forall_not_mem.2 fun e he=> ?_
  obtain ⟨i,hi',_⟩:=h5 e he
  cases hi'
 subst hS
 simp only [List.nil_append] at h3 h4
 have hpart:∀v,s'.nm v≠0→s.nm v≠0∨dc s s' v:=fun v hv=>by unfold dc;omega
 refine ⟨hi.ln,hi.ll,fun v hv=> ?_,fun v i a hv hJ=> ?_,hi.le,hi.inj,by rw [h1,h.stk];rfl, ?_,fun e=> ?_,fun b hb=> ?_⟩
 ·by_cases e:v=k
  ·subst e;rw [hi.ny];omega
  ·have:=h.met v (by omega);rw [jl v this];exact this
 ·rcases hpart v hv with h7|h7
  ·have:=h.bl v i a h7 hJ
   rw [jl a this];exact this
  ·rcases hi.q1 i v a h7 (.inr trivial) hJ with h8|h8
   ·exact h8.2
   ·simp at h8
 ·rw [h2,List.flatten_append,List.nodup_append]
  refine ⟨h.nd,h3,fun a ha b hb=> ?_⟩
  rintro rfl
  obtain ⟨d,c,g1,g2⟩:=(h.mem a).1 ha
  obtain ⟨_,d',c',g3,_,g4⟩:=(h4 a).1 hb
  rcases g2.two g4 with ⟨rfl,rfl⟩|⟨rfl,rfl⟩
  ·exact g1 g3.1
  ·exact h.bl _ _ _ g1 g2 g3.1
 ·rw [h2,List.flatten_append,List.mem_append,h.mem,h4]
  constructor
  ·rintro (⟨d,a,g1,g2⟩|⟨_,d,a,g1,_,g2⟩)
   ·exact ⟨d,a,by rw [jl d g1];exact g1,g2⟩
   ·exact ⟨d,a,g1.2,g2⟩
  ·rintro ⟨d,a,g1,g2⟩
   rcases hpart d g1 with g3|g3
   ·exact .inl ⟨d,a,g3,g2⟩
   ·exact .inr ⟨by simp,d,a,g3, .inr trivial,g2⟩
 ·rw [h2] at hb
  rcases List.mem_append.1 hb with hb|hb
  ·exact h.cls b hb
  ·exact h6 b hb
theorem lD (hsp:∀l,(so l).Perm l):(bK G so).flatten.Nodup∧(∀e,e∈(bK G so).flatten↔e<G.m)∧∀b∈bK G so,G.sq b:=by
 have h0:∀v,G.bD.nm v=0:=fun v=>by
  unfold Sc.nm bD
  rw [List.getD_eq_getElem?_getD,List.getElem?_replicate]
  split<;>rfl
 have start:G.xX (bD G) 0:=⟨by simp [bD],by simp [bD],by simp,fun v i a hv=>absurd (h0 v) hv,fun v=>by rw [h0];exact Nat.zero_le _,fun u v hu=>absurd (h0 u) hu,rfl,by simp [bD],fun e=>by
  simp only [bD,List.flatten_nil,List.not_mem_nil,false_iff,not_exists,not_and]
  exact fun d a hd=>absurd (h0 d) hd,by simp [bD]⟩
 have key:∀k,k≤G.n→G.xX ((List.range k).foldl (kQ G so) (bD G)) k:=by
  intro k
  induction k with
  |zero=>intro _;exact start
  |succ k ih=>
   intro hk
   rw [List.range_succ,List.foldl_append]
   exact oa hG hsp (by omega) (ih (by omega))
 have h:=key G.n (Nat.le_refl _)
 refine ⟨h.nd,fun e=> ?_,h.cls⟩
 unfold bK
 rw [h.mem]
 constructor
 ·rintro ⟨d,a,_,h2⟩;exact h2.1
 ·intro he;exact ⟨G.T e,G.H e,h.met _ (hG.t e he),J.self he⟩
end
end UG
end Go.Ab
end
section
namespace Go.Ab
set_option maxRecDepth 10000
set_option linter.unusedSectionVars false
namespace UG
variable {G:UG}
theorem kj:∀ {a b:List Nat},a.Pairwise (· < ·)→b.Pairwise (· < ·)→(∀x,x∈a↔x∈b)→a=b
 | [], [],_,_,_=>rfl
 | [],y::b,_,_,h=>absurd ((h y).2 (by simp)) (by simp)
 |x::a, [],_,_,h=>absurd ((h x).1 (by simp)) (by simp)
 |x::a,y::b,ha,hb,h=>by
  rw [List.pairwise_cons] at ha hb
  have e:x=y:=by
   rcases List.mem_cons.1 ((h x).1 (by simp)) with h1|h1
   ·exact h1
   ·rcases List.mem_cons.1 ((h y).2 (by simp)) with h2|h2
    ·exact h2.symm
    ·have:=ha.1 y h2
     have:=hb.1 x h1
     omega
  subst e
  have:a=b:=kj ha.2 hb.2 fun z=>by
   constructor
   ·intro hz
    rcases List.mem_cons.1 ((h z).1 (List.mem_cons_of_mem _ hz)) with h1|h1
    ·subst h1;have:=ha.1 z hz;omega
    ·exact h1
   ·intro hz
    rcases List.mem_cons.1 ((h z).2 (List.mem_cons_of_mem _ hz)) with h1|h1
    ·subst h1;have:=hb.1 z hz;omega
    ·exact h1
  rw [this]
theorem gH {n:Nat} :(List.range n).Pairwise (· < ·):=List.pairwise_lt_range
open Classical in
noncomputable def sw (G:UG) (i:Nat):Bool:=decide (∀k,G.Sm i k→i≤k)
open Classical in
noncomputable def cL (G:UG) (i:Nat):List Nat:=(List.range G.m).filter fun k=>decide (G.Sm i k)
noncomputable def aT (G:UG):List (List Nat):=((List.range G.m).filter fun i=>G.sw i).map G.cL
theorem dm {i:Nat} :G.sw i=true↔∀k,G.Sm i k→i≤k:=by unfold sw;simp
theorem bX {i k:Nat} :k∈G.cL i↔k<G.m∧G.Sm i k:=by unfold cL;simp
theorem ko {i:Nat} :(G.cL i).Pairwise (· < ·):=gH.filter _
theorem uh {i:Nat} (hi:i<G.m) (hl:G.sw i=true):∃r,G.cL i=i::r:=by
 have h1:i∈G.cL i:=bX.2 ⟨hi, .refl⟩
 have h2:=ko (G:=G) (i:=i)
 cases hc:G.cL i with
 |nil=>rw [hc] at h1;simp at h1
 |cons a r=>
  rw [hc] at h1 h2
  have ha:a∈G.cL i:=by rw [hc];simp
  have h3:=dm.1 hl a (bX.1 ha).2
  rcases List.mem_cons.1 h1 with h4|h4
  ·exact ⟨r,by rw [h4]⟩
  ·have:=(List.pairwise_cons.1 h2).1 i h4
   omega
theorem uj {b:List Nat} (h:G.sq b) (hr:b.Pairwise (· < ·)):∃i r,b=i::r∧i<G.m∧G.sw i=true∧b=G.cL i:=by
 obtain ⟨j,hj,h1,h2⟩:=h
 have hb:∀i∈b,b=G.cL i:=fun i hi=>kj hr ko fun k=>by
  have h3:=(h2 i).1 hi
  rw [bX,h2]
  exact ⟨fun h4=>⟨h4.lt hj,h3.symm.trans h4⟩,fun h4=>h3.trans h4.2⟩
 cases b with
 |nil=>simp at h1
 |cons i r=>
  have hc:=hb i (by simp)
  have hi:=(h2 i).1 (by simp)
  refine ⟨i,r,rfl,hi.lt hj,dm.2 fun k hk=> ?_,hc⟩
  have:k∈i::r:=by rw [hc,bX];exact ⟨hk.lt (hi.lt hj),hk⟩
  rcases List.mem_cons.1 this with h4|h4
  ·omega
  ·have:=(List.pairwise_cons.1 hr).1 k h4
   omega
theorem qC {L:List (List Nat)} (h1:L.flatten.Nodup) (h2:∀e,e∈L.flatten↔e<G.m) (h3:∀b∈L,G.sq b) (h4:∀b∈L,b.Pairwise (· < ·)) (h5:L.Pairwise fun a b=>a.headD 0≤b.headD 0):L=G.aT:=by
 have hh:∀b∈L,b=G.cL (b.headD 0)∧b.headD 0<G.m∧G.sw (b.headD 0)=true∧b.headD 0∈b:=fun b hb=>by
  obtain ⟨i,r,rfl,e1,e2,e3⟩:=uj (h3 b hb) (h4 b hb)
  exact ⟨e3,e1,e2,by simp⟩
 have hd:L.map (fun b=>b.headD 0)=(List.range G.m).filter fun i=>G.sw i:=by
  refine kj ?_ (gH.filter _) fun i=> ?_
  ·rw [List.pairwise_map]
   have b7:L.Pairwise fun a b=>a.headD 0≠b.headD 0:=by
    have:∀M:List (List Nat),(∀b∈M,b.headD 0∈b)→M.flatten.Nodup→M.Pairwise fun a b=>a.headD 0≠b.headD 0:=by
     intro M
     induction M with
     |nil=>intro _ _;exact .nil
     |cons a M ih=>
      intro hM hN
      rw [List.flatten_cons,List.nodup_append] at hN
      refine List.pairwise_cons.2 ⟨fun b hb e=> ?_,ih (fun b hb=>hM b (List.mem_cons_of_mem _ hb)) hN.2.1⟩
      exact hN.2.2 _ (hM a (by simp)) _ (List.mem_flatten.2 ⟨b,hb,hM b (List.mem_cons_of_mem _ hb)⟩) e
    exact this L (fun b hb=>(hh b hb).2.2.2) h1
   refine h5.imp₂ (fun a b e1 e2=> ?_) b7
   omega
  ·simp only [List.mem_map,List.mem_filter,List.mem_range]
   constructor
   ·rintro ⟨b,hb,rfl⟩
    exact ⟨(hh b hb).2.1,(hh b hb).2.2.1⟩
   ·rintro ⟨e1,e2⟩
    obtain ⟨b,hb,hi⟩:=List.mem_flatten.1 ((h2 i).2 e1)
    refine ⟨b,hb, ?_⟩
    have h6:=hh b hb
    rw [h6.1] at hi
    have h7:=(bX.1 hi).2
    have h8:=dm.1 e2 _ h7.symm
    have h9:=dm.1 h6.2.2.1 _ h7
    omega
 unfold aT
 rw [← hd,List.map_map]
 have:L.map id=L.map (G.cL ∘ fun b=>b.headD 0):=List.map_congr_left fun b hb=>(hh b hb).1
 rw [List.map_id] at this
 exact this
theorem kq {b:List Nat} (hb:b∈G.aT):G.sq b∧b.Pairwise (· < ·):=by
 unfold aT at hb
 obtain ⟨i,hi,rfl⟩:=List.mem_map.1 hb
 rw [List.mem_filter,List.mem_range] at hi
 refine ⟨⟨i,hi.1,bX.2 ⟨hi.1, .refl⟩,fun k=> ?_⟩,ko⟩
 rw [bX]
 exact ⟨fun h=>h.2,fun h=>⟨h.lt hi.1,h⟩⟩
inductive iD (G:UG) (D A:Nat→Prop) (x:Nat):Nat→Prop
 |refl:A x→iD G D A x x
 |step {y z i:Nat} :iD G D A x y→D i→G.J i y z→A z→iD G D A x z
theorem iD.yJ {D A:Nat→Prop} {x y:Nat} (h:G.iD D A x y):A y:=by
 cases h with
 |refl h=>exact h
 |step _ _ _ h=>exact h
theorem iD.fst {D A:Nat→Prop} {x y:Nat} (h:G.iD D A x y):A x:=by
 induction h with
 |refl h=>exact h
 |step _ _ _ _ ih=>exact ih
theorem iD.trans {D A:Nat→Prop} {x y z:Nat} (h:G.iD D A x y) (k:G.iD D A y z):G.iD D A x z:=by
 induction k with
 |refl _=>exact h
 |step _ d j a ih=>exact .step ih d j a
theorem iD.one {D A:Nat→Prop} {x y i:Nat} (d:D i) (h:G.J i x y) (hx:A x) (hy:A y):G.iD D A x y:= .step (.refl hx) d h hy
theorem iD.symm {D A:Nat→Prop} {x y:Nat} (h:G.iD D A x y):G.iD D A y x:=by
 induction h with
 |refl h=>exact .refl h
 |step h d j a ih=>exact (iD.one d j.symm a h.yJ).trans ih
theorem iD.cn {D A:Nat→Prop} {x y:Nat} (h:G.iD D A x y):G.Cn A x y:=by
 induction h with
 |refl h=>exact .refl h
 |step _ _ j a ih=>exact .step ih j a
theorem iD.mono {D D' A A':Nat→Prop} (hD:∀i,D i→D' i) (hA:∀i,A i→A' i) {x y:Nat} (h:G.iD D A x y):G.iD D' A' x y:=by
 induction h with
 |refl h=>exact .refl (hA _ h)
 |step _ d j a ih=>exact .step ih (hD _ d) j (hA _ a)
inductive Pa (G:UG) (b:Nat):Nat→List Nat→Prop
 |nil:Pa G b b []
 |cons {a c e:Nat} {r:List Nat} :G.J e a c→Pa G b c r→Pa G b a (c::r)
theorem Pa.cn {b a:Nat} {r:List Nat} (h:G.Pa b a r) {A:Nat→Prop} (hA:∀u∈a::r,A u):G.Cn A a b:=by
 induction h with
 |nil=>exact .refl (hA _ (by simp))
 |cons j _ ih=>
  exact (Cn.one j (hA _ (by simp)) (hA _ (by simp))).trans (ih fun u hu=>hA u (List.mem_cons_of_mem _ hu))
theorem Pa.last {b a:Nat} {r:List Nat} (h:G.Pa b a r):b∈a::r:=by
 induction h with
 |nil=>simp
 |cons _ _ ih=>exact List.mem_cons_of_mem _ ih
theorem Pa.cut {b a:Nat} {r:List Nat} (h:G.Pa b a r) {z:Nat} (hz:z∈a::r):∃r',G.Pa b z r'∧(z::r').Sublist (a::r):=by
 induction h with
 |nil=>
  rw [List.mem_singleton] at hz
  subst hz
  exact ⟨[], .nil,List.Sublist.refl _⟩
 | @cons a c e r j h ih=>
   rcases List.mem_cons.1 hz with rfl|hz
   ·exact ⟨c::r, .cons j h,List.Sublist.refl _⟩
   ·obtain ⟨r',h1,h2⟩:=ih hz
    exact ⟨r',h1,h2.cons a⟩
theorem Pa.of {A:Nat→Prop} {b a:Nat} (h:G.Cn A b a):∃r,G.Pa b a r∧(a::r).Nodup∧∀u∈a::r,A u:=by
 induction h with
 |refl h=>exact ⟨[], .nil,by simp,by simpa using h⟩
 | @step y z i _ j a ih=>
   obtain ⟨r,h1,h2,h3⟩:=ih
   by_cases hz:z∈y::r
   ·obtain ⟨r',h4,h5⟩:=h1.cut hz
    exact ⟨r',h4,h2.sublist h5,fun u hu=>h3 u (h5.subset hu)⟩
   ·refine ⟨y::r, .cons j.symm h1,List.nodup_cons.2 ⟨hz,h2⟩,fun u hu=> ?_⟩
    rcases List.mem_cons.1 hu with rfl|hu
    ·exact a
    ·exact h3 u hu
theorem uk {b:Nat} {a:Nat} {r:List Nat} (h:G.Pa b a r):∀ {i v:Nat},G.J i v a→(a::r).Nodup→v∉a::r→(∀u∈a::r,u≠b→G.Cn (fun w=>w≠u) v b)→G.iD (G.Sm i) (fun u=>u∈a::r) a b:=by
 induction h with
 |nil=>intro i v _ _ _ _;exact .refl (by simp)
 | @cons a c e r j hP ih=>
   intro i v hi b7 hv kO
   rw [List.nodup_cons] at b7
   have hba:a≠b:=fun e=>b7.1 (e ▸ hP.last)
   have hR:G.R i e:=by
    refine ⟨a,v,c,hi.symm,j,(kO a (by simp) hba).trans (hP.cn (A:=fun w=>w≠a) fun u hu e'=>b7.1 (e' ▸ hu)).symm⟩
   have Gt:v≠a:=fun e=>hv (by rw [e];simp)
   have h1:=ih (i:=e) (v:=a) j b7.2 b7.1 fun u hu Fi=>by
    have h2:=kO u (List.mem_cons_of_mem _ hu) Fi
    refine (Cn.one hi.symm (fun e=>b7.1 (by rw [e];exact hu)) (fun e=>hv (by rw [e];exact List.mem_cons_of_mem _ hu))).trans h2
   have hS:G.Sm i e:= .step .refl hR
   exact (iD.one hS j (by simp) (by simp)).trans (h1.mono (fun k hk=>hS.trans hk) fun u hu=>List.mem_cons_of_mem _ hu)
section
variable (hG:G.Ok)
include hG
theorem CY {i k gone u w:Nat} (r:G.R i k) (hu:∃u',G.J i u u') (hw:∃w',G.J k w w') (yO:u≠gone) (yP:w≠gone):G.iD (G.Sm i) (fun v=>v≠gone) u w:=by
 obtain ⟨v,a,b,h1,h2,h3⟩:=r
 have hk:G.Sm i k:= .step .refl ⟨v,a,b,h1,h2,h3⟩
 obtain ⟨u',hu⟩:=hu
 obtain ⟨w',hw⟩:=hw
 by_cases hv:v=gone
 ·subst hv
  have eu:u=a:=by
   rcases h1.two hu with ⟨e,_⟩|⟨e,_⟩
   ·exact absurd e yO
   ·exact e
  have ew:w=b:=by
   rcases h2.two hw with ⟨e,_⟩|⟨e,_⟩
   ·exact absurd e yP
   ·exact e
  subst eu ew
  obtain ⟨r,h4,h5,h6⟩:=Pa.of h3.symm
  refine (uk h4 h1 h5 (fun hv=>h6 v hv rfl) fun x hx Fj=> ?_).mono (fun _ h=>h) fun x hx=>h6 x hx
  exact .one h2 (Ne.symm (h6 x hx)) (Ne.symm Fj)
 ·have huv:G.iD (G.Sm i) (fun v=>v≠gone) u v:=by
   rcases h1.two hu with ⟨rfl,_⟩|⟨rfl,_⟩
   ·exact .refl yO
   ·exact .one .refl h1.symm yO hv
  have CZ:G.iD (G.Sm i) (fun v=>v≠gone) v w:=by
   rcases h2.two hw with ⟨rfl,_⟩|⟨rfl,_⟩
   ·exact .refl yP
   ·exact .one hk h2 hv yP
  exact huv.trans CZ
theorem rC {i k gone u w:Nat} (hi:i<G.m) (hS:G.Sm i k) (hu:∃u',G.J i u u') (hw:∃w',G.J k w w') (yO:u≠gone) (yP:w≠gone):G.iD (G.Sm i) (fun v=>v≠gone) u w:=by
 induction hS generalizing w with
 |refl=>
  obtain ⟨u',hu⟩:=hu
  obtain ⟨w',hw⟩:=hw
  rcases hu.two hw with ⟨rfl,_⟩|⟨rfl,rfl⟩
  ·exact .refl yO
  ·exact .one .refl hu yO yP
 | @step j k hS r ih=>
   have hj:=hS.lt hi
   obtain ⟨x,hx,DT⟩:∃x,(∃x',G.J j x x')∧x≠gone:=by
    by_cases e:G.T j=gone
    ·exact ⟨G.H j,⟨_,(J.self hj).symm⟩,fun e'=>hG.ne j hj (by rw [e,e'])⟩
    ·exact ⟨G.T j,⟨_,J.self hj⟩,e⟩
   exact (ih hx DT).trans ((CY hG r hx hw DT yP).mono (fun _ h=>hS.trans h) fun _ h=>h)
theorem xY {i k x a b:Nat} (hS:G.Sm i k) (h1:G.J i x a) (h2:G.J k x b):G.Cn (fun v=>v≠x) a b:=
 (rC hG h1.1 hS ⟨x,h1.symm⟩ ⟨x,h2.symm⟩ (Ne.symm (h1.lt hG).2.2) (Ne.symm (h2.lt hG).2.2)).cn
end
end UG
end Go.Ab
end
section
namespace Go.Ab
set_option maxRecDepth 10000
set_option linter.unusedSectionVars false
namespace UG
variable {G:UG}
open Classical in
noncomputable def Fk (G:UG) (x i k:Nat):Bool:=decide (∃a b,G.J i x a∧G.J k x b∧G.Cn (fun u=>u≠x) a b)
def C1 (a:List Nat) (i k:Nat):List Nat:=(a.set i (min (a.getD i 0) (a.getD k 0))).set k (min (a.getD i 0) (a.getD k 0))
noncomputable def Ap (G:UG) (x i:Nat) (s:List Nat × Bool):Nat→List Nat × Bool
 |0=>s
 |k+1=>if (G.Fk x i k&&decide ((Ap G x i s k).1.getD i 0≠(Ap G x i s k).1.getD k 0))=true then (C1 (Ap G x i s k).1 i k,true) else Ap G x i s k
noncomputable def Aq (G:UG) (x:Nat) (s:List Nat × Bool):Nat→List Nat × Bool
 |0=>s
 |i+1=>Ap G x i (Aq G x s i) G.m
noncomputable def C2 (G:UG) (s:List Nat × Bool):Nat→List Nat × Bool
 |0=>s
 |x+1=>Aq G x (C2 G s x) G.m
structure Lb (G:UG) (a:List Nat):Prop where
 len:a.length=G.m
 uY:∀i,i<G.m→a.getD i 0≤i∧G.Sm i (a.getD i 0)
def Dn (s t:List Nat × Bool):Prop:=t=s∨(t.2=true∧t.1.sum<s.1.sum)
theorem Dn.trans {s t u:List Nat × Bool} (h:Dn s t) (k:Dn t u):Dn s u:=by
 rcases k with rfl|⟨k1,k2⟩
 ·exact h
 ·rcases h with rfl|⟨h1,h2⟩
  ·exact .inr ⟨k1,k2⟩
  ·exact .inr ⟨k1,by omega⟩
theorem Dn.same {s t:List Nat × Bool} (h:Dn s t) (hf:t.2=false):t=s:=by
 rcases h with h|⟨h,_⟩
 ·exact h
 ·rw [h] at hf;cases hf
structure Gu (G:UG) (a:List Nat):Prop extends Lb G a where
 eq:∀i k,i<G.m→G.Sm i k→a.getD i 0=a.getD k 0
def C3 (G:UG):List Nat:=List.range G.m
end UG
end Go.Ab
end
section
namespace Go.Ab
set_option maxRecDepth 10000
set_option linter.unusedSectionVars false
namespace UG
variable {G:UG}
def Cut (G:UG) (x:Nat):Prop:=∃i k a b,G.J i x a∧G.J k x b∧¬G.Sm i k
def rD (G:UG) (A:Nat→Prop) (v:Nat):Prop:=A v∧∀y,G.Cn A v y→v≤y
open Classical in
noncomputable def fT (G:UG) (A:Nat→Prop):Nat:=((List.range G.n).filter fun v=>decide (G.rD A v)).length
theorem mE {A:Nat→Prop} :∀(v:Nat),A v→∃u,G.Cn A v u∧G.rD A u
 |v,hv=>by
  by_cases h:∀y,G.Cn A v y→v≤y
  ·exact ⟨v, .refl hv,hv,h⟩
  ·simp only [Classical.not_forall,Nat.not_le] at h
   obtain ⟨y,h1,h2⟩:=h
   obtain ⟨u,h3,h4⟩:=mE y h1.yJ
   exact ⟨u,h1.trans h3,h4⟩
 termination_by v=>v
theorem qD {A:Nat→Prop} {u v:Nat} (hu:G.rD A u) (hv:G.rD A v) (h:G.Cn A u v):u=v:=
 Nat.le_antisymm (hu.2 v h) (hv.2 u h.symm)
theorem um (hG:G.Ok) {A:Nat→Prop} {u v:Nat} (hu:u<G.n) (h:G.Cn A u v):v<G.n:=by
 cases h with
 |refl _=>exact hu
 |step _ j _=>exact (j.lt hG).2.1
theorem qE {f:Nat→Nat} :∀ {l:List Nat} {l':List Nat},l.Nodup→(∀a∈l,f a∈l')→(∀a∈l,∀b∈l,f a=f b→a=b)→(l.map f).Nodup∧l.length≤l'.length:=by
 intro l l' hn hm hi
 have h1:(l.map f).Nodup:=by
  induction l with
  |nil=>simp
  |cons a l ih=>
   rw [List.nodup_cons] at hn
   rw [List.map_cons,List.nodup_cons]
   refine ⟨fun h=> ?_,ih hn.2 (fun a ha=>hm a (List.mem_cons_of_mem _ ha)) fun a ha b hb=>hi a (List.mem_cons_of_mem _ ha) b (List.mem_cons_of_mem _ hb)⟩
   obtain ⟨b,hb,e⟩:=List.mem_map.1 h
   have:=hi b (List.mem_cons_of_mem _ hb) a (by simp) e
   exact hn.1 (by rw [← this];exact hb)
 refine ⟨h1, ?_⟩
 have:=h1.length_le_of_subset (l₂:=l') fun b hb=>by
  obtain ⟨a,ha,rfl⟩:=List.mem_map.1 hb
  exact hm a ha
 rwa [List.length_map] at this
open Classical in
theorem fq {A:Nat→Prop} {v:Nat} :v∈(List.range G.n).filter (fun v=>decide (G.rD A v))↔v<G.n∧G.rD A v:=by simp
section
variable (hG:G.Ok)
include hG
theorem beside {x v:Nat} (hx:¬G.Cut x) (hv:v≠x) {z:Nat} (h:G.Cn (fun _=>True) v z):(z≠x→G.Cn (fun u=>u≠x) v z)∧(z=x→∃e p,G.J e x p∧G.Cn (fun u=>u≠x) v p):=by
 induction h with
 |refl _=>exact ⟨fun h=> .refl h,fun h=>absurd h hv⟩
 | @step y z i _ j _ ih=>
   refine ⟨fun hz=> ?_,fun hz=> ?_⟩
   ·by_cases hy:y=x
    ·subst hy
     obtain ⟨e,p,h1,h2⟩:=ih.2 rfl
     have hS:G.Sm e i:=Classical.byContradiction fun h0=>hx ⟨e,i,p,z,h1,j,h0⟩
     exact h2.trans (xY hG hS h1 j)
    ·exact .step (ih.1 hy) j hz
   ·subst hz
    have hy:y≠z:=(j.lt hG).2.2
    exact ⟨i,y,j.symm,ih.1 hy⟩
open Classical in
theorem xZ {x:Nat} (hx:¬G.Cut x):fT G (fun u=>u≠x)≤fT G (fun _=>True):=by
 unfold fT
 have hf:∀v,∃u,G.Cn (fun _=>True) v u∧G.rD (fun _=>True) u:=fun v=>mE v trivial
 refine (qE (f:=fun v=>(hf v).choose) (List.nodup_range.filter _) (fun v hv=> ?_) fun v hv w hw e=> ?_).2
 ·rw [fq] at hv ⊢
  have h1:=(hf v).choose_spec
  exact ⟨um hG hv.1 h1.1,h1.2⟩
 ·rw [fq] at hv hw
  have h1:=(hf v).choose_spec.1
  have h2:=(hf w).choose_spec.1
  rw [← (show (hf v).choose=(hf w).choose from e)] at h2
  exact qD hv.2 hw.2 ((beside hG hx hv.2.1 (h1.trans h2.symm)).1 hw.2.1)
open Classical in
theorem uo {x:Nat} (hx:G.Cut x):fT G (fun _=>True)<fT G (fun u=>u≠x):=by
 obtain ⟨i,k,a,b,h1,h2,h3⟩:=hx
 have hab:¬G.Cn (fun u=>u≠x) a b:=fun h=>h3 (.step .refl ⟨x,a,b,h1,h2,h⟩)
 obtain ⟨u,C4,Fl⟩:=mE (G:=G) (A:=fun u=>u≠x) a (Ne.symm (h1.lt hG).2.2)
 obtain ⟨w,hw1,Fm⟩:=mE (G:=G) (A:=fun u=>u≠x) b (Ne.symm (h2.lt hG).2.2)
 have DU:G.Cn (fun _=>True) x u:=(Cn.one h1 trivial trivial).trans (C4.mono fun _ _=>trivial)
 have Fo:G.Cn (fun _=>True) x w:=(Cn.one h2 trivial trivial).trans (hw1.mono fun _ _=>trivial)
 have hun:u<G.n:=um hG (h1.lt hG).2.1 C4
 have hwn:w<G.n:=um hG (h2.lt hG).2.1 hw1
 have Fp:u≠w:=fun e=>hab (C4.trans (by rw [e];exact hw1.symm))
 let f:Nat→Nat:=fun v=>if G.Cn (fun _=>True) x v then u else v
 have key:=qE (f:=f) (l:=(List.range G.n).filter fun v=>decide (G.rD (fun _=>True) v)) (l':=((List.range G.n).filter fun v=>decide (G.rD (fun u=>u≠x) v)).erase w) (List.nodup_range.filter _) (fun v hv=> ?_) fun v hv v' s6 e=> ?_
 ·have qz:w∈(List.range G.n).filter fun v=>decide (G.rD (fun u=>u≠x) v):=fq.2 ⟨hwn,Fm⟩
  have:=key.2
  rw [List.length_erase_of_mem qz] at this
  have:=List.length_pos_of_mem qz
  unfold fT
  omega
 ·rw [fq] at hv
  show (if _ then _ else _)∈_
  split
  ·rw [List.mem_erase_of_ne Fp,fq]
   exact ⟨hun,Fl⟩
  ·rename_i hc
   have CZ:v≠w:=fun e=>hc (by rw [e];exact Fo)
   rw [List.mem_erase_of_ne CZ,fq]
   exact ⟨hv.1,fun e=>hc (by rw [e];exact .refl trivial),fun y hy=>hv.2.2 y (hy.mono fun _ _=>trivial)⟩
 ·rw [fq] at hv s6
  have e':(if G.Cn (fun _=>True) x v then u else v)=if G.Cn (fun _=>True) x v' then u else v':=e
  split at e'<;>split at e'
  ·rename_i c1 c2
   exact qD hv.2 s6.2 (c1.symm.trans c2)
  ·rename_i c1 c2
   exact absurd (by rw [← e'];exact DU) c2
  ·rename_i c1 c2
   exact absurd (by rw [e'];exact DU) c1
  ·exact e'
theorem vC {x:Nat} :G.Cut x↔fT G (fun _=>True)<fT G (fun u=>u≠x):=by
 constructor
 ·exact uo hG
 ·intro h
  refine Classical.byContradiction fun h0=> ?_
  have:=xZ hG h0
  omega
end
def cH (G:UG) (b:List Nat) (x:Nat):Bool:=b.any fun i=>decide (G.T i=x)||decide (G.H i=x)
theorem ir {b:List Nat} (hb:∀i∈b,i<G.m) {x:Nat} :cH G b x=true↔∃i∈b,∃a,G.J i x a:=by
 unfold cH
 simp only [List.any_eq_true,Bool.or_eq_true,decide_eq_true_eq]
 constructor
 ·rintro ⟨i,h1,h2|h2⟩
  ·exact ⟨i,h1,_,hb i h1, .inl ⟨h2,rfl⟩⟩
  ·exact ⟨i,h1,_,hb i h1, .inr ⟨rfl,h2⟩⟩
 ·rintro ⟨i,h1,a,_,h2|h2⟩
  ·exact ⟨i,h1, .inl h2.1⟩
  ·exact ⟨i,h1, .inr h2.2⟩
theorem iu {b:List Nat} (hb:b∈G.aT) {i:Nat} (hi:i∈b):i<G.m:=by
 unfold aT at hb
 obtain ⟨j,_,rfl⟩:=List.mem_map.1 hb
 exact (bX.1 hi).1
theorem qF {i:Nat} (hi:i<G.m):∃b∈G.aT,i∈b:=by
 obtain ⟨j,h1,h2⟩:∃j,G.Sm i j∧∀k,G.Sm i k→j≤k:=by
  have:∀n,∀j,j≤n→G.Sm i j→∃j,G.Sm i j∧∀k,G.Sm i k→j≤k:=by
   intro n
   induction n with
   |zero=>intro j hj hS;exact ⟨j,hS,fun k _=>by omega⟩
   |succ n ih=>
    intro j hj hS
    by_cases h:∀k,G.Sm i k→j≤k
    ·exact ⟨j,hS,h⟩
    ·simp only [Classical.not_forall,Nat.not_le] at h
     obtain ⟨k,h1,h2⟩:=h
     exact ih k (by omega) h1
  exact this i i (Nat.le_refl _) .refl
 refine ⟨G.cL j,List.mem_map_of_mem (List.mem_filter.2 ⟨List.mem_range.2 (h1.lt hi),dm.2 fun k hk=>h2 k (h1.trans hk)⟩),bX.2 ⟨hi,h1.symm⟩⟩
theorem uq {b c:List Nat} (hb:b∈G.aT) (hc:c∈G.aT) {i k:Nat} (hi:i∈b) (hk:k∈c) (hS:G.Sm i k):b=c:=by
 unfold aT at hb hc
 obtain ⟨x,hx,rfl⟩:=List.mem_map.1 hb
 obtain ⟨y,hy,rfl⟩:=List.mem_map.1 hc
 rw [List.mem_filter,List.mem_range] at hx hy
 have h1:=(bX.1 hi).2.trans (hS.trans (bX.1 hk).2.symm)
 have h2:=dm.1 hx.2 y h1
 have h3:=dm.1 hy.2 x h1.symm
 have:x=y:=by omega
 rw [this]
theorem vD:G.aT.Nodup:=by
 unfold aT
 have hn:((List.range G.m).filter fun i=>G.sw i).Nodup:=List.nodup_range.filter _
 unfold List.Nodup at hn ⊢
 rw [List.pairwise_map]
 refine hn.imp_of_mem fun {x y} hx hy hne e=>hne ?_
 rw [List.mem_filter,List.mem_range] at hx hy
 have h1:x∈G.cL y:=by rw [← e];exact bX.2 ⟨hx.1, .refl⟩
 have h2:=(bX.1 h1).2
 have h3:=dm.1 hx.2 y h2.symm
 have h4:=dm.1 hy.2 x h2
 omega
theorem jo (hG:G.Ok) {x:Nat} :G.Cut x↔1<(G.aT.filter fun b=>cH G b x).length:=by
 constructor
 ·rintro ⟨i,k,a,b,h1,h2,h3⟩
  obtain ⟨bi,g1,g2⟩:=qF h1.1
  obtain ⟨bk,g3,g4⟩:=qF h2.1
  have hne:bi≠bk:=by
   rintro rfl
   obtain ⟨j,_,_,hj⟩:=(kq g1).1
   exact h3 (((hj i).1 g2).symm.trans ((hj k).1 g4))
  have:=List.Nodup.length_le_of_subset (l₁:= [bi,bk]) (l₂:=G.aT.filter fun b=>cH G b x) (by simp [hne]) fun b hb=>by
   rcases List.mem_cons.1 hb with rfl|hb
   ·exact List.mem_filter.2 ⟨g1,(ir fun i hi=>iu g1 hi).2 ⟨i,g2,a,h1⟩⟩
   ·rw [List.mem_singleton] at hb
    subst hb
    exact List.mem_filter.2 ⟨g3,(ir fun i hi=>iu g3 hi).2 ⟨k,g4,_,h2⟩⟩
  exact this
 ·intro h
  have b7:(G.aT.filter fun b=>cH G b x).Nodup:=vD.filter _
  match hl:G.aT.filter fun b=>cH G b x with
  | []=>rw [hl] at h;simp at h
  | [b]=>rw [hl] at h;simp at h
  |b::c::r=>
   have hb:b∈G.aT.filter fun b=>cH G b x:=by rw [hl];simp
   have hc:c∈G.aT.filter fun b=>cH G b x:=by rw [hl];simp
   rw [List.mem_filter] at hb hc
   obtain ⟨i,h1,a,h2⟩:=(ir fun i hi=>iu hb.1 hi).1 hb.2
   obtain ⟨k,h3,a',h4⟩:=(ir fun i hi=>iu hc.1 hi).1 hc.2
   refine ⟨i,k,a,a',h2,h4,fun hS=> ?_⟩
   have:=uq hb.1 hc.1 h1 h3 hS
   rw [hl,this] at b7
   simp at b7
end UG
end Go.Ab
end
section
namespace Go.Ab
open Go.Proofs
set_option maxRecDepth 10000
def rH (q:Nat→Bool):Nat→Nat
 |0=>0
 |n+1=>rH q n ||| (if q n then 2 ^ n else 0)
theorem fu {q:Nat→Bool} {y:Nat} :∀ {n:Nat},(rH q n).testBit y=(decide (y<n)&&q y)
 |0=>by simp [rH]
 |n+1=>by
  rw [rH,Nat.testBit_or,fu]
  by_cases h:y=n
  ·subst h
   cases hq:q y<;>simp [Nat.testBit_two_pow_self]
  ·have h2:(if q n then 2 ^ n else 0).testBit y=false:=by
    split
    ·rw [Nat.testBit_two_pow];exact decide_eq_false fun e=>h e.symm
    ·simp
   rw [h2,Bool.or_false]
   congr 1
   rw [decide_eq_decide];omega
theorem vE {q:Nat→Bool} {n:Nat} :rH q n<2 ^ n:=by
 refine Nat.lt_pow_two_of_testBit _ fun i hi=> ?_
 rw [fu,decide_eq_false (by omega)];rfl
inductive kr (g:Gr) (both:Bool) (c:Nat→Bool) (x:Nat):Nat→Prop
 |refl:kr g both c x x
 |fwd {i:Nat} :i<g.es.length→c i=true→kr g both c x (tl g i).toNat→kr g both c x (hd g i).toNat
 |wu {i:Nat} :i<g.es.length→c i=true→both=true→kr g both c x (hd g i).toNat→kr g both c x (tl g i).toNat
theorem kr.trans {g:Gr} {both:Bool} {c:Nat→Bool} {x y z:Nat} (h1:kr g both c x y) (h2:kr g both c y z):kr g both c x z:=by
 induction h2 with
 |refl=>exact h1
 |fwd a b _ ih=>exact .fwd a b ih
 |wu a b d _ ih=>exact .wu a b d ih
open Classical in
noncomputable def Be (g:Gr) (both:Bool) (c:Nat→Bool) (x:Nat):Nat:=rH (fun y=>decide (kr g both c x y)) g.n.toNat
noncomputable def lE (g:Gr) (both:Bool) (c:Nat→Bool):List Nat:=(List.range g.n.toNat).map (Be g both c)
theorem iw {g:Gr} {both:Bool} {c:Nat→Bool} :(lE g both c).length=g.n.toNat:=by simp [lE]
theorem pI {g:Gr} {both:Bool} {c:Nat→Bool} {x:Nat} (h:x<g.n.toNat):(lE g both c).getD x 0=Be g both c x:=by
 simp [lE,List.getD_eq_getElem?_getD,List.getElem?_range h]
open Classical in
theorem qG {g:Gr} {both:Bool} {c:Nat→Bool} {x y:Nat} :(Be g both c x).testBit y=true↔y<g.n.toNat∧kr g both c x y:=by
 unfold Be
 rw [fu]
 simp
def aJ (g:Gr) (both:Bool) (c:Nat→Bool) (a:List Nat):Nat→List Nat × Bool
 |0=>(a,false)
 |k+1=>
  let s:=aJ g both c a k
  if c k=true then
   let t:=s.1.getD (tl g k).toNat 0 ||| s.1.getD (hd g k).toNat 0
   let h:=if both=true then t else s.1.getD (hd g k).toNat 0
   ((s.1.set (tl g k).toNat t).set (hd g k).toNat h,s.2||(decide (t≠s.1.getD (tl g k).toNat 0)||decide (h≠s.1.getD (hd g k).toNat 0)))
  else s
theorem iM {g:Gr} {both:Bool} {c:Nat→Bool} {a:List Nat} :∀ {k:Nat},(aJ g both c a k).1.length=a.length
 |0=>rfl
 |k+1=>by
  simp only [aJ]
  split
  ·simp [iM]
  ·exact iM
theorem bh {l:List Nat} {i j:Nat} {a:Nat} (hi:i<l.length):(l.set i a).getD j 0=if j=i then a else l.getD j 0:=by
 rw [List.getD_eq_getElem?_getD,List.getElem?_set]
 by_cases h:i=j
 ·subst h;rw [if_pos rfl,if_pos hi,if_pos rfl];rfl
 ·rw [if_neg h,if_neg (Ne.symm h), ← List.getD_eq_getElem?_getD]
structure sx (g:Gr) (both:Bool) (c:Nat→Bool) (a:List Nat):Prop where
 len:a.length=g.n.toNat
 own:∀x,x<g.n.toNat→(a.getD x 0).testBit x=true
 snd:∀x y,x<g.n.toNat→(a.getD x 0).testBit y=true→y<g.n.toNat∧kr g both c x y
theorem sx.lt {g:Gr} {both:Bool} {c:Nat→Bool} {a:List Nat} (h:sx g both c a) (hn:g.n.toNat≤64) (x:Nat):a.getD x 0<18446744073709551616:=by
 by_cases hx:x<g.n.toNat
 ·have:a.getD x 0<2 ^ 64:=Nat.lt_pow_two_of_testBit _ fun i hi=>by
   cases hb:(a.getD x 0).testBit i with
   |false=>rfl
   |true=>have:=(h.snd x i hx hb).1;omega
  simpa using this
 ·rw [List.getD_eq_getElem?_getD,List.getElem?_eq_none (by rw [h.len];omega)];simp
theorem grow_step {g:Gr} (hm:aN g=true) {both:Bool} {c:Nat→Bool} {a:List Nat} (h:sx g both c a) {i:Nat} (hi:i<g.es.length) (hc:c i=true):
 sx g both c ((a.set (tl g i).toNat (a.getD (tl g i).toNat 0 ||| a.getD (hd g i).toNat 0)).set (hd g i).toNat (if both=true then a.getD (tl g i).toNat 0 ||| a.getD (hd g i).toNat 0 else a.getD (hd g i).toNat 0))∧
 ∀x y,(a.getD x 0).testBit y=true→(((a.set (tl g i).toNat (a.getD (tl g i).toNat 0 ||| a.getD (hd g i).toNat 0)).set (hd g i).toNat (if both=true then a.getD (tl g i).toNat 0 ||| a.getD (hd g i).toNat 0 else a.getD (hd g i).toNat 0)).getD x 0).testBit y=true:=by
 obtain ⟨ht,hh⟩:=ee hm hi
 have ht:0≤tl g i∧tl g i<g.n:=ht
 have hh:0≤hd g i∧hd g i<g.n:=hh
 have hl:=h.len
 have dQ:∀x,((a.set (tl g i).toNat (a.getD (tl g i).toNat 0 ||| a.getD (hd g i).toNat 0)).set (hd g i).toNat (if both=true then a.getD (tl g i).toNat 0 ||| a.getD (hd g i).toNat 0 else a.getD (hd g i).toNat 0)).getD x 0=
  if x=(hd g i).toNat then (if both=true then a.getD (tl g i).toNat 0 ||| a.getD (hd g i).toNat 0 else a.getD (hd g i).toNat 0) else if x=(tl g i).toNat then a.getD (tl g i).toNat 0 ||| a.getD (hd g i).toNat 0 else a.getD x 0:=fun x=>by
  rw [bh (by rw [List.length_set];omega),bh (by omega)]
 have mono:∀x y,(a.getD x 0).testBit y=true→(((a.set (tl g i).toNat (a.getD (tl g i).toNat 0 ||| a.getD (hd g i).toNat 0)).set (hd g i).toNat (if both=true then a.getD (tl g i).toNat 0 ||| a.getD (hd g i).toNat 0 else a.getD (hd g i).toNat 0)).getD x 0).testBit y=true:=fun x y hb=>by
  rw [dQ]
  split
  ·rename_i e;subst e
   split
   ·rw [Nat.testBit_or,hb,Bool.or_true]
   ·exact hb
  ·split
   ·rename_i e;subst e
    rw [Nat.testBit_or,hb,Bool.true_or]
   ·exact hb
 refine ⟨⟨by simp [hl],fun x hx=>mono x x (h.own x hx),fun x y hx hb=> ?_⟩,mono⟩
 have e1:kr g both c (tl g i).toNat (hd g i).toNat:= .fwd hi hc .refl
 rw [dQ] at hb
 split at hb
 ·rename_i e;subst e
  split at hb
  ·rename_i Fq
   rw [Nat.testBit_or,Bool.or_eq_true] at hb
   rcases hb with hb|hb
   ·obtain ⟨g1,g2⟩:=h.snd _ _ (by omega) hb
    exact ⟨g1,(kr.wu hi hc Fq .refl).trans g2⟩
   ·exact h.snd _ _ hx hb
  ·exact h.snd _ _ hx hb
 ·split at hb
  ·rename_i e;subst e
   rw [Nat.testBit_or,Bool.or_eq_true] at hb
   rcases hb with hb|hb
   ·exact h.snd _ _ hx hb
   ·obtain ⟨g1,g2⟩:=h.snd _ _ (by omega) hb
    exact ⟨g1,e1.trans g2⟩
  ·exact h.snd _ _ hx hb
theorem dr {g:Gr} (hm:aN g=true) {both:Bool} {c:Nat→Bool} {a:List Nat} (h:sx g both c a):∀ {k:Nat},k≤g.es.length→sx g both c (aJ g both c a k).1∧∀x y,(a.getD x 0).testBit y=true→((aJ g both c a k).1.getD x 0).testBit y=true
 |0,_=>⟨h,fun x y hb=>hb⟩
 |k+1,hk=>by
  obtain ⟨i1,i2⟩:=dr hm h (k:=k) (by omega)
  simp only [aJ]
  by_cases hc:c k=true
  ·rw [if_pos hc]
   obtain ⟨j1,j2⟩:=grow_step hm i1 (i:=k) (by omega) hc
   exact ⟨j1,fun x y hb=>j2 x y (i2 x y hb)⟩
  ·rw [if_neg hc];exact ⟨i1,i2⟩
def ku (a:List Nat):Nat:=a.foldr (· + ·) 0
theorem qH:∀ {a b:List Nat},a.length=b.length→(∀x,a.getD x 0≤b.getD x 0)→a≠b→ku a<ku b
 | [], [],_,_,hne=>absurd rfl hne
 |x::a,y::b,hl,h,hne=>by
  have h0:=h 0
  have hr:∀i,a.getD i 0≤b.getD i 0:=fun i=>by simpa using h (i+1)
  simp only [List.getD_cons_zero] at h0
  show x+ku a<y+ku b
  by_cases hab:a=b
  ·subst hab
   have:x≠y:=fun e=>hne (by rw [e])
   omega
  ·have:=qH (a:=a) (b:=b) (by simpa using hl) hr hab
   omega
theorem oc {m:Nat} :∀ {a:List Nat},(∀x,a.getD x 0<m)→ku a≤a.length*m
 | [],_=>by simp [ku]
 |x::a,h=>by
  have h0:=h 0
  have:=oc (a:=a) fun i=>by simpa using h (i+1)
  simp only [List.getD_cons_zero] at h0
  show x+ku a≤(a.length+1)*m
  rw [Nat.add_mul];omega
theorem gI {a b:Nat} (h:∀y,a.testBit y=true→b.testBit y=true):a≤b:=by
 have:a ||| b=b:=Nat.eq_of_testBit_eq fun y=>by
  rw [Nat.testBit_or]
  cases ha:a.testBit y with
  |false=>simp
  |true=>rw [h y ha];rfl
 rw [← this];exact Nat.left_le_or
theorem dN {g:Gr} {both:Bool} {c:Nat→Bool} {a:List Nat} :∀ {k:Nat},(aJ g both c a k).2=false→(aJ g both c a k).1=a∧∀i,i<k→c i=true→(a.getD (tl g i).toNat 0 ||| a.getD (hd g i).toNat 0=a.getD (tl g i).toNat 0)∧(both=true→a.getD (tl g i).toNat 0=a.getD (hd g i).toNat 0)
 |0,_=>⟨rfl,fun i hi=>by omega⟩
 |k+1,h=>by
  simp only [aJ] at h ⊢
  by_cases hc:c k=true
  ·rw [if_pos hc] at h ⊢
   simp only [Bool.or_eq_false_iff,decide_eq_false_iff_not,Decidable.not_not] at h
   obtain ⟨h1,h2,h3⟩:=h
   obtain ⟨i1,i2⟩:=dN h1
   rw [i1] at h2 h3
   simp only [i1]
   have bf:∀ {l:List Nat} {i v:Nat},v=l.getD i 0→l.set i v=l:=fun {l i v} e=>by
    refine List.ext_getElem? fun j=> ?_
    rw [List.getElem?_set]
    split
    ·rename_i hj;subst hj
     split
     ·rename_i hl;rw [e,List.getD_eq_getElem?_getD,List.getElem?_eq_getElem hl];rfl
     ·rename_i hl;rw [List.getElem?_eq_none (by omega)]
    ·rfl
   refine ⟨by rw [bf h2,bf h3],fun i hi yQ=> ?_⟩
   by_cases hik:i=k
   ·subst hik
    refine ⟨h2,fun hb=> ?_⟩
    rw [if_pos hb] at h3
    rw [← h2,h3]
   ·exact i2 i (by omega) yQ
  ·rw [if_neg hc] at h ⊢
   obtain ⟨i1,i2⟩:=dN h
   refine ⟨i1,fun i hi yQ=> ?_⟩
   by_cases hik:i=k
   ·subst hik;exact absurd yQ hc
   ·exact i2 i (by omega) yQ
theorem pJ {g:Gr} (hm:aN g=true) {both:Bool} {c:Nat→Bool} {a:List Nat} (h:sx g both c a) (hne:(aJ g both c a g.es.length).2=true):ku a<ku (aJ g both c a g.es.length).1:=by
 obtain ⟨_,i2⟩:=dr hm h (Nat.le_refl g.es.length)
 refine qH iM.symm (fun x=>gI (i2 x)) fun e=> ?_
 have key:∀k,k≤g.es.length→(aJ g both c a k).2=false:=by
  intro k
  induction k with
  |zero=>intro _;rfl
  |succ k ih=>
   intro hk
   have ih:=ih (by omega)
   have DV:=(dN ih).1
   simp only [aJ]
   by_cases hc:c k=true
   ·rw [if_pos hc]
    simp only [Bool.or_eq_false_iff,decide_eq_false_iff_not,Decidable.not_not,ih,DV,true_and]
    obtain ⟨j1,j2⟩:=dr hm h (k:=k) (by omega)
    have later:∀d,k+1+d≤g.es.length→∀x y,((aJ g both c a (k+1)).1.getD x 0).testBit y=true→((aJ g both c a (k+1+d)).1.getD x 0).testBit y=true:=by
     intro d
     induction d with
     |zero=>intro _ x y hb;exact hb
     |succ d Fs=>
      intro hd x y hb
      have hb:=Fs (by omega) x y hb
      show ((aJ g both c a (k+1+d+1)).1.getD x 0).testBit y=true
      simp only [aJ] at hb ⊢
      split
      ·rename_i x2
       exact (grow_step hm (dr hm h (k:=k+1+d) (by omega)).1 (i:=k+1+d) (by omega) x2).2 x y hb
      ·exact hb
    have gQ:=later (g.es.length - (k+1)) (by omega)
    rw [show k+1+(g.es.length - (k+1))=g.es.length by omega, ← e] at gQ
    have jl:(aJ g both c a (k+1)).1=(a.set (tl g k).toNat (a.getD (tl g k).toNat 0 ||| a.getD (hd g k).toNat 0)).set (hd g k).toNat (if both=true then a.getD (tl g k).toNat 0 ||| a.getD (hd g k).toNat 0 else a.getD (hd g k).toNat 0):=by
     simp only [aJ];rw [if_pos hc,DV]
    obtain ⟨ht,hh⟩:=ee hm (k:=k) (by omega)
    have ht:0≤tl g k∧tl g k<g.n:=ht
    have hh:0≤hd g k∧hd g k<g.n:=hh
    have hl:=h.len
    have dQ:∀x,(aJ g both c a (k+1)).1.getD x 0=if x=(hd g k).toNat then (if both=true then a.getD (tl g k).toNat 0 ||| a.getD (hd g k).toNat 0 else a.getD (hd g k).toNat 0) else if x=(tl g k).toNat then a.getD (tl g k).toNat 0 ||| a.getD (hd g k).toNat 0 else a.getD x 0:=fun x=>by
     rw [jl,bh (by rw [List.length_set];omega),bh (by omega)]
    have g1:(if both=true then a.getD (tl g k).toNat 0 ||| a.getD (hd g k).toNat 0 else a.getD (hd g k).toNat 0)=a.getD (hd g k).toNat 0:=by
     have:=gI (gQ (hd g k).toNat)
     rw [dQ,if_pos rfl] at this
     split at this
     ·rename_i hb
      rw [if_pos hb]
      exact Nat.le_antisymm this Nat.right_le_or
     ·rename_i hb;rw [if_neg hb]
    refine ⟨?_,g1⟩
    by_cases heq:(tl g k).toNat=(hd g k).toNat
    ·rw [heq,Nat.or_self]
    ·have:=gI (gQ (tl g k).toNat)
     rw [dQ,if_neg heq,if_pos rfl] at this
     exact Nat.le_antisymm this Nat.left_le_or
   ·rw [if_neg hc];exact ih
 rw [key _ (Nat.le_refl _)] at hne
 cases hne
theorem rJ {g:Gr} (hm:aN g=true) {both:Bool} {c:Nat→Bool} {a:List Nat} (h:sx g both c a) (hne:(aJ g both c a g.es.length).2=false):a=lE g both c:=by
 obtain ⟨_,kO⟩:=dN hne
 have comp:∀x y,x<g.n.toNat→kr g both c x y→∀w,w<g.n.toNat→kr g both c w x→True:=fun _ _ _ _ _ _ _=>trivial
 have key:∀ {x y:Nat},kr g both c x y→∀z,(a.getD y 0).testBit z=true→(a.getD x 0).testBit z=true:=by
  intro x y hR
  induction hR with
  |refl=>exact fun z hz=>hz
  | @fwd i hi hc _ ih=>
    intro z hz
    refine ih z ?_
    rw [← (kO i hi hc).1,Nat.testBit_or,hz,Bool.or_true]
  | @wu i hi hc hb _ ih=>
    intro z hz
    refine ih z ?_
    rw [← (kO i hi hc).2 hb];exact hz
 refine List.ext_getElem? fun x=> ?_
 by_cases hx:x<g.n.toNat
 ·have e:a.getD x 0=(lE g both c).getD x 0:=by
   rw [pI hx]
   refine Nat.eq_of_testBit_eq fun y=> ?_
   rw [Bool.eq_iff_iff,qG]
   refine ⟨h.snd x y hx,fun ⟨h1,h2⟩=>key h2 y (h.own y h1)⟩
  rw [List.getD_eq_getElem?_getD,List.getD_eq_getElem?_getD,List.getElem?_eq_getElem (by rw [h.len];exact hx),List.getElem?_eq_getElem (by rw [iw];exact hx)] at e
  rw [List.getElem?_eq_getElem (by rw [h.len];exact hx),List.getElem?_eq_getElem (by rw [iw];exact hx)]
  simpa using e
 ·rw [List.getElem?_eq_none (by rw [h.len];omega),List.getElem?_eq_none (by rw [iw];omega)]
end Go.Ab
end
section
namespace Go.Ab
open Go.Proofs
attribute [local congr] ACall.congr gd.congr Nx.congr
set_option maxRecDepth 20000
set_option maxHeartbeats 8000000
def rU (n:Nat):List D:= [.sc (.int .u64 (n:Int))]
def eU (n:Nat):AV:= .d (.sc (.int .u64 (n:Int)))
def sU (l:List Nat):D:= .sl 1 (l.map rU)
theorem getD_rU (ps:List Nat) (i:Nat):(ps.map rU).getD i [.sc (.int .u64 0)]= [.sc (.int .u64 ((ps.getD i 0:Nat):Int))]:=by
 rw [List.getD_eq_getElem?_getD,List.getElem?_map,List.getD_eq_getElem?_getD]
 cases ps[i]? <;>rfl
theorem ef (l:List Nat) (k:Nat) (v:Nat):(l.map rU).set k [.sc (.int .u64 (v:Int))]=(l.set k v).map rU:=by
 rw [List.map_set];rfl
attribute [go_sem] eU sU getD_rU InU
theorem vF {s x:Nat} :decide ((((s >>> x &&& 1:Nat)):Int)=1)=s.testBit x:=by
 rw [Bool.eq_iff_iff,decide_eq_true_eq,Nat.testBit,Nat.and_comm]
 have:1 &&& s >>> x=0∨1 &&& s >>> x=1:=by
  rw [Nat.and_comm,Nat.and_one_is_mod];omega
 rcases this with h|h<;>rw [h]<;>simp
theorem iN (s:Nat) (hs:s<18446744073709551616) (x:Int):Spec Try.prog 55 (Args [eU s,eN x]) [] (eB (decide (0≤x)&&decide (x<64)&&s.testBit x.toNat)) []:=by
 by_cases h0:0≤x
 rotate_left
 ·have hb0:decide (0≤x)=false:=decide_eq_false h0
  (refine Spec.hd (C:=T.cfg [] []) (rs:= [.t 4]) (T.aB _ _) Try.func55 rfl rfl Try.ntmps55 Try.results55 (by simp [AObj.isNest]) (by simp [AObj.isNest]) (by kernel_rfl) T.mixed fun X hX hP hC bN fH=> ?_)
  repeat' (first|refine Rn.p ?_|(with_reducible apply And.intro)|((first|(refine hK _ ?_;clear hK K)|with_reducible intro K hK|refine Rs.p ?_|((with_reducible first|apply oP|apply oQ);exact rfl));try simp only [go_sem,simprocAttr,hb0])|((with_reducible refine oD ?_ ?_);kernel_rfl)|((with_reducible intro h);try simp only [go_sem,simprocAttr,hb0] at h)|omega|intro h)
 have hb0:decide (0≤x)=true:=decide_eq_true h0
 by_cases h1:x<64
 rotate_left
 ·have bQ:decide (x<64)=false:=decide_eq_false h1
  (refine Spec.hd (C:=T.cfg [] []) (rs:= [.t 4]) (T.aB _ _) Try.func55 rfl rfl Try.ntmps55 Try.results55 (by simp [AObj.isNest]) (by simp [AObj.isNest]) (by kernel_rfl) T.mixed fun X hX hP hC bN fH=> ?_)
  repeat' (first|refine Rn.p ?_|(with_reducible apply And.intro)|((first|(refine hK _ ?_;clear hK K)|with_reducible intro K hK|refine Rs.p ?_|((with_reducible first|apply oP|apply oQ);exact rfl));try simp only [go_sem,simprocAttr,hb0,bQ])|((with_reducible refine oD ?_ ?_);kernel_rfl)|((with_reducible intro h);try simp only [go_sem,simprocAttr,hb0,bQ] at h)|omega|intro h)
 have bQ:decide (x<64)=true:=decide_eq_true h1
 obtain ⟨i,rfl⟩:∃i:Nat,x=i:=⟨x.toNat,by omega⟩
 have hlt:s >>> i<18446744073709551616:=Nat.lt_of_le_of_lt (Nat.shiftRight_le s i) hs
 have ha:=vF (s:=s) (x:=i)
 generalize hq:s >>> i=q at hlt ha
 (refine Spec.hd (C:=T.cfg [] []) (rs:= [.t 4]) (T.aB _ _) Try.func55 rfl rfl Try.ntmps55 Try.results55 (by simp [AObj.isNest]) (by simp [AObj.isNest]) (by kernel_rfl) T.mixed fun X hX hP hC bN fH=> ?_)
 repeat' (first|refine Rn.p ?_|(with_reducible apply And.intro)|((first|(refine hK _ ?_;clear hK K)|with_reducible intro K hK|refine Rs.p ?_|((with_reducible first|apply oP|apply oQ);exact rfl));try simp only [go_sem,simprocAttr,hb0,bQ,hq,ha])|((with_reducible refine oD ?_ ?_);kernel_rfl)|((with_reducible intro h);try simp only [go_sem,simprocAttr,hb0,bQ,hq,ha] at h)|omega|intro h)
theorem od (x:Nat) (hx:x<64):Spec Try.prog 27 (Args [.d (.sl 1 [[.sc (.int .i64 (x:Int))]])]) [] (eU (2 ^ x)) []:=by
 have hsh:1 <<< x % 18446744073709551616=2 ^ x:=by
  rw [Nat.shiftLeft_eq,Nat.one_mul,Nat.mod_eq_of_lt]
  exact Nat.lt_of_lt_of_le (Nat.pow_lt_pow_right (by decide) hx) (by decide)
 have hlt:2 ^ x<18446744073709551616:=Nat.lt_of_lt_of_le (Nat.pow_lt_pow_right (by decide) hx) (by decide)
 have bQ:decide (0≤(x:Int))=true:=decide_eq_true (by omega)
 have mC:decide ((x:Int)<64)=true:=decide_eq_true (by omega)
 (refine Spec.hd (C:=T.cfg [] []) (rs:= [.t 2]) (T.aB _ _) Try.func27 rfl rfl Try.ntmps27 Try.results27 (by simp [AObj.isNest]) (by simp [AObj.isNest]) (by kernel_rfl) T.mixed fun X hX hP hC bN fH=> ?_)
 repeat' (first|refine Rn.p ?_|(with_reducible apply And.intro)|((first|(refine hK _ ?_;clear hK K)|with_reducible intro K hK|refine Rs.p ?_|((with_reducible first|apply oP|apply oQ);exact rfl));try simp only [go_sem,simprocAttr])|((with_reducible refine oD ?_ ?_);kernel_rfl)|((with_reducible intro h);try simp only [go_sem,simprocAttr] at h)|omega|intro h)
 refine aH (fun k:Nat=>k≤1) (fun k=>⟨[(2,eU (if k=0 then 0 else 2 ^ x)),(5, .d (.sl 1 [[.sc (.int .i64 (x:Int))]])),(6,eN 1),(7,eN k)], []⟩) (fun k=>1 - k) 0 (by omega) ?_ ?_
 ·refine Le.of ?_ ?_<;>simp [go_sem,simprocAttr]
 rintro k hk
 match k,hk with
 |0,_=>
  repeat' (first|refine Rn.p ?_|(with_reducible apply And.intro)|((first|(refine hK _ ?_;clear hK K)|with_reducible intro K hK|refine Rs.p ?_|((with_reducible first|apply oP|apply oQ);exact rfl));try simp only [go_sem,simprocAttr,hsh,bQ,mC,Nat.zero_or])|((with_reducible refine oD ?_ ?_);kernel_rfl)|((with_reducible intro h);try simp only [go_sem,simprocAttr,hsh,bQ,mC,Nat.zero_or] at h)|omega|intro h)
  all_goals (refine ⟨1,by omega, ?_,by omega⟩)
  all_goals (refine Le.of ?_ ?_<;>simp [go_sem,simprocAttr,hsh,bQ,mC,Nat.zero_or])
 |1,_=>
  repeat' (first|refine Rn.p ?_|(with_reducible apply And.intro)|((first|(refine hK _ ?_;clear hK K)|with_reducible intro K hK|refine Rs.p ?_|((with_reducible first|apply oP|apply oQ);exact rfl));try simp only [go_sem,simprocAttr])|((with_reducible refine oD ?_ ?_);kernel_rfl)|((with_reducible intro h);try simp only [go_sem,simprocAttr] at h)|omega|intro h)
end Go.Ab
end
