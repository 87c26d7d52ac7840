/- A part of the proof. -/
import Derived.Test.YtameldglfobjkaaGreatProg
import Derived.Test.YtameldglfobjkaaGreatL6P11
set_option linter.unusedSimpArgs false
set_option linter.unusedVariables false
section
namespace Go.Ab.T
open Go.Proofs
abbrev r2:TI:=⟨(.int .i64),1,8, [(.d (.sc (.int .i64 0)))]⟩
abbrev r3:TI:=⟨(.int .i64),1,8, [(.d (.sc (.int .i64 0)))]⟩
abbrev r4:TI:=⟨.bool,1,1, [(.d (.sc (.bool false)))]⟩
abbrev r5:TI:=⟨(.int .u8),1,1, [(.d (.sc (.int .u8 0)))]⟩
abbrev r9:TI:=⟨.sc,1,16, [(.d (.sc (.string ⟨#[]⟩)))]⟩
abbrev r12:TI:=⟨(.int .u64),1,8, [(.d (.sc (.int .u64 0)))]⟩
abbrev r21:TI:=⟨(.int .i32),1,4, [(.d (.sc (.int .i32 0)))]⟩
abbrev r22:TI:=⟨(.sl 56),1,24, [(.nil 56)]⟩
abbrev r24:TI:=⟨(.st [(0,3),(1,22)]),2,32, [(.d (.sc (.int .i64 0))),(.nil 56)]⟩
abbrev r25:TI:=⟨(.sl 3),1,24, [(.nil 3)]⟩
abbrev r26:TI:=⟨(.sl 25),1,24, [(.nil 25)]⟩
abbrev r28:TI:=⟨(.st [(0,25),(1,26)]),2,48, [(.nil 3),(.nil 25)]⟩
abbrev r32:TI:=⟨(.st [(0,25),(1,25),(2,25),(3,25)]),4,96, [(.nil 3),(.nil 3),(.nil 3),(.nil 3)]⟩
abbrev r33:TI:=⟨(.int .i64),1,8, [(.d (.sc (.int .i64 0)))]⟩
abbrev r36:TI:=⟨(.sl 25),1,24, [(.nil 25)]⟩
abbrev r42:TI:=⟨(.st [(0,25),(1,25),(2,25),(3,25)]),4,96, [(.nil 3),(.nil 3),(.nil 3),(.nil 3)]⟩
abbrev r45:TI:=⟨(.mp 3 3),1,8, [(.d (.sc (.map none)))]⟩
abbrev r47:TI:=⟨(.sl 54),1,24, [(.nil 54)]⟩
abbrev r48:TI:=⟨(.sl 47),1,24, [(.nil 47)]⟩
abbrev r50:TI:=⟨(.st [(0,47),(1,48)]),2,48, [(.nil 54),(.nil 47)]⟩
abbrev r54:TI:=⟨(.st [(0,3),(1,3)]),2,16, [(.d (.sc (.int .i64 0))),(.d (.sc (.int .i64 0)))]⟩
abbrev r56:TI:=⟨(.st [(0,3),(1,3)]),2,16, [(.d (.sc (.int .i64 0))),(.d (.sc (.int .i64 0)))]⟩
abbrev r60:TI:=⟨.sc,1,8, [(.d (.sc .nilFunc))]⟩
abbrev r64:TI:=⟨(.st [(0,33),(1,3),(2,25)]),3,40, [(.d (.sc (.int .i64 0))),(.d (.sc (.int .i64 0))),(.nil 3)]⟩
abbrev r72:TI:=⟨(.st [(0,25),(1,25),(2,25),(3,25)]),4,96, [(.nil 3),(.nil 3),(.nil 3),(.nil 3)]⟩
abbrev r77:TI:=⟨(.sl 78),1,24, [(.nil 78)]⟩
abbrev r78:TI:=⟨(.sl 92),1,24, [(.nil 92)]⟩
abbrev r81:TI:=⟨(.pt 146),1,8, [(.d (.sc (.pointer none)))]⟩
abbrev r84:TI:=⟨(.pt 86),1,8, [(.d (.sc (.pointer none)))]⟩
abbrev r86:TI:=⟨(.st [(0,25),(1,25),(2,32)]),6,144, [(.nil 3),(.nil 3),(.nil 3),(.nil 3),(.nil 3),(.nil 3)]⟩
abbrev r92:TI:=⟨(.st [(0,3),(1,3),(2,3)]),3,24, [(.d (.sc (.int .i64 0))),(.d (.sc (.int .i64 0))),(.d (.sc (.int .i64 0)))]⟩
abbrev r107:TI:=⟨(.pt 113),1,8, [(.d (.sc (.pointer none)))]⟩
abbrev r113:TI:=⟨(.st [(0,24),(2,28),(4,45)]),5,88, [(.d (.sc (.int .i64 0))),(.nil 56),(.nil 3),(.nil 25),(.d (.sc (.map none)))]⟩
abbrev r119:TI:=⟨(.pt 121),1,8, [(.d (.sc (.pointer none)))]⟩
abbrev r121:TI:=⟨(.st [(0,24),(2,50)]),4,80, [(.d (.sc (.int .i64 0))),(.nil 56),(.nil 54),(.nil 47)]⟩
abbrev r134:TI:=⟨(.pt 144),1,8, [(.d (.sc (.pointer none)))]⟩
abbrev r142:TI:=⟨(.st [(0,78)]),1,24, [(.nil 92)]⟩
abbrev r144:TI:=⟨(.st [(0,142),(1,81),(2,25)]),3,56, [(.nil 92),(.d (.sc (.pointer none))),(.nil 3)]⟩
abbrev r146:TI:=⟨(.st [(0,24),(2,26),(3,26)]),4,80, [(.d (.sc (.int .i64 0))),(.nil 56),(.nil 25),(.nil 25)]⟩
abbrev r154:TI:=⟨(.pt 156),1,8, [(.d (.sc (.pointer none)))]⟩
abbrev r156:TI:=⟨(.st [(0,24),(2,28)]),4,80, [(.d (.sc (.int .i64 0))),(.nil 56),(.nil 3),(.nil 25)]⟩
abbrev r174:TI:=⟨(.sl 176),1,24, [(.nil 176)]⟩
abbrev r176:TI:=⟨(.st [(0,54),(2,54)]),4,32, [(.d (.sc (.int .i64 0))),(.d (.sc (.int .i64 0))),(.d (.sc (.int .i64 0))),(.d (.sc (.int .i64 0)))]⟩
abbrev r184:TI:=⟨(.int .u64),1,8, [(.d (.sc (.int .u64 0)))]⟩
abbrev r185:TI:=⟨(.pt 187),1,8, [(.d (.sc (.pointer none)))]⟩
abbrev r187:TI:=⟨(.st [(0,24),(2,78),(3,25)]),4,80, [(.d (.sc (.int .i64 0))),(.nil 56),(.nil 92),(.nil 3)]⟩
abbrev r198:TI:=⟨(.pt 142),1,8, [(.d (.sc (.pointer none)))]⟩
abbrev r204:TI:=⟨(.sl 208),1,24, [(.nil 208)]⟩
abbrev r207:TI:=⟨(.int .u64),1,8, [(.d (.sc (.int .u64 0)))]⟩
abbrev r208:TI:=⟨(.int .u64),1,8, [(.d (.sc (.int .u64 0)))]⟩
abbrev r221:TI:=⟨(.ar 2 3),2,16, [(.d (.sc (.int .i64 0))),(.d (.sc (.int .i64 0)))]⟩
abbrev r222:TI:=⟨(.mp 54 3),1,8, [(.d (.sc (.map none)))]⟩
abbrev r223:TI:=⟨(.ar 2 54),4,32, [(.d (.sc (.int .i64 0))),(.d (.sc (.int .i64 0))),(.d (.sc (.int .i64 0))),(.d (.sc (.int .i64 0)))]⟩
abbrev r226:TI:=⟨(.int .i64),1,8, [(.d (.sc (.int .i64 0)))]⟩
abbrev r233:TI:=⟨(.int .u32),1,4, [(.d (.sc (.int .u32 0)))]⟩
abbrev r239:TI:=⟨(.sl 4),1,24, [(.nil 4)]⟩
abbrev r241:TI:=⟨(.int .u64),1,8, [(.d (.sc (.int .u64 0)))]⟩
abbrev r245:TI:=⟨(.pt 3),1,8, [(.d (.sc (.pointer none)))]⟩
abbrev r252:TI:=⟨(.pt 241),1,8, [(.d (.sc (.pointer none)))]⟩
abbrev r273:TI:=⟨(.pt 5),1,8, [(.d (.sc (.pointer none)))]⟩
def T:Nat->Option TI
 |2=>some r2
 |3=>some r3
 |4=>some r4
 |5=>some r5
 |9=>some r9
 |12=>some r12
 |21=>some r21
 |22=>some r22
 |24=>some r24
 |25=>some r25
 |26=>some r26
 |28=>some r28
 |32=>some r32
 |33=>some r33
 |36=>some r36
 |42=>some r42
 |45=>some r45
 |47=>some r47
 |48=>some r48
 |50=>some r50
 |54=>some r54
 |56=>some r56
 |60=>some r60
 |64=>some r64
 |72=>some r72
 |77=>some r77
 |78=>some r78
 |81=>some r81
 |84=>some r84
 |86=>some r86
 |92=>some r92
 |107=>some r107
 |113=>some r113
 |119=>some r119
 |121=>some r121
 |134=>some r134
 |142=>some r142
 |144=>some r144
 |146=>some r146
 |154=>some r154
 |156=>some r156
 |174=>some r174
 |176=>some r176
 |184=>some r184
 |185=>some r185
 |187=>some r187
 |198=>some r198
 |204=>some r204
 |207=>some r207
 |208=>some r208
 |221=>some r221
 |222=>some r222
 |223=>some r223
 |226=>some r226
 |233=>some r233
 |239=>some r239
 |241=>some r241
 |245=>some r245
 |252=>some r252
 |273=>some r273
 |_=>none
theorem T2:T 2=some r2:=rfl
theorem T3:T 3=some r3:=rfl
theorem T4:T 4=some r4:=rfl
theorem T5:T 5=some r5:=rfl
theorem T9:T 9=some r9:=rfl
theorem T12:T 12=some r12:=rfl
theorem T21:T 21=some r21:=rfl
theorem T22:T 22=some r22:=rfl
theorem T24:T 24=some r24:=rfl
theorem T25:T 25=some r25:=rfl
theorem T26:T 26=some r26:=rfl
theorem T28:T 28=some r28:=rfl
theorem T32:T 32=some r32:=rfl
theorem T33:T 33=some r33:=rfl
theorem T36:T 36=some r36:=rfl
theorem T42:T 42=some r42:=rfl
theorem T45:T 45=some r45:=rfl
theorem T47:T 47=some r47:=rfl
theorem T48:T 48=some r48:=rfl
theorem T50:T 50=some r50:=rfl
theorem T54:T 54=some r54:=rfl
theorem T56:T 56=some r56:=rfl
theorem T60:T 60=some r60:=rfl
theorem T64:T 64=some r64:=rfl
theorem T72:T 72=some r72:=rfl
theorem T77:T 77=some r77:=rfl
theorem T78:T 78=some r78:=rfl
theorem T81:T 81=some r81:=rfl
theorem T84:T 84=some r84:=rfl
theorem T86:T 86=some r86:=rfl
theorem T92:T 92=some r92:=rfl
theorem T107:T 107=some r107:=rfl
theorem T113:T 113=some r113:=rfl
theorem T119:T 119=some r119:=rfl
theorem T121:T 121=some r121:=rfl
theorem T134:T 134=some r134:=rfl
theorem T142:T 142=some r142:=rfl
theorem T144:T 144=some r144:=rfl
theorem T146:T 146=some r146:=rfl
theorem T154:T 154=some r154:=rfl
theorem T156:T 156=some r156:=rfl
theorem T174:T 174=some r174:=rfl
theorem T176:T 176=some r176:=rfl
theorem T184:T 184=some r184:=rfl
theorem T185:T 185=some r185:=rfl
theorem T187:T 187=some r187:=rfl
theorem T198:T 198=some r198:=rfl
theorem T204:T 204=some r204:=rfl
theorem T207:T 207=some r207:=rfl
theorem T208:T 208=some r208:=rfl
theorem T221:T 221=some r221:=rfl
theorem T222:T 222=some r222:=rfl
theorem T223:T 223=some r223:=rfl
theorem T226:T 226=some r226:=rfl
theorem T233:T 233=some r233:=rfl
theorem T239:T 239=some r239:=rfl
theorem T241:T 241=some r241:=rfl
theorem T245:T 245=some r245:=rfl
theorem T252:T 252=some r252:=rfl
theorem T273:T 273=some r273:=rfl
def H6:Nat->Option Nat
 |54=>some 2
 |56=>some 2
 |92=>some 3
 |_=>none
theorem eqn54:H6 54=some 2:=rfl
theorem eqn56:H6 56=some 2:=rfl
theorem eqn92:H6 92=some 3:=rfl
instance ok2:Tk Tryz.prog 2 r2:=⟨bG.mk' (by kernel_rfl) (by kernel_rfl) rfl Tryz.underlying2⟩
instance ok3:Tk Tryz.prog 3 r3:=⟨bG.mk' (by kernel_rfl) (by kernel_rfl) rfl Tryz.underlying3⟩
instance ok4:Tk Tryz.prog 4 r4:=⟨bG.mk' (by kernel_rfl) (by kernel_rfl) rfl Tryz.underlying4⟩
instance ok5:Tk Tryz.prog 5 r5:=⟨bG.mk' (by kernel_rfl) (by kernel_rfl) rfl Tryz.underlying5⟩
instance ok9:Tk Tryz.prog 9 r9:=⟨bG.mk' (by kernel_rfl) (by kernel_rfl) rfl ⟨_,Tryz.underlying9,trivial⟩⟩
instance ab8:Tk Tryz.prog 12 r12:=⟨bG.mk' (by kernel_rfl) (by kernel_rfl) rfl Tryz.underlying12⟩
instance aaN:Tk Tryz.prog 21 r21:=⟨bG.mk' (by kernel_rfl) (by kernel_rfl) rfl Tryz.underlying21⟩
instance ab9:Tk Tryz.prog 22 r22:=⟨bG.mk' (by kernel_rfl) (by kernel_rfl) rfl Tryz.underlying22⟩
instance acd:Tk Tryz.prog 24 r24:=⟨bG.mk' (by kernel_rfl) (by kernel_rfl) rfl ⟨_,Tryz.underlying24,rfl⟩⟩
instance ace:Tk Tryz.prog 25 r25:=⟨bG.mk' (by kernel_rfl) (by kernel_rfl) rfl Tryz.underlying25⟩
instance acf:Tk Tryz.prog 26 r26:=⟨bG.mk' (by kernel_rfl) (by kernel_rfl) rfl Tryz.underlying26⟩
instance acg:Tk Tryz.prog 28 r28:=⟨bG.mk' (by kernel_rfl) (by kernel_rfl) rfl ⟨_,Tryz.underlying28,rfl⟩⟩
instance ach:Tk Tryz.prog 32 r32:=⟨bG.mk' (by kernel_rfl) (by kernel_rfl) rfl ⟨_,Tryz.underlying32,rfl⟩⟩
instance aci:Tk Tryz.prog 33 r33:=⟨bG.mk' (by kernel_rfl) (by kernel_rfl) rfl Tryz.underlying33⟩
instance acj:Tk Tryz.prog 36 r36:=⟨bG.mk' (by kernel_rfl) (by kernel_rfl) rfl Tryz.underlying36⟩
instance ack:Tk Tryz.prog 42 r42:=⟨bG.mk' (by kernel_rfl) (by kernel_rfl) rfl ⟨_,Tryz.underlying42,rfl⟩⟩
instance acm:Tk Tryz.prog 45 r45:=⟨bG.mk' (by kernel_rfl) (by kernel_rfl) rfl ⟨Tryz.underlying45,fun w=>by kernel_rfl⟩⟩
instance acn:Tk Tryz.prog 47 r47:=⟨bG.mk' (by kernel_rfl) (by kernel_rfl) rfl Tryz.underlying47⟩
instance aco:Tk Tryz.prog 48 r48:=⟨bG.mk' (by kernel_rfl) (by kernel_rfl) rfl Tryz.underlying48⟩
instance acp:Tk Tryz.prog 50 r50:=⟨bG.mk' (by kernel_rfl) (by kernel_rfl) rfl ⟨_,Tryz.underlying50,rfl⟩⟩
instance acq:Tk Tryz.prog 54 r54:=⟨bG.mk' (by kernel_rfl) (by kernel_rfl) rfl ⟨_,Tryz.underlying54,rfl⟩⟩
instance acr:Tk Tryz.prog 56 r56:=⟨bG.mk' (by kernel_rfl) (by kernel_rfl) rfl ⟨_,Tryz.underlying56,rfl⟩⟩
instance acs:Tk Tryz.prog 60 r60:=⟨bG.mk' (by kernel_rfl) (by kernel_rfl) rfl ⟨_,Tryz.underlying60,trivial⟩⟩
instance acu:Tk Tryz.prog 64 r64:=⟨bG.mk' (by kernel_rfl) (by kernel_rfl) rfl ⟨_,Tryz.underlying64,rfl⟩⟩
instance acv:Tk Tryz.prog 72 r72:=⟨bG.mk' (by kernel_rfl) (by kernel_rfl) rfl ⟨_,Tryz.underlying72,rfl⟩⟩
instance acw:Tk Tryz.prog 77 r77:=⟨bG.mk' (by kernel_rfl) (by kernel_rfl) rfl Tryz.underlying77⟩
instance acy:Tk Tryz.prog 78 r78:=⟨bG.mk' (by kernel_rfl) (by kernel_rfl) rfl Tryz.underlying78⟩
instance acz:Tk Tryz.prog 81 r81:=⟨bG.mk' (by kernel_rfl) (by kernel_rfl) rfl Tryz.underlying81⟩
instance acA:Tk Tryz.prog 84 r84:=⟨bG.mk' (by kernel_rfl) (by kernel_rfl) rfl Tryz.underlying84⟩
instance acB:Tk Tryz.prog 86 r86:=⟨bG.mk' (by kernel_rfl) (by kernel_rfl) rfl ⟨_,Tryz.underlying86,rfl⟩⟩
instance acC:Tk Tryz.prog 92 r92:=⟨bG.mk' (by kernel_rfl) (by kernel_rfl) rfl ⟨_,Tryz.underlying92,rfl⟩⟩
instance abp:Tk Tryz.prog 107 r107:=⟨bG.mk' (by kernel_rfl) (by kernel_rfl) rfl Tryz.underlying107⟩
instance abq:Tk Tryz.prog 113 r113:=⟨bG.mk' (by kernel_rfl) (by kernel_rfl) rfl ⟨_,Tryz.underlying113,rfl⟩⟩
instance abr:Tk Tryz.prog 119 r119:=⟨bG.mk' (by kernel_rfl) (by kernel_rfl) rfl Tryz.underlying119⟩
instance abt:Tk Tryz.prog 121 r121:=⟨bG.mk' (by kernel_rfl) (by kernel_rfl) rfl ⟨_,Tryz.underlying121,rfl⟩⟩
instance abu:Tk Tryz.prog 134 r134:=⟨bG.mk' (by kernel_rfl) (by kernel_rfl) rfl Tryz.underlying134⟩
instance abv:Tk Tryz.prog 142 r142:=⟨bG.mk' (by kernel_rfl) (by kernel_rfl) rfl ⟨_,Tryz.underlying142,rfl⟩⟩
instance abw:Tk Tryz.prog 144 r144:=⟨bG.mk' (by kernel_rfl) (by kernel_rfl) rfl ⟨_,Tryz.underlying144,rfl⟩⟩
instance abx:Tk Tryz.prog 146 r146:=⟨bG.mk' (by kernel_rfl) (by kernel_rfl) rfl ⟨_,Tryz.underlying146,rfl⟩⟩
instance aby:Tk Tryz.prog 154 r154:=⟨bG.mk' (by kernel_rfl) (by kernel_rfl) rfl Tryz.underlying154⟩
instance abz:Tk Tryz.prog 156 r156:=⟨bG.mk' (by kernel_rfl) (by kernel_rfl) rfl ⟨_,Tryz.underlying156,rfl⟩⟩
instance abA:Tk Tryz.prog 174 r174:=⟨bG.mk' (by kernel_rfl) (by kernel_rfl) rfl Tryz.underlying174⟩
instance abB:Tk Tryz.prog 176 r176:=⟨bG.mk' (by kernel_rfl) (by kernel_rfl) rfl ⟨_,Tryz.underlying176,rfl⟩⟩
instance abC:Tk Tryz.prog 184 r184:=⟨bG.mk' (by kernel_rfl) (by kernel_rfl) rfl Tryz.underlying184⟩
instance abD:Tk Tryz.prog 185 r185:=⟨bG.mk' (by kernel_rfl) (by kernel_rfl) rfl Tryz.underlying185⟩
instance abE:Tk Tryz.prog 187 r187:=⟨bG.mk' (by kernel_rfl) (by kernel_rfl) rfl ⟨_,Tryz.underlying187,rfl⟩⟩
instance abF:Tk Tryz.prog 198 r198:=⟨bG.mk' (by kernel_rfl) (by kernel_rfl) rfl Tryz.underlying198⟩
instance abG:Tk Tryz.prog 204 r204:=⟨bG.mk' (by kernel_rfl) (by kernel_rfl) rfl Tryz.underlying204⟩
instance abH:Tk Tryz.prog 207 r207:=⟨bG.mk' (by kernel_rfl) (by kernel_rfl) rfl Tryz.underlying207⟩
instance abI:Tk Tryz.prog 208 r208:=⟨bG.mk' (by kernel_rfl) (by kernel_rfl) rfl Tryz.underlying208⟩
instance abJ:Tk Tryz.prog 221 r221:=⟨bG.mk' (by kernel_rfl) (by kernel_rfl) rfl Tryz.underlying221⟩
instance abK:Tk Tryz.prog 222 r222:=⟨bG.mk' (by kernel_rfl) (by kernel_rfl) rfl ⟨Tryz.underlying222,fun w=>by kernel_rfl⟩⟩
instance abL:Tk Tryz.prog 223 r223:=⟨bG.mk' (by kernel_rfl) (by kernel_rfl) rfl Tryz.underlying223⟩
instance abM:Tk Tryz.prog 226 r226:=⟨bG.mk' (by kernel_rfl) (by kernel_rfl) rfl Tryz.underlying226⟩
instance abN:Tk Tryz.prog 233 r233:=⟨bG.mk' (by kernel_rfl) (by kernel_rfl) rfl Tryz.underlying233⟩
instance abO:Tk Tryz.prog 239 r239:=⟨bG.mk' (by kernel_rfl) (by kernel_rfl) rfl Tryz.underlying239⟩
instance abP:Tk Tryz.prog 241 r241:=⟨bG.mk' (by kernel_rfl) (by kernel_rfl) rfl Tryz.underlying241⟩
instance abQ:Tk Tryz.prog 245 r245:=⟨bG.mk' (by kernel_rfl) (by kernel_rfl) rfl Tryz.underlying245⟩
instance abR:Tk Tryz.prog 252 r252:=⟨bG.mk' (by kernel_rfl) (by kernel_rfl) rfl Tryz.underlying252⟩
instance abS:Tk Tryz.prog 273 r273:=⟨bG.mk' (by kernel_rfl) (by kernel_rfl) rfl Tryz.underlying273⟩
theorem aaO:vl Tryz.prog 54 2:=vl.two (by kernel_rfl) (by kernel_rfl) Tryz.underlying54 (by decide) rfl Tryz.underlying3 (by decide) rfl Tryz.underlying3
theorem aaP:vl Tryz.prog 56 2:=vl.two (by kernel_rfl) (by kernel_rfl) Tryz.underlying56 (by decide) rfl Tryz.underlying3 (by decide) rfl Tryz.underlying3
theorem aaQ:vl Tryz.prog 92 3:=vl.three (by kernel_rfl) (by kernel_rfl) Tryz.underlying92 (by decide) rfl Tryz.underlying3 (by decide) rfl Tryz.underlying3 (by decide) rfl Tryz.underlying3
set_option maxHeartbeats 4000000 in
theorem okT:∀t ti,T t=some ti->bG Tryz.prog t ti:=by
 intro t ti h
 unfold T at h
 split at h
 all_goals cases h
 all_goals exact Tk.p
theorem okE:∀t n,H6 t=some n->vl Tryz.prog t n:=by
 intro t n h
 unfold H6 at h
 split at h
 ·cases h;exact aaO
 ·cases h;exact aaP
 ·cases h;exact aaQ
 ·cases h
def cfg(own tM:List Nat):Cfg:=⟨T,own,H6,tM⟩
theorem cfg_T(own tM:List Nat):(cfg own tM).T=T:=rfl
theorem cfg_own(own tM:List Nat):(cfg own tM).own=own:=rfl
theorem cfg_nst(own tM:List Nat):(cfg own tM).tM=tM:=rfl
theorem cfg_eqn(own tM:List Nat):(cfg own tM).H6=H6:=rfl
theorem Iy(own tM:List Nat):(cfg own tM).Ok Tryz.prog:=⟨okT,okE⟩
theorem mixed:Tryz.prog.follows .mixedOrders=true:=by kernel_rfl
section
variable {f:Nat} {fn:Func} {c:Code} {av:List AV} {m:List (Nat × AObj)} {res:AV} {m':List (Nat × AObj)}
theorem h(own tM:List Nat)(rs:List RV)(hf:Tryz.prog.funcs[f]? =some fn)(hb:fn.body=some c)(xO:fn.results=(rs.map RV.rv).toArray)
 (hk:((!(fn.name== "runtime.NumGoroutine"))&&(OY m&&(F3 m'&&(vk fn.ntmps c&&Nat.ble av.length fn.ntmps))))=true)
 (h:∀X:Ctx,X.Ok->X.P=Tryz.prog->X.C=cfg own tM->X.P.follows .mixedOrders=true->Xc X Tryz.prog (cfg own tM)->cR X c (Fin (cfg own tM) rs [] res m') ⟨params 0 av,m⟩):Spec Tryz.prog f (Args av) m res m':=
 Spec.hq (Iy own tM) mixed hf hb xO hk h
theorem hS(own tM:List Nat)(rs:List RV)(hR:cC m)(hf:Tryz.prog.funcs[f]? =some fn)(hb:fn.body=some c)(xO:fn.results=(rs.map RV.rv).toArray)
 (hk:((!(fn.name== "runtime.NumGoroutine"))&&(vk fn.ntmps c&&Nat.ble av.length fn.ntmps))=true)
 (h:∀X:Ctx,X.Ok->X.P=Tryz.prog->X.C=cfg own tM->X.P.follows .mixedOrders=true->Xc X Tryz.prog (cfg own tM)->cR X c (Fin (cfg own tM) rs [] res m) ⟨params 0 av,m⟩):Spec Tryz.prog f (Args av) m res m:=by
 rw[adg]at hk
 exact Spec.hd (Iy own tM) hf hb (by simpa using hk.1) rfl xO (fun p hp=>⟨(hR.low p hp).1,hR.nest p hp⟩) (fun p hp=>⟨(hR.low p hp).2,hR.nest p hp⟩) hk.2 mixed h
theorem hR(own tM:List Nat)(rs:List RV)(rn:List (Nat × Nat))(hf:Tryz.prog.funcs[f]? =some fn)(hb:fn.body=some c)(xO:fn.results=(rs.map RV.rv).toArray)
 (hk:((!(fn.name== "runtime.NumGoroutine"))&&(OY m&&(F3 m'&&(rnM rn m m'&&(vk fn.ntmps c&&Nat.ble av.length fn.ntmps)))))=true)
 (h:∀X:Ctx,X.Ok->X.P=Tryz.prog->X.C=cfg own tM->X.P.follows .mixedOrders=true->Xc X Tryz.prog (cfg own tM)->cR X c (Fin (cfg own tM) rs rn res m') ⟨params 0 av,m⟩):Spec Tryz.prog f (Args av) m res m':=
 Spec.hqR rn (Iy own tM) mixed hf hb xO hk h
end
attribute [go_sem] T2 r2 T3 r3 T4 r4 T5 r5 T9 r9 T12 r12 T21 r21 T22 r22 T24 r24 T25 r25 T26 r26 T28 r28 T32 r32 T33 r33 T36 r36 T42 r42 T45 r45 T47 r47 T48 r48 T50 r50 T54 r54 T56 r56 T60 r60 T64 r64 T72 r72 T77 r77 T78 r78 T81 r81 T84 r84 T86 r86 T92 r92 T107 r107 T113 r113 T119 r119 T121 r121 T134 r134 T142 r142 T144 r144 T146 r146 T154 r154 T156 r156 T174 r174 T176 r176 T184 r184 T185 r185 T187 r187 T198 r198 T204 r204 T207 r207 T208 r208 T221 r221 T222 r222 T223 r223 T226 r226 T233 r233 T239 r239 T241 r241 T245 r245 T252 r252 T273 r273 eqn54 eqn56 eqn92 cfg_T cfg_own cfg_nst cfg_eqn
end Go.Ab.T
end
section
set_option maxHeartbeats 8000000
set_option maxRecDepth 10000
namespace Go.Ab
attribute [local congr] ACall.congr gd.congr Hd.congr Ny.congr vcOps.congr
open Go.Proofs
def eN(n:Int):AV:= .d (.sc (.int .i64 n))
def eB(b:Bool):AV:= .d (.sc (.bool b))
abbrev Edge:=Int × Int
structure Gr where
 n:Int
 es:List Edge
def rE(e:Edge):List D:= [.sc (.int .i64 e.1), .sc (.int .i64 e.2)]
def rI(n:Int):List D:= [.sc (.int .i64 n)]
def eE(e:Edge):AV:= .agg [.d (.sc (.int .i64 e.1)), .d (.sc (.int .i64 e.2))]
def sE(es:List Edge):D:= .sl 2 (es.map rE)
def sI(l:List Int):D:= .sl 1 (l.map rI)
def eG(g:Gr):AV:= .agg [eN g.n, .d (sE g.es)]
attribute [go_sem] eN eB eE sE sI eG Args AVrs
theorem getD_rE(ps:List Edge)(i:Nat):(ps.map rE).getD i [.sc (.int .i64 0), .sc (.int .i64 0)]= [.sc (.int .i64 (ps.getD i (0,0)).1), .sc (.int .i64 (ps.getD i (0,0)).2)]:=by
 simp only[aas,adn]
 cases ps[i]? <;>rfl
theorem getD_rI(ps:List Int)(i:Nat):(ps.map rI).getD i [.sc (.int .i64 0)]= [.sc (.int .i64 (ps.getD i 0))]:=by
 simp only[aas,adn]
 cases ps[i]? <;>rfl
theorem Vg(l:List Int)(k:Nat)(v:Int):(l.map rI).set k [.sc (.int .i64 v)]=(l.set k v).map rI:=by
 rw[aeS];rfl
attribute [go_sem] getD_rE getD_rI Int.toNat_natCast List.length_set
def I64(n:Int):Prop:= -9223372036854775808<=n/\n<=9223372036854775807
def Len(n:Nat):Prop:=n<=9223372036854775807
def bT{α:Type}(g:α->Bool)(ps:List α):Int:=match ps.findIdx? g with|some i=>i|none=> -1
theorem bL{α:Type}{g:α->Bool}{ps:List α}(d:α)(h:∀j,j<ps.length->g (ps.getD j d)=false):bT g ps= -1:=by
 have:ps.findIdx? g=none:=by
  rw[aeO]
  intro x hx
  obtain⟨j,hj,rfl⟩:=ae4 hx
  simpa[aas,acF hj]using h j hj
 simp[bT,this]
theorem b9{α:Type}{g:α->Bool}{ps:List α}{d:α}{k:Nat}(hk:k<ps.length)(h:∀j,j<k->g (ps.getD j d)=false)(hg:g (ps.getD k d)=true):bT g ps=k:=by
 have:ps.findIdx? g=some k:=by
  rw[aen]
  refine⟨hk,by simpa[aas,acF hk]using hg,fun j hj=> ?_⟩
  have:=h j hj
  simpa[aas,acF (Nat.lt_trans hj hk)]using this
 simp[bT,this]
theorem cT{α:Type}(g:α->Bool)(ps:List α):decide (0<=bT g ps)=ps.any g:=by
 cases h:ps.findIdx? g with
 |none=>
  have:bT g ps= -1:=by simp[bT,h]
  rw[this]
  rw[aeO]at h
  symm
  simpa using h
 |some i=>
  have:bT g ps=i:=by simp[bT,h]
  rw[this]
  obtain⟨hi,hg,_⟩:=aen.1 h
  have:ps.any g=true:=adR.2 ⟨_,ad3 hi,hg⟩
  rw[this];simp
theorem Gc{α:Type}(g:α->Bool)(ps:List α):bT g ps= -1\/(0<=bT g ps/\bT g ps<ps.length):=by
 cases h:ps.findIdx? g with
 |none=>exact .inl (by simp[bT,h])
 |some i=>
  obtain⟨hi,hg,_⟩:=aen.1 h
  exact .inr (by simp[bT,h];omega)
theorem Gd(rn:List (Nat × Nat))(h0:rn= []){m:List (Nat × AObj)} :∀ {r:List (Nat × AObj)},(∀p∈r,look m p.1=some p.2)->leR m rn r
 | [],_=>trivial
 |p::r,h=>by
  subst h0
  have h1:=h p adI
  refine⟨?_,Gd [] rfl fun q hq=>h q (adA _ hq)⟩
  have e:renO [] p.2=p.2:=rfl
  show look m p.1=some (renO [] p.2)
  rw[e];exact h1
theorem cu{m:List (Nat × AObj)}(h:cC m):leR m [] m:=Gd [] rfl fun _ hp=>aL h.nd hp
theorem iy{m:List (Nat × AObj)}(hR:cC m)(f:Nat)(caps:List AV)(g:Edge->Bool)(hf:∀p,Spec Tryz.prog f (Args (eE p::caps)) m (eB (g p)) m)(ps:List Edge)(hl:ps.length<=9223372036854775807):
 Spec Tryz.prog 111 (Args [.d (sE ps), .fn f [] caps]) m (eN (bT g ps)) m:=by
 (refine T.hS [] [] [.t 4] hR Tryz.func111 rfl rfl (by kernel_rfl) fun X hX hP hC aA bB=> ?_)
 repeat' (first|refine Rn.p ?_|((first|refine Rs.p ?_|refine Hd.mk ?_);try simp only[go_sem,simprocAttr]))
 refine ag (fun k:Nat=>k<=ps.length/\∀j,j<k->g (ps.getD j (0,0))=false) (fun k=>⟨[(0, .d (sE ps)),(1, .fn f [] caps),(7,eN ps.length),(8,eN k)],m⟩) (fun k=>ps.length - k) 0 (by simp) ?_ ?_
 ·(refine⟨bS ?_,fun _ _ h=>h⟩;simp[go_sem,simprocAttr])
 rintro k ⟨hk,hg⟩
 repeat' (first|refine Rn.p ?_|((first|refine Rs.p ?_|refine Hd.mk ?_|(first|(refine aR hR (hf _) ?_ rfl rfl ?_;(focus(first|exact fun p hp=>aL (cC.nd hR) hp|(simp[go_sem,simprocAttr];done))))|(refine aR hR (hf _) ?_ ?_ rfl ?_;(focus(first|exact fun p hp=>aL (cC.nd hR) hp|(simp[go_sem,simprocAttr];done)));(focus(simp[go_sem,simprocAttr];done)))));try simp only[go_sem,simprocAttr])|with_reducible (first|apply And.intro|(intro h;try simp only[go_sem,simprocAttr]at h))|omega)
 ·exact(b9 (by omega) hg h).symm
 ·exact cu hR
 ·refine⟨k+1,⟨by omega,fun j hj=> ?_⟩, ?_,by omega⟩
  ·by_cases hjk:j=k
   ·subst hjk;exact h
   ·exact hg j (by omega)
  ·(refine⟨bS ?_,fun _ _ h=>h⟩;simp[go_sem,simprocAttr])
 ·exact(bL (0,0) fun j hj=>hg j (by omega)).symm
 ·exact cu hR
theorem zx{m:List (Nat × AObj)}(hR:cC m)(f:Nat)(caps:List AV)(g:Int->Bool)(hf:∀p,Spec Tryz.prog f (Args (eN p::caps)) m (eB (g p)) m)(ps:List Int)(hl:ps.length<=9223372036854775807):
 Spec Tryz.prog 162 (Args [.d (sI ps), .fn f [] caps]) m (eN (bT g ps)) m:=by
 (refine T.hS [] [] [.t 4] hR Tryz.func162 rfl rfl (by kernel_rfl) fun X hX hP hC aA bB=> ?_)
 repeat' (first|refine Rn.p ?_|((first|refine Rs.p ?_|refine Hd.mk ?_);try simp only[go_sem,simprocAttr]))
 refine ag (fun k:Nat=>k<=ps.length/\∀j,j<k->g (ps.getD j 0)=false) (fun k=>⟨[(0, .d (sI ps)),(1, .fn f [] caps),(7,eN ps.length),(8,eN k)],m⟩) (fun k=>ps.length - k) 0 (by simp) ?_ ?_
 ·(refine⟨bS ?_,fun _ _ h=>h⟩;simp[go_sem,simprocAttr])
 rintro k ⟨hk,hg⟩
 repeat' (first|refine Rn.p ?_|((first|refine Rs.p ?_|refine Hd.mk ?_|(first|(refine aR hR (hf _) ?_ rfl rfl ?_;(focus(first|exact fun p hp=>aL (cC.nd hR) hp|(simp[go_sem,simprocAttr];done))))|(refine aR hR (hf _) ?_ ?_ rfl ?_;(focus(first|exact fun p hp=>aL (cC.nd hR) hp|(simp[go_sem,simprocAttr];done)));(focus(simp[go_sem,simprocAttr];done)))));try simp only[go_sem,simprocAttr])|with_reducible (first|apply And.intro|(intro h;try simp only[go_sem,simprocAttr]at h))|omega)
 ·exact(b9 (by omega) hg h).symm
 ·exact cu hR
 ·refine⟨k+1,⟨by omega,fun j hj=> ?_⟩, ?_,by omega⟩
  ·by_cases hjk:j=k
   ·subst hjk;exact h
   ·exact hg j (by omega)
  ·(refine⟨bS ?_,fun _ _ h=>h⟩;simp[go_sem,simprocAttr])
 ·exact(bL 0 fun j hj=>hg j (by omega)).symm
 ·exact cu hR
theorem uD{m:List (Nat × AObj)}(hR:cC m)(f:Nat)(caps:List AV)(g:Edge->Bool)(hf:∀p,Spec Tryz.prog f (Args (eE p::caps)) m (eB (g p)) m)(ps:List Edge)(hl:ps.length<=9223372036854775807):
 Spec Tryz.prog 144 (Args [.d (sE ps), .fn f [] caps]) m (eB (ps.any g)) m:=by
 (refine T.hS [] [] [.t 4] hR Tryz.func144 rfl rfl (by kernel_rfl) fun X hX hP hC aA bB=> ?_)
 repeat' (first|refine Rn.p ?_|((first|refine Rs.p ?_|refine Hd.mk ?_|(first|(refine aR hR (iy hR _ _ g hf ps hl) ?_ rfl rfl ?_;(focus(first|exact fun p hp=>aL (cC.nd hR) hp|(simp[go_sem,simprocAttr];done))))|(refine aR hR (iy hR _ _ g hf ps hl) ?_ ?_ rfl ?_;(focus(first|exact fun p hp=>aL (cC.nd hR) hp|(simp[go_sem,simprocAttr];done)));(focus(simp[go_sem,simprocAttr];done)))));try simp only[go_sem,simprocAttr])|with_reducible (apply And.intro))
 ·exact cT g ps
 ·exact cu hR
def AY(g:Gr)(x:Int):Bool:=decide (x<0)||decide (g.n<=x)
def uE(g:Gr)(e:Edge):Bool:=AY g e.1||AY g e.2
def aM(g:Gr):Bool:=decide (0<g.n)&&decide (g.n<=64)&&decide ((g.es.length:Int)<=128)&& !g.es.any (uE g)
def rG(g:Gr):AObj:= .rob [eN g.n, .d (sE g.es)]
theorem CY(g:Gr)(x:Int):Spec Tryz.prog 143 (Args [eN x, .ptr 10000 0]) [(10000,rG g)] (eB (AY g x)) [(10000,rG g)]:=by
 unfold rG
 (refine T.h [] [] [.t 3] Tryz.func143 rfl rfl (by kernel_rfl) fun X hX hP hC aA bB=> ?_)
 repeat' (first|refine Rn.p ?_|((first|refine Rs.p ?_|refine Hd.mk ?_);try simp only[go_sem,simprocAttr])|with_reducible (first|apply And.intro|(intro h;try simp only[go_sem,simprocAttr]at h)))
 ·simp[AY, *]
 ·simp[AY, *]
theorem Sx(g:Gr):cC [(10000,rG g)]:=⟨by simp[rG,AObj.ro],by simp[nodupM,look],by simp,by simp[rG,AObj.ids,AV.ids,AV.idss,eN]⟩
def rF:AObj:= .rob [.fn 143 [] [.ptr 10000 0]]
attribute [go_sem] rG rF
theorem Mi(g:Gr)(e:Edge):Spec Tryz.prog 145 (Args [eE e, .ptr 10001 0]) [(10001,rF),(10000,rG g)] (eB (uE g e)) [(10001,rF),(10000,rG g)]:=by
 unfold rF rG
 (refine T.h [] [] [.t 3] Tryz.func145 rfl rfl (by kernel_rfl) fun X hX hP hC aA bB=> ?_)
 repeat' (first|refine Rn.p ?_|((first|refine Rs.p ?_|refine Hd.mk ?_|(first|(refine aR (Sx g) (CY g _) ?_ rfl rfl ?_;(focus(first|exact fun p hp=>aL (cC.nd (Sx g)) hp|(simp[go_sem,simprocAttr];done))))|(refine aR (Sx g) (CY g _) ?_ ?_ rfl ?_;(focus(first|exact fun p hp=>aL (cC.nd (Sx g)) hp|(simp[go_sem,simprocAttr];done)));(focus(simp[go_sem,simprocAttr];done)))));try simp only[go_sem,simprocAttr])|with_reducible (first|apply And.intro|(intro h;try simp only[go_sem,simprocAttr]at h)))
 ·simp[uE, *]
 ·simp[uE, *]
theorem aaR(g:Gr):cC [(10001,rF),(10000,rG g)]:=⟨by simp[rG,rF,AObj.ro],by simp[nodupM,look],by simp,by simp[rG,rF,AObj.ids,AV.ids,AV.idss,eN,look]⟩
theorem qJ(g:Gr)(hl:g.es.length<=9223372036854775807):Spec Tryz.prog 91 (Args [eG g]) [] (eB (aM g)) []:=by
 (refine T.h [] [] [.t 2] Tryz.func91 rfl rfl (by kernel_rfl) fun X hX hP hC aA bB=> ?_)
 repeat' (first|refine Rn.p ?_|((first|refine Rs.p ?_|refine Hd.mk ?_|(refine bw [(10000,1),(10001,3)] (uD (aaR g) _ _ (uE g) (Mi g) g.es hl) ?_ ?_;(focus(simp[go_sem,simprocAttr];done))));try simp only[go_sem,simprocAttr])|with_reducible (first|apply And.intro|(intro h;try simp only[go_sem,simprocAttr]at h)))
 all_goals simp[aM, *]
def jg(l:List Int)(x:Int):Int:=bT (fun y=>decide (x=y)) l
def Vh(l:List Edge)(x:Edge):Int:=bT (fun y=>decide (x=y)) l
theorem O9(l:List Int)(x:Int):decide (0<=jg l x)=decide (x∈l):=by
 unfold jg;rw[cT,ad1];simp
theorem Pb(l:List Edge)(x:Edge):decide (0<=Vh l x)=decide (x∈l):=by
 unfold Vh;rw[cT,ad1];simp[-Prod.exists, -Prod.forall]
theorem qK(x y:Edge):(decide (x.1=y.1)&&decide (x.2=y.2))=decide (x=y):=by
 obtain⟨a,b⟩:=x;obtain⟨c,d⟩:=y
 rw[ad1];simp
theorem iR(ps:List Int)(x:Int)(hl:ps.length<=9223372036854775807):
 Spec Tryz.prog 46 (Args [.d (sI ps),eN x]) [] (eN (jg ps x)) []:=by
 (refine T.h [] [] [.t 4] Tryz.func46 rfl rfl (by kernel_rfl) fun X hX hP hC aA bB=> ?_)
 repeat' (first|refine Rn.p ?_|((first|refine Rs.p ?_|refine Hd.mk ?_);try simp only[go_sem,simprocAttr]))
 refine ag (fun k:Nat=>k<=ps.length/\∀j,j<k->decide (x=ps.getD j 0)=false) (fun k=>⟨[(0, .d (sI ps)),(1,eN x),(7,eN ps.length),(8,eN k)], []⟩) (fun k=>ps.length - k) 0 (by simp) ?_ ?_
 ·(refine⟨bS ?_,fun _ _ h=>h⟩;simp[go_sem,simprocAttr])
 rintro k ⟨hk,hg⟩
 repeat' (first|refine Rn.p ?_|((first|refine Rs.p ?_|refine Hd.mk ?_);try simp only[go_sem,simprocAttr])|with_reducible (first|apply And.intro|(intro h;try simp only[go_sem,simprocAttr]at h))|omega)
 ·exact(b9 (by omega) hg (by simpa using h)).symm
 ·refine⟨k+1,⟨by omega,fun j hj=> ?_⟩, ?_,by omega⟩
  ·by_cases hjk:j=k
   ·subst hjk;simpa using h
   ·simpa using hg j (by omega)
  ·(refine⟨bS ?_,fun _ _ h=>h⟩;simp[go_sem,simprocAttr])
 ·exact(bL 0 fun j hj=>hg j (by omega)).symm
theorem dm(ps:List Int)(x:Int)(hl:ps.length<=9223372036854775807):
 Spec Tryz.prog 164 (Args [.d (sI ps),eN x]) [] (eB (decide (x∈ps))) []:=by
 rw[<- O9]
 (refine T.h [] [] [.t 4] Tryz.func164 rfl rfl (by kernel_rfl) fun X hX hP hC aA bB=> ?_)
 repeat' (first|refine Rn.p ?_|((first|refine Rs.p ?_|refine Hd.mk ?_|refine aa (iR ps x hl) rfl ?_);try simp only[go_sem,simprocAttr]))
theorem Ge(ps:List Edge)(x:Edge)(hl:ps.length<=9223372036854775807):
 Spec Tryz.prog 160 (Args [.d (sE ps),eE x]) [] (eN (Vh ps x)) []:=by
 (refine T.h [] [] [.t 4] Tryz.func160 rfl rfl (by kernel_rfl) fun X hX hP hC aA bB=> ?_)
 repeat' (first|refine Rn.p ?_|((first|refine Rs.p ?_|refine Hd.mk ?_);try simp only[go_sem,simprocAttr]))
 refine ag (fun k:Nat=>k<=ps.length/\∀j,j<k->decide (x=ps.getD j (0,0))=false) (fun k=>⟨[(0, .d (sE ps)),(3, .ptr 3 0),(7,eN ps.length),(8,eN k)], [(3, .box [eN x.1,eN x.2])]⟩) (fun k=>ps.length - k) 0 (by simp) ?_ ?_
 ·(refine Le.of ?_ ?_<;>simp[go_sem,simprocAttr])
 rintro k ⟨hk,hg⟩
 repeat' (first|refine Rn.p ?_|((first|refine Rs.p ?_|refine Hd.mk ?_);try simp only[go_sem,simprocAttr,qK])|with_reducible (first|apply And.intro|refine oD (by kernel_rfl) ?_|(intro h;try simp only[go_sem,simprocAttr,qK]at h))|omega)
 ·exact(b9 (d:=(0,0)) (by omega) hg (by simpa using h)).symm
 ·refine⟨k+1,⟨by omega,fun j hj=> ?_⟩, ?_,by omega⟩
  ·by_cases hjk:j=k
   ·subst hjk;exact h
   ·simpa using hg j (by omega)
  ·(refine Le.of ?_ ?_<;>simp[go_sem,simprocAttr,qK])
 ·exact(bL (0,0) fun j hj=>hg j (by omega)).symm
theorem AZ(ps:List Edge)(x:Edge)(hl:ps.length<=9223372036854775807):
 Spec Tryz.prog 113 (Args [.d (sE ps),eE x]) [] (eB (decide (x∈ps))) []:=by
 rw[<- Pb]
 (refine T.h [] [] [.t 4] Tryz.func113 rfl rfl (by kernel_rfl) fun X hX hP hC aA bB=> ?_)
 repeat' (first|refine Rn.p ?_|((first|refine Rs.p ?_|refine Hd.mk ?_|refine aa (Ge ps x hl) rfl ?_);try simp only[go_sem,simprocAttr,qK]))
theorem Gf(ps:List Edge)(hl:ps.length<=1000000):
 Spec Tryz.prog 92 (Args [.d (sE ps)]) [] (.d (sE ps)) []:=by
 (refine T.h [] [] [.t 2] Tryz.func92 rfl rfl (by kernel_rfl) fun X hX hP hC aA bB=> ?_)
 repeat' (first|refine Rn.p ?_|((first|refine Rs.p ?_|refine Hd.mk ?_);try simp only[go_sem,simprocAttr])|with_reducible (first|apply And.intro|(intro h;try simp only[go_sem,simprocAttr]at h))|omega)
 exact h.symm
theorem qL(ps:List Int)(hl:ps.length<=1000000):
 Spec Tryz.prog 44 (Args [.d (sI ps)]) [] (.d (sI ps)) []:=by
 (refine T.h [] [] [.t 2] Tryz.func44 rfl rfl (by kernel_rfl) fun X hX hP hC aA bB=> ?_)
 repeat' (first|refine Rn.p ?_|((first|refine Rs.p ?_|refine Hd.mk ?_);try simp only[go_sem,simprocAttr])|with_reducible (first|apply And.intro|(intro h;try simp only[go_sem,simprocAttr]at h))|omega)
 exact h.symm
theorem Mj{α:Type}{xs ys:List α}(d:α){k:Nat}(h1:k<xs.length)(h2:k<ys.length)(h:xs.take k=ys.take k)(he:xs.getD k d=ys.getD k d):xs.take (k+1)=ys.take (k+1):=by
 rw[ad2,ad2,h,acF h1,acF h2]
 simp only[aas,acF h1,acF h2,Option.getD_some]at he
 rw[he]
theorem nS{α:Type}{f:α->Bool}{xs:List α}(d:α){k:Nat}(h1:k<xs.length)(h:(xs.take k).any f=false)(he:f (xs.getD k d)=false):(xs.take (k+1)).any f=false:=by
 rw[ad2,agZ,h,acF h1]
 simp only[aas,acF h1,Option.getD_some]at he
 simp[he]
theorem uF{α:Type}{f:α->Bool}{xs:List α}{d:α}{k:Nat}(h1:k<xs.length)(he:f (xs.getD k d)=true):xs.any f=true:=by
 rw[adR]
 refine⟨_,ad3 h1, ?_⟩
 simpa only[aas,acF h1,Option.getD_some]using he
theorem Gg{g:Gr}{k:Nat}(h1:k<g.es.length)(he:uE g (g.es.getD k (0,0))=true):false=aM g:=by
 simp[aM,uF h1 he]
theorem yR(g:Gr)(hl:g.es.length<=9223372036854775807):Spec Tryz.prog 49 (Args [eG g]) [] (eB (aM g)) []:=by
 (refine T.h [] [] [.t 2] Tryz.func49 rfl rfl (by kernel_rfl) fun X hX hP hC aA bB=> ?_)
 repeat' (first|refine Rn.p ?_|((first|refine Rs.p ?_|refine Hd.mk ?_);try simp only[go_sem,simprocAttr])|with_reducible (first|apply And.intro|(intro h;try simp only[go_sem,simprocAttr]at h)))
 any_goals (simp[aM];omega)
 refine ag (fun k:Nat=>k<=g.es.length/\(g.es.take k).any (uE g)=false) (fun k=>⟨[(1, .ptr 1 0),(3,eN k)], [(1, .box [eN g.n, .d (sE g.es)])]⟩) (fun k=>g.es.length - k) 0 (by simp) ?_ ?_
 ·(refine Le.of ?_ ?_<;>simp[go_sem,simprocAttr])
 rintro k ⟨hk,hp⟩
 repeat' (first|refine Rn.p ?_|((first|refine Rs.p ?_|refine Hd.mk ?_);try simp only[go_sem,simprocAttr])|with_reducible (first|apply And.intro|(intro h;try simp only[go_sem,simprocAttr]at h))|omega)
 any_goals (refine Gg (k:=k) (by omega) ?_;simp only[uE,AY,adL,ade];omega)
 ·refine⟨k+1,⟨by omega,nS (0,0) (by omega) hp ?_⟩, ?_,by omega⟩
  ·simp only[uE,AY,aeq,adM];omega
  ·(refine Le.of ?_ ?_<;>simp[go_sem,simprocAttr])
 ·rw[adC (by omega)]at hp
  simp[aM,hp];omega
def gU(f:Edge->Int)(es:List Edge)(k:Nat)(x:Nat):List Int:=((List.range k).filter fun i=>decide (f (es.getD i (0,0))=(x:Int))).map Int.ofNat
def tT(f:Edge->Int)(es:List Edge)(n k:Nat):List (List (List D)):=(List.range n).map fun x=>(gU f es k x).map rI
def sL(ls:List (List Int)):D:= .sl 1 (ls.map fun l=> [sI l])
def eR(f:Edge->Int)(g:Gr):List (List Int):=(List.range g.n.toNat).map (gU f g.es g.es.length)
def vw(g:Gr):D:= .pt [.sc (.int .i64 g.n),sE g.es,sL (eR (·.1) g),sL (eR (·.2) g)]
theorem aB{g:Gr}(h:aM g=true):0<g.n/\g.n<=64/\g.es.length<=128:=by
 simp[aM]at h;omega
theorem cU{g:Gr}(h:aM g=true){k:Nat}(hk:k<g.es.length):(0<=(g.es.getD k (0,0)).1/\(g.es.getD k (0,0)).1<g.n)/\(0<=(g.es.getD k (0,0)).2/\(g.es.getD k (0,0)).2<g.n):=by
 have h2:=Gg (g:=g) hk
 rw[h]at h2
 have h3:¬uE g (g.es.getD k (0,0))=true:=fun e=>by simpa using h2 e
 simp only[uE,AY,adL,ade]at h3
 omega
theorem fz{f:Edge->Int}{es:List Edge}{n k:Nat} :(tT f es n k).length=n:=by simp[tT]
theorem nT{f:Edge->Int}{es:List Edge}{n k x:Nat}(hx:x<n):(tT f es n k)[x]? =some ((gU f es k x).map rI):=by
 simp[tT,adq hx]
theorem kZ{f:Edge->Int}{es:List Edge}{k x:Nat} :(gU f es k x).length<=k:=by
 simpa[gU]using aeI (fun i=>decide (f (es.getD i (0,0))=(x:Int))) (List.range k)
theorem Iz{f:Edge->Int}{es:List Edge}{k x:Nat} :gU f es (k+1) x=gU f es k x++if f (es.getD k (0,0))=(x:Int) then [(k:Int)] else []:=by
 simp only[gU,adW,ad9,adt,aeE,List.filter_nil]
 split<;>simp_all
theorem A0{f:Edge->Int}{es:List Edge}{n k:Nat}(h0:0<=f (es.getD k (0,0))):
 (tT f es n k).set (f (es.getD k (0,0))).toNat ((gU f es k (f (es.getD k (0,0))).toNat).map rI++ [[.sc (.int .i64 k)]])=tT f es n (k+1):=by
 refine adZ fun i=> ?_
 rw[aeb,fz]
 by_cases hi:i<n
 ·rw[nT hi,nT hi,Iz]
  generalize f (es.getD k (0,0))=e at*
  by_cases hq:e=(i:Int)
  ·subst hq;simp[hi,rI]
  ·have:¬e.toNat=i:=by omega
   simp[hq,this]
 ·rw[adp (by rw[fz];omega),adp (by rw[fz];omega)]
  generalize f (es.getD k (0,0))=e at*
  split
  ·rename_i hq;rw[ac8 (by omega)]
  ·rfl
theorem A4{f:Edge->Int}{es:List Edge}{n:Nat} :List.replicate n []=tT f es n 0:=by
 refine adZ fun i=> ?_
 by_cases hi:i<n
 ·rw[nT hi];simp[hi,gU]
 ·rw[adp (by simp;omega),adp (by rw[fz];omega)]
theorem sx(g:Gr)(hm:aM g=true):Spec Tryz.prog 40 (Args [eG g]) [] (.d (vw g)) []:=by
 have hn:=aB hm
 have hl:g.es.length<=9223372036854775807:=by omega
 have hl':g.es.length<=1000000:=by omega
 (refine T.h [] [13,16] [.t 2] Tryz.func40 rfl rfl (by kernel_rfl) fun X hX hP hC aA bB=> ?_)
 repeat' (first|refine Rn.p ?_|((first|refine Rs.p ?_|refine Hd.mk ?_|refine aa (qJ g hl) rfl ?_|refine aa (Gf g.es hl') rfl ?_);try simp only[go_sem,simprocAttr,hm])|with_reducible (first|apply And.intro|refine oD (by kernel_rfl) ?_)|omega)
 refine F8 hX 13 (by simp[go_sem,simprocAttr,hm];exact⟨rfl,rfl,rfl,rfl⟩) (by decide) (by simp[go_sem,simprocAttr,hm]) (by simp[go_sem,simprocAttr,hm]) ?_
 refine F8 hX 16 (by simp[go_sem,simprocAttr,hm];exact⟨rfl,rfl,rfl,rfl⟩) (by decide) (by simp[go_sem,simprocAttr,hm]) (by simp[go_sem,simprocAttr,hm]) ?_
 simp only[go_sem,simprocAttr,hm]
 refine ag (fun k:Nat=>k<=g.es.length) (fun k=>⟨[(29,eN k),(28,eN g.es.length),(27, .d (sE g.es)),(3, .ptr 18 0)], [(18, .box [eN g.n, .d (sE g.es), .ref 13, .ref 16]),(16, .nest 25 3 1 (tT (·.2) g.es g.n.toNat k) none),(13, .nest 25 3 1 (tT (·.1) g.es g.n.toNat k) none)]⟩) (fun k=>g.es.length - k) 0 (by simp) ?_ ?_
 ·refine Le.of ?_ ?_<;>simp[go_sem,simprocAttr,hm]
  exact⟨A4,A4⟩
 rintro k hk
 rcases adk k g.es.length with hlt|hge
 ·have hb:decide ((k:Int)<(g.es.length:Int))=true:=ac7 (by omega)
  obtain⟨yL,Cu⟩:=cU hm hlt
  have hg1:=nT (f:=(·.1)) (es:=g.es) (k:=k) (show(g.es.getD k (0,0)).1.toNat<g.n.toNat by omega)
  have hg2:=nT (f:=(·.2)) (es:=g.es) (k:=k) (show(g.es.getD k (0,0)).2.toNat<g.n.toNat by omega)
  have NZ:=kZ (f:=(·.1)) (es:=g.es) (k:=k) (x:=(g.es.getD k (0,0)).1.toNat)
  have IA:=kZ (f:=(·.2)) (es:=g.es) (k:=k) (x:=(g.es.getD k (0,0)).2.toNat)
  repeat' (first|refine Rn.p ?_|((first|refine Rs.p ?_|refine Hd.mk ?_);try simp only[go_sem,simprocAttr,hm,hb,hg1,hg2,fz])|with_reducible (first|apply And.intro|(refine oD ?_ ?_;first|(focus(simp only[AA,vG,lS,meets,D9,xZ,OW,eO,yP,vM,Rec.rs,Rec.xW,Rec.UU,jJ,Rec.fm,Rec.names,KV.ids,U3,U4,U5,U6,U7,U8,List.zip_cons_cons,List.zip_nil_right,List.zipIdx_cons,List.zipIdx_nil,List.all_cons,List.all_nil,List.contains_cons,List.contains_nil,List.any_cons,List.any_nil,List.flatMap_nil,List.reverse_cons,List.reverse_nil,nP,NX,Region.binds,go_sem,simprocAttr,hm,hb,hg1,hg2,fz];done))|kernel_rfl))|omega)
  refine⟨k+1,by omega, ?_,by omega⟩
  refine Le.of ?_ ?_<;>simp[go_sem,simprocAttr,hm,hb,hg1,hg2,fz]
  exact⟨A0 (f:=(·.2)) Cu.1,A0 (f:=(·.1)) yL.1⟩
 ·repeat' (first|refine Rn.p ?_|((first|refine Rs.p ?_|refine Hd.mk ?_);try simp only[go_sem,simprocAttr])|with_reducible (first|apply And.intro|(intro h;try simp only[go_sem,simprocAttr]at h))|omega)
  have:k=g.es.length:=by omega
  subst this
  simp only[vw,sE,sL,eR,tT,aeF]
  rfl
def tl(g:Gr)(i:Nat):Int:=(g.es.getD i (0,0)).1
def hd(g:Gr)(i:Nat):Int:=(g.es.getD i (0,0)).2
def wt(g:Gr)(out:List Int)(y:Nat):Int:=
 if(y:Int)∈out then -1 else(((List.range g.es.length).countP fun i=>decide (hd g i=(y:Int))&& !decide (tl g i∈out):Nat):Int)
def eS(g:Gr)(out:List Int):List Int:=(List.range g.n.toNat).map (wt g out)
def CB(g:Gr):Nat->List Int->List Int
 |0,out=>out
 |f+1,out=>if jg (eS g out) 0<0 then out else CB g f (out++ [jg (eS g out) 0])
def aZ(g:Gr):List Int:=CB g g.n.toNat []
structure gP (g:Gr) (out:List Int):Prop where
 lo:∀x∈out,0<=x/\x<g.n
 back:∀i,i<g.es.length->hd g i∈out->tl g i∈out
 fuel:out.length+(List.range g.n.toNat).countP (fun y:Nat=> !decide ((y:Int)∈out))=g.n.toNat
theorem jK{α:Type}{f:α->Bool}{l:List α}(d:α):bT f l= -1/\(∀x∈l,f x=false)\/∃k:Nat,bT f l=k/\k<l.length/\f (l.getD k d)=true/\∀j,j<k->f (l.getD j d)=false:=by
 cases h:l.findIdx? f with
 |none=>
  rw[aeO]at h
  exact .inl ⟨by simp[bT,aeO.2 h],h⟩
 |some i=>
  obtain⟨hi,hg,hb⟩:=aen.1 h
  refine .inr ⟨i,by simp[bT,h],hi,by simpa[aas,acF hi]using hg,fun j hj=> ?_⟩
  have hjl:j<l.length:=by omega
  have:=hb j hj
  simpa[aas,acF hjl]using this
theorem wts_length{g:Gr}{out:List Int} :(eS g out).length=g.n.toNat:=by simp[eS]
theorem qM{g:Gr}{out:List Int}{y:Nat}(h:y<g.n.toNat)(d:Int):(eS g out).getD y d=wt g out y:=by
 simp[eS,aas,adq h]
theorem qN{p:Nat->Bool}{x:Nat}(hx:p x=true):∀ {n:Nat},x<n->(List.range n).countP (fun y=>p y&& !decide (y=x))+1=(List.range n).countP p
 |0,h=>by omega
 |n+1,h=>by
  rw[adW,aeN,aeN]
  by_cases Gh:x=n
  ·subst Gh
   have:(List.range x).countP (fun y=>p y&& !decide (y=x))=(List.range x).countP p:=by
    refine afj fun y hy=> ?_
    have:y≠x:=by have:=adl.1 hy;omega
    simp[this]
   rw[this]
   simp[afU,hx]
  ·have:=qN hx (n:=n) (by omega)
   have hn:n≠x:=fun e=>Gh e.symm
   simp only[afU,List.countP_nil,hn,decide_false,aft,aeZ]
   omega
theorem gP.nil(g:Gr):gP g []:=⟨by simp,by simp,by rw[agf,afl.2 (by simp)];simp⟩
theorem gP.next{g:Gr}(hm:aM g=true){out:List Int}(h:gP g out){x:Nat}(hx:x<g.n.toNat)(hw:wt g out x=0):gP g (out++ [(x:Int)])/\(x:Int)∉out/\(∀i,i<g.es.length->hd g i=x->tl g i∈out):=by
 have pE:(x:Int)∉out:=fun hi=>by simp[wt,hi]at hw
 have hb:∀i,i<g.es.length->hd g i=x->tl g i∈out:=by
  intro i hi he
  simp only[wt,pE,if_false]at hw
  have:=ae5.1 (afp hw) i (adl.2 hi)
  simpa[he]using this
 refine⟨⟨?_, ?_, ?_⟩,pE,hb⟩
 ·intro y hy
  rcases ac9.1 hy with hy|hy
  ·exact h.lo y hy
  ·simp at hy;omega
 ·intro i hi hh
  rcases ac9.1 hh with hh|hh
  ·exact adS _ (h.back i hi hh)
  ·simp at hh
   exact adS _ (hb i hi hh)
 ·have h1:=h.fuel
  have h2:=qN (p:=fun y:Nat=> !decide ((y:Int)∈out)) (x:=x) (by simp[pE]) hx
  have h3:(List.range g.n.toNat).countP (fun y:Nat=> !decide ((y:Int)∈out++ [(x:Int)]))=(List.range g.n.toNat).countP (fun y:Nat=>(!decide ((y:Int)∈out))&& !decide (y=x)):=by
   refine afj fun y _=> ?_
   simp;omega
  rw[h3,adj,List.length_singleton]
  omega
def mN(g:Gr)(x:Nat):List Int:=gU (·.1) g.es g.es.length x
def qx(g:Gr)(x:Nat):List Int:=gU (·.2) g.es g.es.length x
theorem Pd{g:Gr}{x:Nat}{e:Int}(h:e∈mN g x):∃i:Nat,e=i/\i<g.es.length/\tl g i=x:=by
 simp only[mN,gU,adb,adJ,adl,ade]at h
 obtain⟨i,⟨h1,h2⟩,rfl⟩:=h
 exact⟨i,rfl,h1,h2⟩
def N0(g:Gr)(out:List Int)(x j y:Nat):Int:=
 if(y:Int)∈out++ [(x:Int)] then -1 else(((List.range g.es.length).countP fun i=>decide (hd g i=(y:Int))&& !decide (tl g i∈out):Nat):Int) - (((mN g x).take j).countP fun e=>decide (hd g e.toNat=(y:Int)):Nat)
def CC(g:Gr)(out:List Int)(x j:Nat):List Int:=(List.range g.n.toNat).map (N0 g out x j)
theorem wtps_length{g:Gr}{out:List Int}{x j:Nat} :(CC g out x j).length=g.n.toNat:=by simp[CC]
theorem vS{g:Gr}{out:List Int}{x j y:Nat}(h:y<g.n.toNat):(CC g out x j)[y]? =some (N0 g out x j y):=by
 simp[CC,adq h]
theorem pH{g:Gr}{out:List Int}{y:Nat}(h:y<g.n.toNat):(eS g out)[y]? =some (wt g out y):=by
 simp[eS,adq h]
theorem Mk{g:Gr}{out:List Int}{x:Nat} :(eS g out).set x (-1)=CC g out x 0:=by
 refine adZ fun i=> ?_
 rw[aeb,wts_length]
 by_cases hi:i<g.n.toNat
 ·rw[pH hi,vS hi]
  by_cases hx:x=i
  ·subst hx;simp[hi,N0]
  ·have:¬i=x:=fun e=>hx e.symm
   simp only[hx,if_false,N0,wt,ac9,adv,List.take_zero,List.countP_nil]
   have h2:¬(i:Int)=(x:Int):=by omega
   simp[h2]
 ·rw[adp (by rw[wts_length];omega),adp (by rw[wtps_length];omega)]
  split
  ·rw[ac8 (by omega)]
  ·rfl
theorem pI{α:Type}{p q r:α->Bool} :∀ {l:List α},(∀a∈l,p a=(q a||r a)/\(q a&&r a)=false)->l.countP p=l.countP q+l.countP r
 | [],_=>rfl
 |a::l,h=>by
  obtain⟨h1,h2⟩:=h a adI
  have:=pI (l:=l) fun b hb=>h b (adA _ hb)
  simp only[afU,this,h1]
  cases hq:q a<;>cases hr:r a<;>simp[hq,hr]at h2 ⊢ <;>omega
theorem Pe{g:Gr}{out:List Int}{x j:Nat}(hx:(x:Int)∉out)(hj:(mN g x).length<=j):CC g out x j=eS g (out++ [(x:Int)]):=by
 refine ae6 fun y _=> ?_
 simp only[N0,wt]
 split
 ·rfl
 ·rw[adC hj]
  have h1:(mN g x).countP (fun e=>decide (hd g e.toNat=(y:Int)))=(List.range g.es.length).countP (fun i=>decide (hd g i=(y:Int))&&decide (tl g i=(x:Int))):=by
   simp only[mN,gU,List.countP_map,List.countP_filter]
   exact afj fun i _=>by simp[tl]
  have h2:=pI (p:=fun i=>decide (hd g i=(y:Int))&& !decide (tl g i∈out)) (q:=fun i=>decide (hd g i=(y:Int))&& !decide (tl g i∈out++ [(x:Int)])) (r:=fun i=>decide (hd g i=(y:Int))&&decide (tl g i=(x:Int))) (l:=List.range g.es.length) (fun i _=>by
   by_cases h3:tl g i=x
   ·simp[h3,hx]
   ·simp[h3])
  rw[h1,h2];omega
theorem Vi{g:Gr}{out:List Int}{x:Nat}(hP:gP g out)(pE:(x:Int)∉out)(hb:∀i,i<g.es.length->hd g i=x->tl g i∈out){i:Nat}(hi:i<g.es.length)(ht:tl g i=x):hd g i∉out++ [(x:Int)]:=by
 intro h
 rcases ac9.1 h with h|h
 ·exact pE (ht ▸ hP.back i hi h)
 ·simp at h
  exact pE (ht ▸ hb i hi h)
theorem Ml{g:Gr}{out:List Int}{x j i:Nat}(hj:(mN g x)[j]? =some (i:Int))(h0:0<=hd g i)(hn:hd g i∉out++ [(x:Int)]):
 (CC g out x j).set (hd g i).toNat (N0 g out x j (hd g i).toNat - 1)=CC g out x (j+1):=by
 refine adZ fun y=> ?_
 rw[aeb,wtps_length]
 by_cases hy:y<g.n.toNat
 ·rw[vS hy,vS hy]
  have ht:((mN g x).take (j+1)).countP (fun e=>decide (hd g e.toNat=(y:Int)))=((mN g x).take j).countP (fun e=>decide (hd g e.toNat=(y:Int)))+if hd g i=(y:Int) then 1 else 0:=by
   rw[ad2,aeN,hj]
   simp[afU]
  by_cases hq:(hd g i).toNat=y
  ·subst hq
   have he:((hd g i).toNat:Int)=hd g i:=by omega
   rw[ada rfl,ada (by assumption)]
   rw[he,ada rfl]at ht
   simp only[N0,he,hn,if_false,ht]
   congr 1;omega
  ·rw[ac8 hq]
   have oW:¬hd g i=(y:Int):=by omega
   simp only[N0,ht,oW,if_false,Nat.add_zero]
 ·rw[adp (by rw[wtps_length];omega),adp (by rw[wtps_length];omega)]
  split
  ·rw[ac8 (by omega)]
  ·rfl
def RQ(f:Edge->Int)(g:Gr):List (List D):=(eR f g).map fun l=> [sI l]
theorem qO{f:Edge->Int}{g:Gr}{x:Nat}(h:x<g.n.toNat)(d:List D):(RQ f g).getD x d= [sI (gU f g.es g.es.length x)]:=by
 simp[RQ,eR,aas,adq h]
theorem vwl_length{f:Edge->Int}{g:Gr} :(RQ f g).length=g.n.toNat:=by simp[RQ,eR]
def WD(g:Gr):D:= .pt [.sc (.int .i64 g.n),sE g.es, .sl 1 (RQ (·.1) g), .sl 1 (RQ (·.2) g)]
theorem cm(g:Gr):vw g=WD g:=rfl
attribute [go_sem] WD wtps_length wts_length vwl_length
theorem Pf{g:Gr}{k:Nat}(h:k<g.n.toNat):(eS g []).take (k+1)=(eS g []).take k++ [((qx g k).length:Int)]:=by
 rw[ad2,pH h]
 simp[wt,qx,gU,hd,agf]
theorem Mm{g:Gr}(hm:aM g=true){out:List Int}{x j y:Nat} : -1000<=N0 g out x j y/\N0 g out x j y<=1000:=by
 have hn:=aB hm
 have h1:=aeR (p:=fun i=>decide (hd g i=(y:Int))&& !decide (tl g i∈out)) (l:=List.range g.es.length)
 have h2:=aeR (p:=fun e:Int=>decide (hd g e.toNat=(y:Int))) (l:=(mN g x).take j)
 have h3:((mN g x).take j).length<=g.es.length:=aek (List.length_take_le' _ _) kZ
 simp only[ae3]at h1
 unfold N0
 split<;>omega
theorem Gj{g:Gr}{out:List Int}(h:jg (eS g out) 0<0):∀f,CB g f out=out
 |0=>rfl
 |f+1=>by simp[CB,h]
def left(g:Gr)(out:List Int):Nat:=(List.range g.n.toNat).countP (fun y:Nat=> !decide ((y:Int)∈out))
theorem CZ{g:Gr}{out:List Int}{x:Nat}(h:gP g out)(h':gP g (out++ [(x:Int)])):left g out=left g (out++ [(x:Int)])+1:=by
 have h1:=h.fuel
 have h2:=h'.fuel
 rw[adj,List.length_singleton]at h2
 unfold left;omega
theorem XS{g:Gr}(out:List Int):jg (eS g out) 0= -1\/∃x:Nat,jg (eS g out) 0=x/\x<g.n.toNat/\wt g out x=0:=by
 rcases jK (f:=fun y:Int=>decide (0=y)) (l:=eS g out) 0 with ⟨h,_⟩|⟨k,h1,h2,h3,_⟩
 ·exact .inl h
 ·rw[wts_length]at h2
  rw[qM h2]at h3
  exact .inr ⟨k,h1,h2,by simpa using(ael h3).symm⟩
theorem Pg(g:Gr)(hm:aM g=true):Spec Tryz.prog 161 (Args [.d (vw g)]) [] (.tup [.d (sI (aZ g)), .d (sI (eS g (aZ g)))]) []:=by
 rw[cm]
 have hn:=aB hm
 (refine T.h [22] [] [.t 2, .t 3] Tryz.func161 rfl rfl (by kernel_rfl) fun X hX hP hC aA bB=> ?_)
 repeat' (first|refine Rn.p ?_|((first|refine Rs.p ?_|refine Hd.mk ?_);try simp only[go_sem,simprocAttr]))
 (refine dQ hX 3 22 (.own 3 1 []) (by simp only[go_sem,simprocAttr]) (by simp only[go_sem,simprocAttr]) (by decide) ⟨3,1,by decide, .inl rfl⟩ ?_;simp only[go_sem,simprocAttr])
 refine ag (fun k:Nat=>k<=g.n.toNat) (fun k=>⟨[(14,eN k),(13,eN g.n.toNat),(12, .d (.sl 1 (RQ (·.2) g))),(3, .ref 22),(2, .nil 3),(0, .d (WD g))], [(22, .own 3 1 (((eS g []).take k).map rI))]⟩) (fun k=>g.n.toNat - k) 0 (by simp) ?_ ?_
 ·(refine Le.of ?_ ?_<;>simp[go_sem,simprocAttr])
 ·rintro k hk
  rcases adk k g.n.toNat with hlt|hge
  ·have hb:decide ((k:Int)<(g.n.toNat:Int))=true:=ac7 (by omega)
   have hv:=qO (f:=(·.2)) hlt
   have NZ:(qx g k).length<=g.es.length:=kZ
   have hlt':((eS g []).take k).length<=64:=by rw[adH,wts_length];omega
   repeat' (first|refine Rn.p ?_|((first|refine Rs.p ?_|refine Hd.mk ?_);try simp only[go_sem,simprocAttr,hb,hv])|with_reducible (apply And.intro)|omega)
   refine⟨k+1,by omega, ?_,by omega⟩
   refine Le.of ?_ ?_<;>simp[go_sem,simprocAttr,hb,hv,Pf hlt]
   rfl
  ·obtain rfl:k=g.n.toNat:=by omega
   have hb:decide ((g.n.toNat:Int)<(g.n.toNat:Int))=false:=ac6 (by omega)
   have ht:(eS g []).take g.n.toNat=eS g []:=adC (by rw[wts_length];omega)
   repeat' (first|refine Rn.p ?_|((first|refine Rs.p ?_|refine Hd.mk ?_);try simp only[go_sem,simprocAttr,hb,ht]))
   (refine dQ hX 2 33 (.tip 3 1 []) (by simp only[go_sem,simprocAttr,hb,ht]) (by simp only[go_sem,simprocAttr,hb,ht]) (by decide) ⟨3,1,by decide, .inr rfl⟩ ?_;simp only[go_sem,simprocAttr,hb,ht])
   refine ag (fun out:List Int=>gP g out/\CB g (left g out) out=aZ g) (fun out=>⟨[(3, .ref 22),(2, .ref 33),(0, .d (WD g))], [(22, .own 3 1 ((eS g out).map rI)),(33, .tip 3 1 (out.map rI))]⟩) (left g) [] ⟨gP.nil g, ?_⟩ ?_ ?_
   ·have:=(gP.nil g).fuel
    simp only[List.length_nil,adU]at this
    unfold left aZ
    rw[this]
   ·(refine Le.of ?_ ?_<;>simp[go_sem,simprocAttr,hb,ht])
   rintro out ⟨dI,hrun⟩
   have Za:(eS g out).length<=9223372036854775807:=by rw[wts_length];omega
   have hout:out.length<=64:=by have:=dI.fuel;omega
   rcases XS (g:=g) out with hx|⟨x,hx,Gh,hw0⟩
   ·have hr:=Gj (g:=g) (out:=out) (by omega) (left g out)
    rw[hrun]at hr
    repeat' (first|refine Rn.p ?_|((first|refine Rs.p ?_|refine Hd.mk ?_|(refine cr (iR (eS g out) 0 Za) ?_ ?_ ?_;iterate 2 (focus(simp only[go_sem,simprocAttr,hx];done))));try simp only[go_sem,simprocAttr,hx])|with_reducible (apply And.intro))
    ·rw[hr]
    ·rw[hr]
   ·obtain⟨tD,pE,hbk⟩:=dI.next hm Gh hw0
    have hb1:decide ((x:Int)<0)=false:=ac6 (by omega)
    have hv:=qO (f:=(·.1)) Gh
    have NZ:(mN g x).length<=g.es.length:=kZ
    repeat' (first|refine Rn.p ?_|((first|refine Rs.p ?_|refine Hd.mk ?_|(refine cr (iR (eS g out) 0 Za) ?_ ?_ ?_;iterate 2 (focus(simp only[go_sem,simprocAttr,hx,hb1,hv];done))));try simp only[go_sem,simprocAttr,hx,hb1,hv])|with_reducible (apply And.intro)|omega)
    refine ag (fun j:Nat=>j<=(mN g x).length) (fun j=>⟨[(45,eN j),(44,eN (mN g x).length),(43, .d (sI (mN g x))),(3, .ref 22),(2, .ref 33),(0, .d (WD g))], [(22, .own 3 1 ((CC g out x j).map rI)),(33, .tip 3 1 ((out++ [(x:Int)]).map rI))]⟩) (fun j=>(mN g x).length - j) 0 (by simp) ?_ ?_
    ·refine Le.of ?_ ?_<;>simp[go_sem,simprocAttr,hx,hb1,hv,mN,rI]
     rw[<- Mk,aeS];rfl
    rintro j hj
    rcases adk j (mN g x).length with hlt|hge
    ·have hb2:decide ((j:Int)<((mN g x).length:Int))=true:=ac7 (by omega)
     obtain⟨i,hi,hil,hit⟩:=Pd (ad3 hlt)
     have hi1:(mN g x)[j]? =some (i:Int):=by rw[acF hlt,hi]
     have hi2:(mN g x).getD j 0=(i:Int):=by rw[aas,hi1];rfl
     have hnew:=Vi dI pE hbk hil hit
     obtain⟨_,Ph,yL⟩:=cU hm hil
     have hnext:=Ml hi1 Ph hnew
     have hw:(CC g out x j).getD (g.es.getD i (0,0)).2.toNat 0=N0 g out x j (hd g i).toNat:=by
      rw[aas,vS (by omega)];rfl
     have hbd:=Mm hm (out:=out) (x:=x) (j:=j) (y:=(hd g i).toNat)
     repeat' (first|refine Rn.p ?_|((first|refine Rs.p ?_|refine Hd.mk ?_);try simp only[go_sem,simprocAttr,hb2,hi2,hw])|with_reducible (apply And.intro)|omega)
     refine⟨j+1,by omega, ?_,by omega⟩
     refine Le.of ?_ ?_<;>simp[go_sem,simprocAttr,hb2,hi2,hw]
     rw[<- hnext,aeS];rfl
    ·have hb2:decide ((j:Int)<((mN g x).length:Int))=false:=ac6 (by omega)
     repeat' (first|refine Rn.p ?_|((first|refine Rs.p ?_|refine Hd.mk ?_);try simp only[go_sem,simprocAttr,hb2]))
     have Eh:=CZ dI tD
     refine⟨out++ [(x:Int)],⟨tD, ?_⟩, ?_,by omega⟩
     ·rw[<- hrun,Eh]
      simp only[CB,hx]
      rw[ac8 (by omega)]
     ·refine Le.of ?_ ?_<;>simp[go_sem,simprocAttr,hb2,Pe pE hge]
def qh(l:List Int)(k:Nat):List Int:=(List.range l.length).map fun p=>if p<k\/l.length - 1<p+k then l.getD (l.length - 1 - p) 0 else l.getD p 0
theorem fA{l:List Int}{k:Nat} :(qh l k).length=l.length:=by simp[qh]
theorem nU{l:List Int}{k p:Nat}(h:p<l.length):(qh l k)[p]? =some (if p<k\/l.length - 1<p+k then l.getD (l.length - 1 - p) 0 else l.getD p 0):=by
 simp[qh,adq h]
theorem A5{l:List Int}{k p:Nat}(h:p<l.length)(d:Int):(qh l k).getD p d=if p<k\/l.length - 1<p+k then l.getD (l.length - 1 - p) 0 else l.getD p 0:=by
 rw[aas,nU h];rfl
theorem IB{l:List Int} :qh l 0=l:=by
 refine adZ fun i=> ?_
 by_cases hi:i<l.length
 ·rw[nU hi,ac8 (by omega),aas,acF hi];rfl
 ·rw[adp (by rw[fA];omega),adp (by omega)]
theorem Mn{l:List Int}{k:Nat}(h:l.length<=2*k+1):qh l k=l.reverse:=by
 refine adZ fun i=> ?_
 by_cases hi:i<l.length
 ·rw[nU hi,afb hi]
  split
  ·rw[aas,acF (by omega)];rfl
  ·have:i=l.length - 1 - i:=by omega
   rw[<- this,aas,acF hi];rfl
 ·rw[adp (by rw[fA];omega),adp (by rw[aeQ];omega)]
theorem IC{l:List Int}{k:Nat}(h:k<l.length - 1 - k):((qh l k).set k ((qh l k).getD (l.length - 1 - k) 0)).set (l.length - 1 - k) ((qh l k).getD k 0)=qh l (k+1):=by
 refine adZ fun i=> ?_
 rw[aeb,adQ,fA,aeb,fA]
 by_cases hi:i<l.length
 ·rw[nU hi,nU hi,A5 (by omega),A5 (by omega)]
  by_cases h1:l.length - 1 - k=i
  ·rw[ada h1,ada (by omega),ac8 (by omega),ada (by omega)]
   congr 2;omega
  ·rw[ac8 h1]
   by_cases h2:k=i
   ·rw[ada h2,ada (by omega),ac8 (by omega),ada (by omega)]
    congr 2;omega
   ·rw[ac8 h2]
    congr 1
    by_cases h3:i<k\/l.length - 1<i+k
    ·rw[ada h3,ada (by omega)]
    ·rw[ac8 h3,ac8 (by omega)]
 ·rw[adp (by rw[fA];omega),adp (by rw[fA];omega),ac8 (by omega),ac8 (by omega)]
theorem Ei(l:List Int)(hl:l.length<=1000000):Spec Tryz.prog 82 (Args [.ref 10000]) [(10000, .part 3 1 (l.map rI))] (.tup []) [(10000, .part 3 1 (l.reverse.map rI))]:=by
 (refine T.h [] [] [] Tryz.func82 rfl rfl (by kernel_rfl) fun X hX hP hC aA bB=> ?_)
 repeat' (first|refine Rn.p ?_|((first|refine Rs.p ?_|refine Hd.mk ?_);try simp only[go_sem,simprocAttr])|with_reducible (apply And.intro)|omega)
 refine ag (fun k:Nat=>2*k<=l.length+1) (fun k=>⟨[(0, .ref 10000),(2,eN k),(3,eN ((l.length:Int) - 1 - k))], [(10000, .part 3 1 ((qh l k).map rI))]⟩) (fun k=>l.length+1 - k) 0 (by omega) ?_ ?_
 ·refine Le.of ?_ ?_<;>simp[go_sem,simprocAttr,IB]
 rintro k hk
 rcases adk (2*k+1) l.length with hlt|hge
 ·have hb:decide ((k:Int)<(l.length:Int) - 1 - (k:Int))=true:=ac7 (by omega)
  have ht:((l.length:Int) - 1 - (k:Int)).toNat=l.length - 1 - k:=by omega
  repeat' (first|refine Rn.p ?_|((first|refine Rs.p ?_|refine Hd.mk ?_);try simp only[go_sem,simprocAttr,hb,ht,fA,Vg])|with_reducible (first|apply And.intro|refine oD (by kernel_rfl) ?_)|omega)
  refine⟨k+1,by omega, ?_,by omega⟩
  refine Le.of ?_ ?_<;>simp[go_sem,simprocAttr]
  ·omega
  ·rw[<- IC (by omega),aeS,aeS]
   simp only[aas]
 ·have hb:decide ((k:Int)<(l.length:Int) - 1 - (k:Int))=false:=ac6 (by omega)
  repeat' (first|refine Rn.p ?_|((first|refine Rs.p ?_|refine Hd.mk ?_);try simp only[go_sem,simprocAttr,hb]))
  simp only[go_sem,simprocAttr,hb,Mn hge]
def pJ:List Int->Int
 | []=>0
 |a::r=>r.foldl min a
theorem Mo{l:List Int}{k:Nat}(h0:0<k)(h:k<l.length):pJ (l.take (k+1))=min (pJ (l.take k)) (l.getD k 0):=by
 cases l with
 |nil=>simp at h
 |cons a r=>
  obtain⟨k,rfl⟩:∃j,k=j+1:=⟨k - 1,by omega⟩
  simp only[List.length_cons]at h
  simp only[List.take_succ_cons,pJ,agJ]
  rw[ad2,List.foldl_append,acF (by omega),aas,acF (by omega)]
  rfl
theorem Pj{l:List Int}(h:0<l.length):pJ (l.take 1)=l.getD 0 0:=by
 cases l with
 |nil=>simp at h
 |cons a r=>simp[pJ]
theorem Pm(l:List Int)(h0:0<l.length)(hl:l.length<=1000000):Spec Tryz.prog 165 (Args [.d (sI l)]) [] (eN (pJ l)) []:=by
 (refine T.h [] [] [.t 2] Tryz.func165 rfl rfl (by kernel_rfl) fun X hX hP hC aA bB=> ?_)
 repeat' (first|refine Rn.p ?_|((first|refine Rs.p ?_|refine Hd.mk ?_);try simp only[go_sem,simprocAttr])|with_reducible (first|apply And.intro|(intro h;try simp only[go_sem,simprocAttr]at h))|omega)
 refine ag (fun k:Nat=>0<k/\k<=l.length) (fun k=>⟨[(0, .d (sI l)),(3,eN (pJ (l.take k))),(4,eN k)], []⟩) (fun k=>l.length - k) 1 (by omega) ?_ ?_
 ·refine Le.of ?_ ?_<;>simp[go_sem,simprocAttr,Pj h0]
 rintro k ⟨Ay,hk⟩
 repeat' (first|refine Rn.p ?_|((first|refine Rs.p ?_|refine Hd.mk ?_);try simp only[go_sem,simprocAttr])|with_reducible (first|apply And.intro|(intro h;try simp only[go_sem,simprocAttr]at h))|omega)
 ·refine⟨k+1,by omega, ?_,by omega⟩
  refine Le.of ?_ ?_<;>simp[go_sem,simprocAttr]
  rw[Mo Ay (by omega),aas]
 ·rw[adC (by omega)]
theorem Mp(n:Int)(h0:0<n)(hl:n<=1000000):Spec Tryz.prog 94 (Args [.nil 3,eN n]) [] (.ref 10000) [(10000, .own 3 1 [])]:=by
 (refine T.hR [] [] [.t 4] [(10000,25)] Tryz.func94 rfl rfl (by kernel_rfl) fun X hX hP hC aA bB=> ?_)
 repeat' (first|refine Rn.p ?_|((first|refine Rs.p ?_|refine Hd.mk ?_);try simp only[go_sem,simprocAttr])|with_reducible (first|apply And.intro|(intro h;try simp only[go_sem,simprocAttr]at h))|omega)
def vL(ls:List (List Int)):List (List D):=ls.map fun l=> [sI l]
theorem vL_length{ls:List (List Int)} :(vL ls).length=ls.length:=by simp[vL]
theorem Ej{ls:List (List Int)}{k:Nat}(h:k<ls.length)(d:List D):(vL ls).getD k d= [sI (ls.getD k [])]:=by
 simp[vL,aas,acF h]
attribute [go_sem] vL_length
theorem C0{ls:List (List Int)}{k:Nat}(h:k<ls.length):(ls.take (k+1)).flatten=(ls.take k).flatten++ls.getD k []:=by
 rw[ad2,af0,acF h,aas,acF h]
 simp
theorem zP{ls:List (List Int)}{k:Nat} :(ls.take k).flatten.length<=ls.flatten.length:=by
 have:=congrArg (fun x=>x.flatten.length) (afG k ls)
 simp only[af0,adj]at this
 omega
theorem yS(ls:List (List Int))(hn:ls.length<=1000)(h0:0<ls.flatten.length)(hl:ls.flatten.length<=1000000):Spec Tryz.prog 45 (Args [.d (.sl 1 (vL ls))]) [] (.d (sI ls.flatten)) []:=by
 (refine T.h [] [] [.t 2] Tryz.func45 rfl rfl (by kernel_rfl) fun X hX hP hC aA bB=> ?_)
 repeat' (first|refine Rn.p ?_|((first|refine Rs.p ?_|refine Hd.mk ?_);try simp only[go_sem,simprocAttr]))
 refine ag (fun k:Nat=>k<=ls.length) (fun k=>⟨[(0, .d (.sl 1 (vL ls))),(9, .d (.sl 1 (vL ls))),(10,eN ls.length),(11,eN k),(3,eN ((ls.take k).flatten.length))], []⟩) (fun k=>ls.length - k) 0 (by omega) ?_ ?_
 ·(refine Le.of ?_ ?_<;>simp[go_sem,simprocAttr])
 ·rintro k hk
  rcases adk k ls.length with hlt|hge
  ·have hb:decide ((k:Int)<(ls.length:Int))=true:=ac7 (by omega)
   have hv:=Ej hlt
   have hf:=C0 hlt
   have Zb:=zP (ls:=ls) (k:=k)
   have Pn:=zP (ls:=ls) (k:=k+1)
   rw[hf,adj]at Pn
   have hneg:decide (((ls.take k).flatten.length:Int)+((ls.getD k []).length:Int)<0)=false:=ac6 (by omega)
   repeat' (first|refine Rn.p ?_|((first|refine Rs.p ?_|refine Hd.mk ?_);try simp only[go_sem,simprocAttr,hb,hv,hneg])|with_reducible (apply And.intro)|omega)
   refine⟨k+1,by omega, ?_,by omega⟩
   simp only[hf]
   refine Le.of ?_ ?_<;>simp[go_sem,simprocAttr,hb,hv,hneg]
  ·have hb:decide ((k:Int)<(ls.length:Int))=false:=ac6 (by omega)
   have ht:ls.take k=ls:=adC (by omega)
   repeat' (first|refine Rn.p ?_|((first|refine Rs.p ?_|refine Hd.mk ?_|(refine aS [(10000,33)] (Mp (ls.flatten.length:Int) (by omega) (by omega)) ?_ ?_;(focus(simp[go_sem,simprocAttr,hb,ht];done))));try simp only[go_sem,simprocAttr,hb,ht]))
   refine ag (fun k:Nat=>k<=ls.length) (fun k=>⟨[(25, .d (.sl 1 (vL ls))),(26,eN ls.length),(27,eN k),(6, .ref 33)], [(33, .own 3 1 ((ls.take k).flatten.map rI))]⟩) (fun k=>ls.length - k) 0 (by omega) ?_ ?_
   ·(refine Le.of ?_ ?_<;>simp[go_sem,simprocAttr,hb,ht])
   ·clear hb ht hk hge
    rintro k hk
    rcases adk k ls.length with hlt|hge
    ·have hb:decide ((k:Int)<(ls.length:Int))=true:=ac7 (by omega)
     have hv:=Ej hlt
     have hf:=C0 hlt
     have Zb:=zP (ls:=ls) (k:=k)
     have Pn:=zP (ls:=ls) (k:=k+1)
     rw[hf,adj]at Pn
     repeat' (first|refine Rn.p ?_|((first|refine Rs.p ?_|refine Hd.mk ?_);try simp only[go_sem,simprocAttr,hb,hv])|with_reducible (apply And.intro)|omega)
     refine⟨k+1,by omega, ?_,by omega⟩
     simp only[hf]
     refine Le.of ?_ ?_<;>simp[go_sem,simprocAttr,hb,hv]
    ·have hb:decide ((k:Int)<(ls.length:Int))=false:=ac6 (by omega)
     have ht:ls.take k=ls:=adC (by omega)
     repeat' (first|refine Rn.p ?_|((first|refine Rs.p ?_|refine Hd.mk ?_);try simp only[go_sem,simprocAttr,hb,ht]))
def lW(ls:List (List Int))(k:Nat):List Int:=((List.range k).filter fun x=>decide ((ls.getD x []).length=0)).map Int.ofNat
theorem uG{ls:List (List Int)}{k:Nat} :lW ls (k+1)=lW ls k++if(ls.getD k []).length=0 then [(k:Int)] else []:=by
 simp only[lW,adW,ad9,adt,aeE,List.filter_nil]
 split<;>simp_all
theorem C1{ls:List (List Int)}{k:Nat} :(lW ls k).length<=k:=by
 simpa[lW]using aeI (fun x=>decide ((ls.getD x []).length=0)) (List.range k)
theorem C2(ls:List (List Int))(hn:ls.length<=1000):Spec Tryz.prog 93 (Args [.d (.sl 1 (vL ls))]) [] (.d (sI (lW ls ls.length))) []:=by
 (refine T.h [] [] [.t 2] Tryz.func93 rfl rfl (by kernel_rfl) fun X hX hP hC aA bB=> ?_)
 repeat' (first|refine Rn.p ?_|((first|refine Rs.p ?_|refine Hd.mk ?_);try simp only[go_sem,simprocAttr]))
 (refine dQ hX 2 18 (.tip 3 1 []) (by simp only[go_sem,simprocAttr]) (by simp only[go_sem,simprocAttr]) (by decide) ⟨3,1,by decide, .inr rfl⟩ ?_;simp only[go_sem,simprocAttr])
 refine ag (fun k:Nat=>k<=ls.length) (fun k=>⟨[(5, .d (.sl 1 (vL ls))),(6,eN ls.length),(7,eN k),(2, .ref 18)], [(18, .tip 3 1 ((lW ls k).map rI))]⟩) (fun k=>ls.length - k) 0 (by omega) ?_ ?_
 ·refine Le.of ?_ ?_<;>simp[go_sem,simprocAttr,lW]
 ·rintro k hk
  rcases adk k ls.length with hlt|hge
  ·have hb:decide ((k:Int)<(ls.length:Int))=true:=ac7 (by omega)
   have hv:=Ej hlt
   have hlen:=C1 (ls:=ls) (k:=k)
   repeat' (first|refine Rn.p ?_|((first|refine Rs.p ?_|refine Hd.mk ?_);try simp only[go_sem,simprocAttr,hb,hv])|with_reducible (first|apply And.intro|(intro h;try simp only[go_sem,simprocAttr,hb,hv]at h))|omega)
   ·refine⟨k+1,by omega, ?_,by omega⟩
    rw[uG,ada (by omega)]
    refine Le.of ?_ ?_<;>simp[go_sem,simprocAttr,hb,hv]
    rfl
   ·refine⟨k+1,by omega, ?_,by omega⟩
    rw[uG,ac8 (by omega),ad5]
    refine Le.of ?_ ?_<;>simp[go_sem,simprocAttr,hb,hv]
  ·have hb:decide ((k:Int)<(ls.length:Int))=false:=ac6 (by omega)
   obtain rfl:k=ls.length:=by omega
   repeat' (first|refine Rn.p ?_|((first|refine Rs.p ?_|refine Hd.mk ?_);try simp only[go_sem,simprocAttr,hb]))
theorem Po{f:Edge->Int}{g:Gr} :RQ f g=vL (eR f g):=rfl
theorem kO{f:Edge->Int}{g:Gr} :(eR f g).length=g.n.toNat:=by simp[eR]
def bZ(f:Edge->Int)(g:Gr):List Int:=lW (eR f g) g.n.toNat
theorem Ek(g:Gr)(hm:aM g=true):Spec Tryz.prog 41 (Args [.d (vw g)]) [] (.d (sI (bZ (·.2) g))) []:=by
 rw[cm]
 have hn:=aB hm
 have hle:(eR (·.2) g).length<=1000:=by rw[kO];omega
 (refine T.h [] [] [.t 2] Tryz.func41 rfl rfl (by kernel_rfl) fun X hX hP hC aA bB=> ?_)
 repeat' (first|refine Rn.p ?_|((first|refine Rs.p ?_|refine Hd.mk ?_|(rw[Po];refine aa (C2 (eR (·.2) g) hle) rfl ?_));try simp only[go_sem,simprocAttr]))
 rw[kO];rfl
theorem ID(g:Gr)(hm:aM g=true):Spec Tryz.prog 42 (Args [.d (vw g)]) [] (.d (sI (bZ (·.1) g))) []:=by
 rw[cm]
 have hn:=aB hm
 have hle:(eR (·.1) g).length<=1000:=by rw[kO];omega
 (refine T.h [] [] [.t 2] Tryz.func42 rfl rfl (by kernel_rfl) fun X hX hP hC aA bB=> ?_)
 repeat' (first|refine Rn.p ?_|((first|refine Rs.p ?_|refine Hd.mk ?_|(rw[Po];refine aa (C2 (eR (·.1) g) hle) rfl ?_));try simp only[go_sem,simprocAttr]))
 rw[kO];rfl
def iS(g:Gr)(ws:List Int)(b:Int)(e:Int):Int:=if 0<ws.getD (tl g e.toNat).toNat 0/\(b<0\/tl g e.toNat<b) then tl g e.toNat else b
theorem Pp(g:Gr)(ws:List Int)(b:Int)(i:Nat):iS g ws b (i:Int)=if 0<ws.getD (g.es.getD i (0,0)).1.toNat 0/\(b<0\/(g.es.getD i (0,0)).1<b) then(g.es.getD i (0,0)).1 else b:=rfl
def C3(g:Gr)(ws:List Int)(es:List Int):Int:=es.foldl (iS g ws) (-1)
def mU(g:Gr)(ws:List Int)(at_:Int):Int:=C3 g ws (qx g at_.toNat)
def pK(g:Gr)(ws:List Int):Nat->List Int->Int->List Int × Int
 |0,way,at_=>(way,at_)
 |f+1,way,at_=>if at_<0\/at_∈way then(way,at_) else pK g ws f (way++ [at_]) (mU g ws at_)
def nV(g:Gr):List Int × Int:=pK g (eS g (aZ g)) g.n.toNat [] (bT (fun n=>decide (0<n)) (eS g (aZ g)))
def qi(l:List Int):List Int:=l.drop (jg l (pJ l)).toNat++l.take (jg l (pJ l)).toNat
def nW(g:Gr):List Int:=if(nV g).2<0 then [] else qi ((nV g).1.drop (jg (nV g).1 (nV g).2).toNat).reverse
theorem Mq(n:Int):Spec Tryz.prog 163 (Args [eN n]) [] (eB (decide (0<n))) []:=by
 (refine T.h [] [] [.t 2] Tryz.func163 rfl rfl (by kernel_rfl) fun X hX hP hC aA bB=> ?_)
 repeat' (first|refine Rn.p ?_|((first|refine Rs.p ?_|refine Hd.mk ?_);try simp only[go_sem,simprocAttr]))
structure Way (g:Gr) (way:List Int):Prop where
 lo:∀x∈way,0<=x/\x<g.n
 fuel:way.length+left g way=g.n.toNat
theorem vU{g:Gr} :left g []=g.n.toNat:=by
 have:=(gP.nil g).fuel
 rw[List.length_nil,adU]at this
 exact this
theorem lX{g:Gr}{way:List Int}{a:Nat}(ha:a<g.n.toNat)(hn:(a:Int)∉way):left g way=left g (way++ [(a:Int)])+1:=by
 unfold left
 rw[<- qN (p:=fun y:Nat=> !decide ((y:Int)∈way)) (x:=a) (by simp[hn]) ha]
 congr 1
 refine afj fun y _=> ?_
 simp;omega
theorem Way.nil(g:Gr):Way g []:=⟨by simp,by rw[vU];simp⟩
theorem Way.next{g:Gr}{way:List Int}{a:Nat}(h:Way g way)(ha:a<g.n.toNat)(hn:(a:Int)∉way):Way g (way++ [(a:Int)]):=by
 refine⟨fun x hx=> ?_, ?_⟩
 ·rcases ac9.1 hx with hx|hx
  ·exact h.lo x hx
  ·simp at hx;omega
 ·have h1:=h.fuel
  have h2:=lX ha hn
  rw[adj,List.length_singleton];omega
theorem El{g:Gr}{x:Nat}{e:Int}(h:e∈qx g x):∃i:Nat,e=i/\i<g.es.length/\hd g i=x:=by
 simp only[qx,gU,adb,adJ,adl,ade]at h
 obtain⟨i,⟨h1,h2⟩,rfl⟩:=h
 exact⟨i,rfl,h1,h2⟩
theorem Mr{α β:Type}{f:β->α->β}{b:β}{l:List α}{j:Nat}{x:α}(h:l[j]? =some x):(l.take (j+1)).foldl f b=f ((l.take j).foldl f b) x:=by
 rw[ad2,List.foldl_append,h];rfl
theorem yT{g:Gr}(hm:aM g=true)(ws:List Int):∀(l:List Int) (b:Int),(b= -1\/(0<=b/\b<g.n))->(∀e∈l,∃i:Nat,e=i/\i<g.es.length)->l.foldl (iS g ws) b= -1\/(0<=l.foldl (iS g ws) b/\l.foldl (iS g ws) b<g.n)
 | [],b,hb,_=>hb
 |e::l,b,hb,h=>by
  refine yT hm ws l _ ?_ fun e he=>h e (adA _ he)
  obtain⟨i,rfl,hi⟩:=h e adI
  obtain⟨⟨h1,h2⟩,_⟩:=cU hm hi
  unfold iS
  split
  ·exact .inr ⟨h1,h2⟩
  ·exact hb
theorem Pq{g:Gr}{x:Nat} :∀e∈qx g x,∃i:Nat,e=i/\i<g.es.length:=fun e he=>by
 obtain⟨i,h1,h2,_⟩:=El he;exact⟨i,h1,h2⟩
theorem nZ{g:Gr}{ws way:List Int}{a:Int}(h:a<0\/a∈way):∀f,pK g ws f way a=(way,a)
 |0=>rfl
 |f+1=>by simp only[pK];rw[ada h]
theorem fS{l:List Int}{x:Int}(h:x∈l):∃k:Nat,jg l x=k/\k<l.length/\l.getD k 0=x:=by
 rcases jK (f:=fun y:Int=>decide (x=y)) (l:=l) 0 with ⟨h1,h2⟩|⟨k,h1,h2,h3,_⟩
 ·exact absurd (h2 x h) (by simp)
 ·exact⟨k,h1,h2,(ael h3).symm⟩
theorem lZ:∀ {l:List Int},0<l.length->pJ l∈l
 |a::r,_=>by
  have:∀(r:List Int) (a:Int),r.foldl min a=a\/r.foldl min a∈r:=by
   intro r
   induction r with
   |nil=>intro a;exact .inl rfl
   |cons b r ih=>
    intro a
    simp only[List.foldl_cons]
    rcases ih (min a b) with h|h
    ·by_cases hab:a<=b
     ·left;rw[h];omega
     ·right;rw[h];simp;omega
    ·right;simp[h]
  rcases this r a with h|h
  ·simp[pJ,h]
  ·simp[pJ,h]
theorem IE(g:Gr)(hm:aM g=true):Spec Tryz.prog 114 (Args [.d (vw g)]) [] (.d (sI (nW g))) []:=by
 have hn:=aB hm
 have Za:(eS g (aZ g)).length<=9223372036854775807:=by rw[wts_length];omega
 (refine T.h [30] [] [.t 2] Tryz.func114 rfl rfl (by kernel_rfl) fun X hX hP hC aA bB=> ?_)
 repeat' (first|refine Rn.p ?_|((first|refine Rs.p ?_|refine Hd.mk ?_|refine aa (Pg g hm) rfl ?_|refine aa (zx cC.nil _ [] _ Mq (eS g (aZ g)) Za) rfl ?_);try simp only[go_sem,simprocAttr]))
 (refine dQ hX 6 30 (.own 3 1 []) (by simp only[go_sem,simprocAttr]) (by simp only[go_sem,simprocAttr]) (by decide) ⟨3,1,by decide, .inl rfl⟩ ?_;simp only[go_sem,simprocAttr])
 refine ag (fun i:List Int × Int=>Way g i.1/\(i.2= -1\/(0<=i.2/\i.2<g.n))/\pK g (eS g (aZ g)) (left g i.1) i.1 i.2=nV g) (fun i=>⟨[(0, .d (vw g)),(4, .d (sI (eS g (aZ g)))),(5,eN i.2),(6, .ref 30)], [(30, .own 3 1 (i.1.map rI))]⟩) (fun i=>left g i.1) ([],bT (fun n=>decide (0<n)) (eS g (aZ g))) ⟨Way.nil g, ?_, ?_⟩ ?_ ?_
 ·rcases Gc (fun n:Int=>decide (0<n)) (eS g (aZ g)) with h|h
  ·exact .inl h
  ·rw[wts_length]at h;exact .inr (by simp only;omega)
 ·rw[vU];rfl
 ·(refine Le.of ?_ ?_<;>simp[go_sem,simprocAttr])
 rintro⟨way,at_⟩ ⟨Gk,qy,hrun⟩
 simp only at Gk qy hrun ⊢
 have hwl:way.length<=64:=by have:=Gk.fuel;omega
 have C4:way.length<=9223372036854775807:=by omega
 by_cases h0:at_<0
 ·have hb1:decide (0<=at_)=false:=ac6 (by omega)
  have hb3:decide (at_<0)=true:=ac7 h0
  have he:nW g= []:=by
   have:=nZ (g:=g) (ws:=eS g (aZ g)) (way:=way) (.inl h0) (left g way)
   rw[hrun]at this
   simp only[nW,this];rw[ada h0]
  repeat' (first|refine Rn.p ?_|((first|refine Rs.p ?_|refine Hd.mk ?_);try simp only[go_sem,simprocAttr,hb1,hb3]))
  rw[he];rfl
 obtain⟨a,rfl⟩:∃a:Nat,at_=a:=⟨at_.toNat,by omega⟩
 have Sl:a<g.n.toNat:=by omega
 have hb1:decide (0<=(a:Int))=true:=ac7 (by omega)
 by_cases hmem:(a:Int)∈way
 ·have hb2:decide ((a:Int)∈way)=true:=ac7 hmem
  have hb3:decide ((a:Int)<0)=false:=ac6 h0
  have hend:=nZ (g:=g) (ws:=eS g (aZ g)) (.inr hmem) (left g way)
  rw[hrun]at hend
  obtain⟨k,hk,cM,_⟩:=fS hmem
  obtain⟨rev,tU⟩:∃rev,rev=(way.drop k).reverse:=⟨_,rfl⟩
  have hrl:rev.length=way.length - k:=by rw[tU];simp
  have Ub:0<rev.length:=by omega
  have hrev:rev.length<=1000000:=by omega
  have XT:rev.length<=9223372036854775807:=by omega
  have hlr:(way.drop k).length<=1000000:=by simp;omega
  obtain⟨k2,hk2,acD,_⟩:=fS (lZ Ub)
  have hc1: [rev.drop k2,rev.take k2].length<=1000:=by simp
  have Pr:0< [rev.drop k2,rev.take k2].flatten.length:=by simp;omega
  have WE: [rev.drop k2,rev.take k2].flatten.length<=1000000:=by simp;omega
  have Vj:nW g= [rev.drop k2,rev.take k2].flatten:=by
   simp only[nW,hend]
   rw[ac8 h0,hk]
   simp only[Int.toNat_natCast, <- tU,qi,hk2,List.flatten_cons,List.flatten_nil,ad5]
  repeat' (first|(show cR _ (.seq (.region 20 _ _) _) _ _;(refine pG hX 75 rfl (.inr rfl) ?_;simp only[go_sem,simprocAttr,hb1,hb2,hb3,hk,hk2, <- List.map_take, <- List.map_drop,aef, <- tU,vL]))|refine Rn.p ?_|((first|refine Rs.p ?_|refine Hd.mk ?_|(refine cr (dm way a C4) ?_ ?_ ?_;iterate 2 (focus(simp only[go_sem,simprocAttr,hb1,hb2,hb3,hk,hk2, <- List.map_take, <- List.map_drop,aef, <- tU,vL];done)))|(refine cr (iR way a C4) ?_ ?_ ?_;iterate 2 (focus(simp only[go_sem,simprocAttr,hb1,hb2,hb3,hk,hk2, <- List.map_take, <- List.map_drop,aef, <- tU,vL];done)))|(refine aS [(10000,75)] (Ei (way.drop k) hlr) ?_ ?_;(focus(simp[go_sem,simprocAttr,hb1,hb2,hb3,hk,hk2, <- List.map_take, <- List.map_drop,aef, <- tU,vL];done)))|(refine cr (Pm rev Ub hrev) ?_ ?_ ?_;iterate 2 (focus(simp only[go_sem,simprocAttr,hb1,hb2,hb3,hk,hk2, <- List.map_take, <- List.map_drop,aef, <- tU,vL];done)))|(refine cr (iR rev (pJ rev) XT) ?_ ?_ ?_;iterate 2 (focus(simp only[go_sem,simprocAttr,hb1,hb2,hb3,hk,hk2, <- List.map_take, <- List.map_drop,aef, <- tU,vL];done)))|(refine dN (yS [rev.drop k2,rev.take k2] hc1 Pr WE) ?_ rfl ?_;(focus(simp only[go_sem,simprocAttr,hb1,hb2,hb3,hk,hk2, <- List.map_take, <- List.map_drop,aef, <- tU,vL];done))));try simp only[go_sem,simprocAttr,hb1,hb2,hb3,hk,hk2, <- List.map_take, <- List.map_drop,aef, <- tU,vL])|with_reducible (first|apply And.intro|refine oD (by kernel_rfl) ?_)|omega)
  rw[Vj]
 ·have hb2:decide ((a:Int)∈way)=false:=ac6 hmem
  have hv:=qO (f:=(·.2)) Sl
  have NZ:(qx g a).length<=g.es.length:=kZ
  repeat' (first|refine Rn.p ?_|((first|refine Rs.p ?_|refine Hd.mk ?_|(refine cr (dm way a C4) ?_ ?_ ?_;iterate 2 (focus(simp only[go_sem,simprocAttr,hb1,hb2,hv,cm];done))));try simp only[go_sem,simprocAttr,hb1,hb2,hv,cm])|with_reducible (apply And.intro)|omega)
  refine ag (fun j:Nat=>j<=(qx g a).length) (fun j=>⟨[(39,eN j),(38,eN (qx g a).length),(37, .d (sI (qx g a))),(7,eN (C3 g (eS g (aZ g)) ((qx g a).take j))),(0, .d (WD g)),(4, .d (sI (eS g (aZ g)))),(6, .ref 30)], [(30, .own 3 1 ((way++ [(a:Int)]).map rI))]⟩) (fun j=>(qx g a).length - j) 0 (by simp) ?_ ?_
  ·refine Le.of ?_ ?_<;>simp[go_sem,simprocAttr,hb1,hb2,hv,cm,qx,rI,C3]
  rintro j hj
  rcases adk j (qx g a).length with hlt|hge
  ·have hb4:decide ((j:Int)<((qx g a).length:Int))=true:=ac7 (by omega)
   obtain⟨i,hi,hil,hit⟩:=El (ad3 hlt)
   have hi1:(qx g a)[j]? =some (i:Int):=by rw[acF hlt,hi]
   have hi2:(qx g a).getD j 0=(i:Int):=by rw[aas,hi1];rfl
   obtain⟨⟨Ph,yL⟩,_⟩:=cU hm hil
   have hstep:C3 g (eS g (aZ g)) ((qx g a).take (j+1))=iS g (eS g (aZ g)) (C3 g (eS g (aZ g)) ((qx g a).take j)) i:=Mr hi1
   rw[Pp]at hstep
   repeat' (first|refine Rn.p ?_|((first|refine Rs.p ?_|refine Hd.mk ?_);try simp only[go_sem,simprocAttr,hb4,hi2,wts_length])|with_reducible (first|apply And.intro|(intro h;try simp only[go_sem,simprocAttr,hb4,hi2,wts_length]at h))|omega)
   all_goals(refine⟨j+1,by omega, ?_,by omega⟩;first|rw[ada (by omega)]at hstep|rw[ac8 (by omega)]at hstep)
   all_goals(refine Le.of ?_ ?_<;>simp[go_sem,simprocAttr,hb4,hi2,wts_length,hstep])
  ·have hb4:decide ((j:Int)<((qx g a).length:Int))=false:=ac6 (by omega)
   have ht:(qx g a).take j=qx g a:=adC (by omega)
   repeat' (first|refine Rn.p ?_|((first|refine Rs.p ?_|refine Hd.mk ?_);try simp only[go_sem,simprocAttr,hb4,ht]))
   refine⟨(way++ [(a:Int)],mU g (eS g (aZ g)) a),⟨Gk.next Sl hmem,yT hm _ _ _ (.inl rfl) Pq, ?_⟩, ?_, ?_⟩
   ·simp only
    rw[<- hrun,lX Sl hmem]
    simp only[pK]
    rw[ac8 (by intro h;rcases h with h|h;omega;exact hmem h)]
   ·refine Le.of ?_ ?_<;>simp[go_sem,simprocAttr,hb4,ht,mU]
   ·have:=lX Sl hmem;simp only;omega
def eF(f:Int × Int × List Int):AV:= .agg [eN f.1,eN f.2.1, .d (sI f.2.2)]
attribute [go_sem] eF
def l7(g:Gr):Int:=bT (fun e:Edge=>decide (e.1=e.2)) g.es
def uH(g:Gr)(i:Nat):Bool:=decide (g.es.getD i (0,0)∈g.es.take i)
def fC(g:Gr):Int:=bT (uH g) (List.range g.es.length)
def iT(g:Gr)(cyc bare:List Int):Int × Int × List Int:=
 if aM g=false then(1,0, []) else
 if 0<=l7 g then(13,l7 g, []) else
 if 0<=fC g then(14,fC g, []) else
 if 0<cyc.length then(15,0,cyc) else
 if 1<bare.length then(16,0,bare.take 2) else(0,0, [])
def bX(g:Gr):Int × Int × List Int:=iT g (nW g) (bZ (·.2) g)
theorem C5(e:Edge):Spec Tryz.prog 112 (Args [eE e]) [] (eB (decide (e.1=e.2))) []:=by
 (refine T.h [] [] [.t 2] Tryz.func112 rfl rfl (by kernel_rfl) fun X hX hP hC aA bB=> ?_)
 repeat' (first|refine Rn.p ?_|((first|refine Rs.p ?_|refine Hd.mk ?_);try simp only[go_sem,simprocAttr]))
theorem dB{n k:Nat}(h:k<n)(d:Nat):(List.range n).getD k d=k:=by
 simp[aas,adq h]
theorem iE(g:Gr)(hl:g.es.length<=1000):Spec Tryz.prog 65 (Args [eG g]) [] (eF (bX g)) []:=by
 have hl:g.es.length<=9223372036854775807:=by omega
 (refine T.h [] [] [.c 2 64] Tryz.func65 rfl rfl (by kernel_rfl) fun X hX hP hC aA bB=> ?_)
 cases hm:aM g with
 |false=>
  repeat' (first|refine Rn.p ?_|((first|refine Rs.p ?_|refine Hd.mk ?_|refine aa (qJ g hl) rfl ?_);try simp only[go_sem,simprocAttr,hm])|with_reducible (apply And.intro))
  all_goals simp[bX,iT,hm]
 |true=>
 have hn:=aB hm
 by_cases hlo:0<=l7 g
 ·have hb1:decide (0<=bT (fun p:Edge=>decide (p.1=p.2)) g.es)=true:=ac7 hlo
  repeat' (first|refine Rn.p ?_|((first|refine Rs.p ?_|refine Hd.mk ?_|refine aa (qJ g hl) rfl ?_|refine aa (iy cC.nil _ [] _ C5 g.es hl) rfl ?_);try simp only[go_sem,simprocAttr,hm,hb1])|with_reducible (apply And.intro))
  all_goals(
   have hc:bX g=(13,l7 g, []):=by
    simp only[bX,iT];rw[ac8 (by simp[hm]),ada hlo]
   rw[hc]<;>rfl)
 have hb1:decide (0<=bT (fun p:Edge=>decide (p.1=p.2)) g.es)=false:=ac6 hlo
 repeat' (first|refine Rn.p ?_|((first|refine Rs.p ?_|refine Hd.mk ?_|refine aa (qJ g hl) rfl ?_|refine aa (iy cC.nil _ [] _ C5 g.es hl) rfl ?_);try simp only[go_sem,simprocAttr,hm,hb1]))
 refine ag (fun k:Nat=>k<=g.es.length/\∀j,j<k->uH g j=false) (fun k=>⟨[(23,eN k),(22,eN g.es.length),(21, .d (sE g.es)),(1, .ptr 1 0),(2, .ptr 2 0)], [(1, .box [eN g.n, .d (sE g.es)]),(2, .box [eN 0,eN 0, .nil 3])]⟩) (fun k=>g.es.length - k) 0 (by simp) ?_ ?_
 ·(refine Le.of ?_ ?_<;>simp[go_sem,simprocAttr,hm,hb1])
 rintro k ⟨hk,Pu⟩
 rcases adk k g.es.length with hlt|hge
 ·have hb2:decide ((k:Int)<(g.es.length:Int))=true:=ac7 (by omega)
  have hlk:(g.es.take k).length<=9223372036854775807:=by rw[adH];omega
  repeat' (first|refine Rn.p ?_|((first|refine Rs.p ?_|refine Hd.mk ?_|refine aa (AZ (g.es.take k) (g.es.getD k (0,0)) hlk) rfl ?_);try simp only[go_sem,simprocAttr,hm,hb1,hb2, <- List.map_take])|with_reducible (first|apply And.intro|refine oD (by kernel_rfl) ?_|(intro h;try simp only[go_sem,simprocAttr,hm,hb1,hb2, <- List.map_take]at h))|omega)
  any_goals (
   have htI:fC g=(k:Int):=b9 (d:=0) (by simpa using hlt) (fun j hj=>by rw[dB (by omega)];exact Pu j hj) (by rw[dB hlt];exact ac7 h)
   have hc:bX g=(14,fC g, []):=by
    simp only[bX,iT];rw[ac8 (by simp[hm]),ac8 hlo,ada (by omega)]
   rw[hc]<;>first|rfl|exact htI.symm)
  refine⟨k+1,⟨by omega,fun j hj=> ?_⟩, ?_,by omega⟩
  ·by_cases hjk:j=k
   ·subst hjk;exact ac6 h
   ·exact Pu j (by omega)
  ·(refine Le.of ?_ ?_<;>simp[go_sem,simprocAttr,hm,hb1,hb2, <- List.map_take])
 ·have hb2:decide ((k:Int)<(g.es.length:Int))=false:=ac6 (by omega)
  have Pv:¬0<=fC g:=by
   have:fC g= -1:=bL 0 fun j hj=>by
    rw[ae3]at hj
    rw[dB hj];exact Pu j (by omega)
   omega
  repeat' (first|refine Rn.p ?_|((first|refine Rs.p ?_|refine Hd.mk ?_|refine aa (sx g hm) rfl ?_|refine aa (IE g hm) rfl ?_|refine aa (Ek g hm) rfl ?_);try simp only[go_sem,simprocAttr,hm,hb1,hb2])|with_reducible (first|apply And.intro|(intro h;try simp only[go_sem,simprocAttr,hm,hb1,hb2]at h))|omega)
  all_goals(
   have hc:bX g=if 0<(nW g).length then(15,0,nW g) else if 1<(bZ (·.2) g).length then(16,0,(bZ (·.2) g).take 2) else(0,0, []):=by
    simp only[bX,iT];rw[ac8 (by simp[hm]),ac8 hlo,ac8 Pv]
   first|rw[ada (by omega)]at hc|(rw[ac8 (by omega)]at hc;first|rw[ada (by omega)]at hc|rw[ac8 (by omega)]at hc)
   rw[hc]<;>first|rfl|simp only[aew])
theorem Gl(ps:List Int)(x:Int)(hl:ps.length<=9223372036854775807):
 Spec Tryz.prog 196 (Args [.d (sI ps),eN x]) [] (eN (jg ps x)) []:=by
 (refine T.h [] [] [.t 4] Tryz.func196 rfl rfl (by kernel_rfl) fun X hX hP hC aA bB=> ?_)
 repeat' (first|refine Rn.p ?_|((first|refine Rs.p ?_|refine Hd.mk ?_);try simp only[go_sem,simprocAttr]))
 refine ag (fun k:Nat=>k<=ps.length/\∀j,j<k->decide (x=ps.getD j 0)=false) (fun k=>⟨[(0, .d (sI ps)),(1,eN x),(5,eN k)], []⟩) (fun k=>ps.length - k) 0 (by simp) ?_ ?_
 ·(refine⟨bS ?_,fun _ _ h=>h⟩;simp[go_sem,simprocAttr])
 rintro k ⟨hk,hg⟩
 repeat' (first|refine Rn.p ?_|((first|refine Rs.p ?_|refine Hd.mk ?_);try simp only[go_sem,simprocAttr])|with_reducible (first|apply And.intro|(intro h;try simp only[go_sem,simprocAttr]at h))|omega)
 ·exact(b9 (by omega) hg (by simpa using h.symm)).symm
 ·refine⟨k+1,⟨by omega,fun j hj=> ?_⟩, ?_,by omega⟩
  ·by_cases hjk:j=k
   ·subst hjk;exact fun e=>h (Eq.symm e)
   ·simpa using hg j (by omega)
  ·(refine⟨bS ?_,fun _ _ h=>h⟩;simp[go_sem,simprocAttr])
 ·exact(bL 0 fun j hj=>hg j (by omega)).symm
def aJ(f:Edge->Int)(es:List Edge)(k:Nat)(x:Int):List Int:=((List.range k).filter fun i=>decide (f (es.getD i (0,0))=x)).map Int.ofNat
theorem oe(f:Edge->Int)(es:List Edge)(k x:Nat):gU f es k x=aJ f es k (x:Int):=rfl
theorem iU{f:Edge->Int}{es:List Edge}{k:Nat}{x:Int} :(aJ f es k x).length<=k:=by
 simpa[aJ]using aeI (fun i=>decide (f (es.getD i (0,0))=x)) (List.range k)
theorem A6{f:Edge->Int}{es:List Edge}{k:Nat}{x:Int} :aJ f es (k+1) x=aJ f es k x++if f (es.getD k (0,0))=x then [(k:Int)] else []:=by
 simp only[aJ,adW,ad9,adt,aeE,List.filter_nil]
 split<;>simp_all
def tF(b:Bool)(e:Edge):Int:=if b then e.1 else e.2
theorem Ms(g:Gr)(x:Int)(b:Bool)(hl:g.es.length<=1000):Spec Tryz.prog 55 (Args [eG g,eN x,eB b]) [] (.d (sI (aJ (tF b) g.es g.es.length x))) []:=by
 (refine T.h [] [] [.t 6] Tryz.func55 rfl rfl (by kernel_rfl) fun X hX hP hC aA bB=> ?_)
 repeat' (first|refine Rn.p ?_|((first|refine Rs.p ?_|refine Hd.mk ?_);try simp only[go_sem,simprocAttr]))
 (refine uC hX 7 9 45 (by simp only[go_sem,simprocAttr]) rfl (by first|exact .inl rfl|exact .inr rfl) (by decide) ?_;simp only[go_sem,simprocAttr])
 refine ag (fun k:Nat=>k<=g.es.length) (fun k=>⟨[(1,eN x),(2,eB b),(3, .ptr 3 0),(8,eN k),(7, .ref 45)], [(3, .box [eN g.n, .d (sE g.es)]),(45, .tip 3 1 ((aJ (tF b) g.es k x).map rI))]⟩) (fun k=>g.es.length - k) 0 (by simp) ?_ ?_
 ·refine Le.of ?_ ?_<;>simp[go_sem,simprocAttr,aJ]
 rintro k hk
 rcases adk k g.es.length with hlt|hge
 ·have hb:decide ((k:Int)<(g.es.length:Int))=true:=ac7 (by omega)
  have iF:=iU (f:=tF b) (es:=g.es) (k:=k) (x:=x)
  cases b
  ·have dw:aJ (tF false) g.es (k+1) x=aJ (tF false) g.es k x++if(g.es.getD k (0,0)).2=x then [(k:Int)] else []:=A6
   repeat' (first|refine Rn.p ?_|((first|refine Rs.p ?_|refine Hd.mk ?_);try simp only[go_sem,simprocAttr,hb])|with_reducible (first|apply And.intro|(intro h;try simp only[go_sem,simprocAttr,hb]at h))|omega)
   all_goals(first|rw[ada (by assumption)]at dw|rw[ac8 (by assumption),ad5]at dw)
   all_goals(refine⟨k+1,by omega, ?_,by omega⟩;refine Le.of ?_ ?_<;>simp[go_sem,simprocAttr,hb,dw,rI])
  ·have dw:aJ (tF true) g.es (k+1) x=aJ (tF true) g.es k x++if(g.es.getD k (0,0)).1=x then [(k:Int)] else []:=A6
   repeat' (first|refine Rn.p ?_|((first|refine Rs.p ?_|refine Hd.mk ?_);try simp only[go_sem,simprocAttr,hb])|with_reducible (first|apply And.intro|(intro h;try simp only[go_sem,simprocAttr,hb]at h))|omega)
   all_goals(first|rw[ada (by assumption)]at dw|rw[ac8 (by assumption),ad5]at dw)
   all_goals(refine⟨k+1,by omega, ?_,by omega⟩;refine Le.of ?_ ?_<;>simp[go_sem,simprocAttr,hb,dw,rI])
 ·have hb:decide ((k:Int)<(g.es.length:Int))=false:=ac6 (by omega)
  obtain rfl:k=g.es.length:=by omega
  repeat' (first|refine Rn.p ?_|((first|refine Rs.p ?_|refine Hd.mk ?_);try simp only[go_sem,simprocAttr,hb]))
theorem Em(g:Gr)(b:Bool)(hl:g.es.length<=1000)(hn:0<=g.n/\g.n<=1000):Spec Tryz.prog 17 (Args [eG g,eB b]) [] (.d (sI (bZ (tF (!b)) g))) []:=by
 (refine T.h [] [] [.t 4] Tryz.func17 rfl rfl (by kernel_rfl) fun X hX hP hC aA bB=> ?_)
 repeat' (first|refine Rn.p ?_|((first|refine Rs.p ?_|refine Hd.mk ?_);try simp only[go_sem,simprocAttr]))
 (refine uC hX 5 7 24 (by simp only[go_sem,simprocAttr]) rfl (by first|exact .inl rfl|exact .inr rfl) (by decide) ?_;simp only[go_sem,simprocAttr])
 refine ag (fun k:Nat=>k<=g.n.toNat) (fun k=>⟨[(1,eB b),(2, .ptr 2 0),(6,eN k),(5, .ref 24)], [(2, .box [eN g.n, .d (sE g.es)]),(24, .tip 3 1 ((lW (eR (tF (!b)) g) k).map rI))]⟩) (fun k=>g.n.toNat - k) 0 (by simp) ?_ ?_
 ·refine Le.of ?_ ?_<;>simp[go_sem,simprocAttr,lW]
 rintro k hk
 rcases adk k g.n.toNat with hlt|hge
 ·have hb:decide ((k:Int)<g.n)=true:=ac7 (by omega)
  have iF:=C1 (ls:=eR (tF (!b)) g) (k:=k)
  have he:(eR (tF (!b)) g).getD k []=aJ (tF (!b)) g.es g.es.length (k:Int):=by
   simp[eR,aas,adq hlt,oe]
  have dw:=uG (ls:=eR (tF (!b)) g) (k:=k)
  rw[he]at dw
  repeat' (first|refine Rn.p ?_|((first|refine Rs.p ?_|refine Hd.mk ?_|refine aa (Ms g (k:Int) (!b) hl) rfl ?_);try simp only[go_sem,simprocAttr,hb])|with_reducible (first|apply And.intro|(intro h;try simp only[go_sem,simprocAttr,hb]at h))|omega)
  all_goals(first|rw[ada (by omega)]at dw|rw[ac8 (by omega),ad5]at dw)
  all_goals(refine⟨k+1,by omega, ?_,by omega⟩;refine Le.of ?_ ?_<;>simp[go_sem,simprocAttr,hb,dw,rI])
 ·have hb:decide ((k:Int)<g.n)=false:=ac6 (by omega)
  obtain rfl:k=g.n.toNat:=by omega
  repeat' (first|refine Rn.p ?_|((first|refine Rs.p ?_|refine Hd.mk ?_);try simp only[go_sem,simprocAttr,hb]))
  rfl
def rB(b:Bool):List D:= [.sc (.bool b)]
def sB(l:List Bool):D:= .sl 1 (l.map rB)
theorem getD_rB(l:List Bool)(i:Nat):(l.map rB).getD i [.sc (.bool false)]= [.sc (.bool (l.getD i false))]:=by
 simp only[aas,adn]
 cases l[i]? <;>rfl
attribute [go_sem] getD_rB sB
theorem IF(l:List Bool)(k:Nat)(v:Bool):(l.map rB).set k [.sc (.bool v)]=(l.set k v).map rB:=by
 rw[aeS];rfl
theorem C6{α:Type}{n k:Nat}{f:Nat->α}{v:α} :((List.range n).map f).set k v=(List.range n).map fun y=>if y=k then v else f y:=by
 refine adZ fun i=> ?_
 rw[aeb,ado,ae3]
 by_cases hi:i<n
 ·rw[adn,adn,adq hi]
  by_cases h:k=i
  ·subst h;simp[hi]
  ·have:¬i=k:=fun e=>h e.symm
   simp[h,this]
 ·rw[adp (by simp;omega),adp (by simp;omega)]
  split
  ·rw[ac8 (by omega)]
  ·rfl
def qj(n k:Nat):List Bool:=(List.range n).map fun y=>decide (y<k)
def gV(g:Gr)(l:List Bool)(j:Nat):List Bool:=(List.range g.n.toNat).map fun y:Nat=>(List.range j).any fun i=>decide (hd g i=(y:Int))&&(l.getD (tl g i).toNat false&&l.getD (hd g i).toNat false)
def iW(g:Gr):Nat->List Bool
 |0=>qj g.n.toNat g.n.toNat
 |k+1=>gV g (iW g k) g.es.length
theorem trueK_length{n k:Nat} :(qj n k).length=n:=by simp[qj]
theorem nextK_length{g:Gr}{l:List Bool}{j:Nat} :(gV g l j).length=g.n.toNat:=by simp[gV]
theorem leftK_length{g:Gr}{k:Nat} :(iW g k).length=g.n.toNat:=by
 cases k
 ·exact trueK_length
 ·exact nextK_length
theorem IG{n:Nat} :List.replicate n [D.sc (.bool false)]=(qj n 0).map rB:=by
 refine adZ fun i=> ?_
 by_cases hi:i<n
 ·simp[qj,hi,rB,adq hi]
 ·rw[adp (by simp;omega),adp (by simp[qj];omega)]
theorem II{n k:Nat} :(qj n k).set k true=qj n (k+1):=by
 unfold qj;rw[C6]
 refine ae6 fun y _=> ?_
 split
 ·rename_i h;subst h;simp
 ·rename_i h
  rw[ad1];simp;omega
theorem IJ{g:Gr}{l:List Bool} :List.replicate g.n.toNat [D.sc (.bool false)]=(gV g l 0).map rB:=by
 refine adZ fun i=> ?_
 by_cases hi:i<g.n.toNat
 ·simp[gV,hi,rB,adq hi]
 ·rw[adp (by simp;omega),adp (by simp[gV];omega)]
theorem Mt{g:Gr}{l:List Bool}{j:Nat}(h0:0<=hd g j)(h:(l.getD (tl g j).toNat false&&l.getD (hd g j).toNat false)=true):(gV g l j).set (hd g j).toNat true=gV g l (j+1):=by
 unfold gV;rw[C6]
 refine ae6 fun y _=> ?_
 rw[adW,agZ]
 simp only[List.any_cons,List.any_nil,h,aeZ,afq]
 split
 ·rename_i e
  have:hd g j=(y:Int):=by omega
  simp[this]
 ·rename_i e
  have:¬hd g j=(y:Int):=by omega
  simp[this]
theorem Pw{g:Gr}{l:List Bool}{j:Nat}(h:(l.getD (tl g j).toNat false&&l.getD (hd g j).toNat false)=false):gV g l j=gV g l (j+1):=by
 unfold gV
 refine ae6 fun y _=> ?_
 rw[adW,agZ]
 simp only[List.any_cons,List.any_nil,h,afS,afq]
attribute [go_sem] trueK_length nextK_length leftK_length
theorem Mu(g:Gr)(hm:aM g=true):Spec Tryz.prog 195 (Args [eG g]) [] (.d (sB (iW g g.n.toNat))) []:=by
 have hn:=aB hm
 (refine T.h [] [] [.t 2] Tryz.func195 rfl rfl (by kernel_rfl) fun X hX hP hC aA bB=> ?_)
 repeat' (first|refine Rn.p ?_|((first|refine Rs.p ?_|refine Hd.mk ?_);try simp only[go_sem,simprocAttr])|with_reducible (apply And.intro)|omega)
 refine ag (fun k:Nat=>k<=g.n.toNat) (fun k=>⟨[(1, .ptr 1 0),(4,eN k),(3, .ref 11)], [(1, .box [eN g.n, .d (sE g.es)]),(11, .own 4 1 ((qj g.n.toNat k).map rB))]⟩) (fun k=>g.n.toNat - k) 0 (by simp) ?_ ?_
 ·refine Le.of ?_ ?_<;>simp[go_sem,simprocAttr]
  exact IG
 rintro k hk
 rcases adk k g.n.toNat with hlt|hge
 ·have hb:decide ((k:Int)<g.n)=true:=ac7 (by omega)
  repeat' (first|refine Rn.p ?_|((first|refine Rs.p ?_|refine Hd.mk ?_);try simp only[go_sem,simprocAttr,hb,IF,II])|with_reducible (apply And.intro)|omega)
  refine⟨k+1,by omega, ?_,by omega⟩
  (refine Le.of ?_ ?_<;>simp[go_sem,simprocAttr])
 ·have hb:decide ((k:Int)<g.n)=false:=ac6 (by omega)
  obtain rfl:k=g.n.toNat:=by omega
  repeat' (first|(show cR _ (.seq (.region 6 _ _) _) _ _;(refine pG hX 11 rfl (.inl rfl) ?_;simp only[go_sem,simprocAttr,hb]))|refine Rn.p ?_|((first|refine Rs.p ?_|refine Hd.mk ?_);try simp only[go_sem,simprocAttr,hb]))
  clear hb hk hge
  refine ag (fun k:Nat=>k<=g.n.toNat) (fun k=>⟨[(1, .ptr 1 0),(5,eN k),(3, .d (sB (iW g k)))], [(1, .box [eN g.n, .d (sE g.es)])]⟩) (fun k=>g.n.toNat - k) 0 (by simp) ?_ ?_
  ·refine Le.of ?_ ?_<;>simp[go_sem,simprocAttr,iW]
  rintro k hk
  rcases adk k g.n.toNat with hlt|hge
  ·have hb:decide ((k:Int)<g.n)=true:=ac7 (by omega)
   repeat' (first|refine Rn.p ?_|((first|refine Rs.p ?_|refine Hd.mk ?_);try simp only[go_sem,simprocAttr,hb])|with_reducible (apply And.intro)|omega)
   refine ag (fun j:Nat=>j<=g.es.length) (fun j=>⟨[(1, .ptr 1 0),(5,eN k),(3, .d (sB (iW g k))),(7,eN j),(6, .ref 29)], [(1, .box [eN g.n, .d (sE g.es)]),(29, .own 4 1 ((gV g (iW g k) j).map rB))]⟩) (fun j=>g.es.length - j) 0 (by simp) ?_ ?_
   ·refine Le.of ?_ ?_<;>simp[go_sem,simprocAttr]
    exact IJ
   rintro j hj
   rcases adk j g.es.length with hjl|WG
   ·have hb2:decide ((j:Int)<(g.es.length:Int))=true:=ac7 (by omega)
    obtain⟨⟨Ph,yL⟩,⟨Cu,yM⟩⟩:=cU hm hjl
    repeat' (first|refine Rn.p ?_|((first|refine Rs.p ?_|refine Hd.mk ?_);try simp only[go_sem,simprocAttr,hb2,IF])|with_reducible (first|apply And.intro|(intro h;try simp only[go_sem,simprocAttr,hb2,IF]at h))|omega)
    ·have hy:(gV g (iW g k) j).set (g.es.getD j (0,0)).2.toNat true=gV g (iW g k) (j+1):=Mt Cu (by rw[adg];exact⟨by assumption,by assumption⟩)
     refine⟨j+1,by omega, ?_,by omega⟩
     refine Le.of ?_ ?_<;>simp[go_sem,simprocAttr]
     rw[<- hy,aeS];rfl
    all_goals(
     have hy:gV g (iW g k) j=gV g (iW g k) (j+1):=Pw (aeT.2 (by first|exact .inl (by assumption)|exact .inr (by assumption)))
     refine⟨j+1,by omega, ?_,by omega⟩
     refine Le.of ?_ ?_<;>simp[go_sem,simprocAttr, <- hy])
   ·have hb2:decide ((j:Int)<(g.es.length:Int))=false:=ac6 (by omega)
    obtain rfl:j=g.es.length:=by omega
    repeat' (first|(show cR _ (.region 8 _ _) _ _;(refine pG hX 29 rfl (.inl rfl) ?_;simp only[go_sem,simprocAttr,hb2]))|refine Rn.p ?_|((first|refine Rs.p ?_|refine Hd.mk ?_);try simp only[go_sem,simprocAttr,hb2])|with_reducible (apply And.intro)|omega)
    refine⟨k+1,by omega, ?_,by omega⟩
    refine Le.of ?_ ?_<;>simp[go_sem,simprocAttr,iW]
  ·have hb:decide ((k:Int)<g.n)=false:=ac6 (by omega)
   obtain rfl:k=g.n.toNat:=by omega
   repeat' (first|refine Rn.p ?_|((first|refine Rs.p ?_|refine Hd.mk ?_);try simp only[go_sem,simprocAttr,hb]))
def En(g:Gr):List Bool:=iW g g.n.toNat
theorem Vk{g:Gr} :iW g g.n.toNat=En g:=rfl
def RR(g:Gr):Int:=if bT (fun b:Bool=>b) (En g)<0 then g.n else bT (fun b:Bool=>b) (En g)
def Eo(g:Gr)(x:Int)(b:Int)(i:Nat):Int:=if hd g i=x/\(En g).getD (tl g i).toNat false=true then min b (tl g i) else b
def fT(g:Gr)(x:Int)(k:Nat):Int:=(List.range k).foldl (Eo g x) g.n
def uI(g:Gr):Nat->List Int->Int->List Int × Int
 |0,way,x=>(way,x)
 |f+1,way,x=>if x∈way then(way,x) else uI g f (way++ [x]) (fT g x g.es.length)
def gx(g:Gr):Gr:=⟨g.n+1,g.es⟩
def vV(g:Gr):List Int × Int:=uI g (g.n.toNat+1) [] (RR g)
def zy(l:List Int)(m k:Nat):List Int:=(List.range k).map fun i=>l.getD ((m+l.length - i) % l.length) 0
def C7(l:List Int):List Int:=zy l (jg l (pJ l)).toNat l.length
def qP(g:Gr):List Int:=if RR g=g.n then [] else C7 ((vV g).1.drop (jg (vV g).1 (vV g).2).toNat)
theorem uJ{g:Gr}{x:Int}{k:Nat} :fT g x (k+1)=Eo g x (fT g x k) k:=by
 simp[fT,adW]
theorem yU{g:Gr}(hm:aM g=true){x:Int} :∀ {k:Nat},k<=g.es.length->0<=fT g x k/\fT g x k<=g.n
 |0,_=>by have:=aB hm;simp[fT];omega
 |k+1,h=>by
  have ih:=yU hm (x:=x) (k:=k) (by omega)
  obtain⟨⟨h1,h2⟩,_⟩:=cU hm (k:=k) (by omega)
  rw[uJ];unfold Eo tl
  split<;>omega
theorem Mv{l:List Int}{m k:Nat} :zy l m (k+1)=zy l m k++ [l.getD ((m+l.length - k) % l.length) 0]:=by
 simp[zy,adW]
theorem Gm{g:Gr}{way:List Int}{a:Int}(h:a∈way):∀f,uI g f way a=(way,a)
 |0=>rfl
 |f+1=>by simp only[uI];rw[ada h]
theorem Ep:∀ {l:List Int} {x:Int},x∈l->pJ l<=x
 |a::r,x,h=>by
  have:∀(r:List Int) (a:Int),r.foldl min a<=a/\∀x∈r,r.foldl min a<=x:=by
   intro r
   induction r with
   |nil=>intro a;exact⟨afQ _,by simp⟩
   |cons b r ih=>
    intro a
    obtain⟨h1,h2⟩:=ih (min a b)
    simp only[List.foldl_cons]
    refine⟨by omega,fun x hx=> ?_⟩
    rcases adw.1 hx with rfl|hx
    ·omega
    ·exact h2 x hx
  obtain⟨h1,h2⟩:=this r a
  rcases adw.1 h with rfl|h
  ·exact h1
  ·exact h2 x h
theorem l8{l:List Int}{m:Nat}(h:m<l.length):l.getD m 0∈l:=by
 rw[aas,acF h];exact ad3 h
theorem Px{l:List Int}{m:Nat}(hm:m<l.length)(h1:∀j,j<l.length->l.getD m 0<=l.getD j 0)(h2:∀j,j<m->l.getD m 0<l.getD j 0):jg l (pJ l)=m:=by
 have hmin:pJ l=l.getD m 0:=by
  have g1:=Ep (l8 hm)
  obtain⟨j,hj,e⟩:=ae4 (lZ (l:=l) (by omega))
  have g2:=h1 j hj
  rw[aas (l:=l) (i:=j),acF hj,Option.getD_some,e]at g2
  omega
 refine b9 (d:=0) hm (fun j hj=> ?_) ?_
 ·have:=h2 j hj
  rw[hmin];simp only[adM];omega
 ·rw[hmin];simp
theorem Gn(g:Gr)(hm:aM g=true):Spec Tryz.prog 156 (Args [eG g]) [] (.d (sI (qP g))) []:=by
 have hn:=aB hm
 have hlf:(En g).length=g.n.toNat:=leftK_length
 (refine T.h [] [] [.t 2] Tryz.func156 rfl rfl (by kernel_rfl) fun X hX hP hC aA bB=> ?_)
 repeat' (first|refine Rn.p ?_|((first|refine Rs.p ?_|refine Hd.mk ?_|refine aa (Mu g hm) rfl ?_);try simp only[go_sem,simprocAttr,Vk]))
 refine ag (fun k:Nat=>k<=g.n.toNat/\∀j,j<k->(En g).getD j false=false) (fun k=>⟨[(1, .ptr 1 0),(4,eN k),(3, .d (sB (En g)))], [(1, .box [eN g.n, .d (sE g.es)])]⟩) (fun k=>g.n.toNat - k) 0 (by simp) ?_ ?_
 ·refine Le.of ?_ ?_<;>simp[go_sem,simprocAttr,En]
 rintro k ⟨hk,hno⟩
 rcases adk k g.n.toNat with hlt|hge
 ·have hb:decide ((k:Int)<g.n)=true:=ac7 (by omega)
  cases hkb:(En g).getD k false with
  |false=>
   repeat' (first|refine Rn.p ?_|((first|refine Rs.p ?_|refine Hd.mk ?_);try simp only[go_sem,simprocAttr,hb,hkb,hlf])|with_reducible (apply And.intro)|omega)
   refine⟨k+1,⟨by omega,fun j hj=> ?_⟩, ?_,by omega⟩
   ·by_cases hjk:j=k
    ·subst hjk;exact hkb
    ·exact hno j (by omega)
   ·(refine Le.of ?_ ?_<;>simp[go_sem,simprocAttr,hb,hkb,hlf])
  |true=>
   have hst:RR g=k:=by
    have:bT (fun b:Bool=>b) (En g)=k:=b9 (d:=false) (by omega) hno hkb
    unfold RR;rw[this,ac8 (by omega)]
   have hne:decide ((k:Int)=g.n)=false:=ac6 (by omega)
   repeat' (first|refine Rn.p ?_|((first|refine Rs.p ?_|refine Hd.mk ?_);try simp only[go_sem,simprocAttr,hb,hkb,hlf,hne])|with_reducible (apply And.intro)|omega)
   clear hno hb hne hkb
   (refine uC hX 5 31 39 (by simp only[go_sem,simprocAttr]) rfl (by first|exact .inl rfl|exact .inr rfl) (by decide) ?_;simp only[go_sem,simprocAttr])
   refine ag (fun i:List Int × Int=>Way (gx g) i.1/\(0<=i.2/\i.2<=g.n)/\uI g (left (gx g) i.1) i.1 i.2=vV g) (fun i=>⟨[(1, .ptr 1 0),(4,eN i.2),(3, .d (sB (En g))),(5, .ref 39)], [(1, .box [eN g.n, .d (sE g.es)]),(39, .tip 3 1 (i.1.map rI))]⟩) (fun i=>left (gx g) i.1) ([],(k:Int)) ⟨Way.nil _,by simp only;omega, ?_⟩ ?_ ?_
   ·simp only[vU,vV,gx,hst]
    rw[show(g.n+1).toNat=g.n.toNat+1 from by omega]
   ·refine Le.of ?_ ?_<;>simp[go_sem,simprocAttr]
   rintro⟨way,x⟩ ⟨Gk,hx,hrun⟩
   simp only at Gk hx hrun ⊢
   have hwl:way.length<=65:=by have:=Gk.fuel;simp only[gx]at this;omega
   have C4:way.length<=9223372036854775807:=by omega
   by_cases hmem:x∈way
   ·have hend:=Gm (g:=g) hmem (left (gx g) way)
    rw[hrun]at hend
    obtain⟨m,Cw,hm2,_⟩:=fS hmem
    have hneg:decide ((m:Int)<0)=false:=ac6 (by omega)
    obtain⟨l,XU⟩:∃l,l=way.drop m:=⟨_,rfl⟩
    have iF:l.length=way.length - m:=by rw[XU];simp
    have Vj:qP g=C7 l:=by
     simp only[qP,hend,Cw,Int.toNat_natCast, <- XU]
     rw[ac8 (by omega)]
    repeat' (first|refine Rn.p ?_|((first|refine Rs.p ?_|refine Hd.mk ?_|(refine cr (Gl way x C4) ?_ ?_ ?_;iterate 2 (focus(simp only[go_sem,simprocAttr,Cw,hneg, <- List.map_take, <- List.map_drop,aef, <- XU];done))));try simp only[go_sem,simprocAttr,Cw,hneg, <- List.map_take, <- List.map_drop,aef, <- XU])|with_reducible (apply And.intro)|omega)
    clear hrun Gk hend Cw hneg XU
    have hl0:0<l.length:=by omega
    have hlm:l.length<=65:=by omega
    refine ag (fun i:Nat × Nat=>i.1<=l.length/\i.2<l.length/\(∀j,j<i.1->l.getD i.2 0<=l.getD j 0)/\(∀j,j<i.2->l.getD i.2 0<l.getD j 0)) (fun i=>⟨[(9,eN i.1),(8,eN i.2),(5, .d (sI l))], []⟩) (fun i=>l.length - i.1) (0,0) ⟨by simp,hl0,by simp,by simp⟩ ?_ ?_
    ·refine Le.of ?_ ?_<;>simp[go_sem,simprocAttr]
    rintro⟨i,q⟩ ⟨hi,hq,hq1,Mc⟩
    simp only at hi hq hq1 Mc ⊢
    rcases adk i l.length with hil|N1
    ·have hb:decide ((i:Int)<(l.length:Int))=true:=ac7 (by omega)
     repeat' (first|refine Rn.p ?_|((first|refine Rs.p ?_|refine Hd.mk ?_);try simp only[go_sem,simprocAttr,hb])|with_reducible (first|apply And.intro|refine oD (by kernel_rfl) ?_|(intro h;try simp only[go_sem,simprocAttr,hb]at h))|omega)
     ·refine⟨(i+1,i),⟨by simp only;omega,hil,fun j hj=> ?_,fun j hj=> ?_⟩, ?_,by simp only;omega⟩
      ·simp only at hj ⊢
       by_cases hji:j=i
       ·subst hji;exact afQ _
       ·have:=hq1 j (by omega);omega
      ·simp only at hj ⊢
       have:=hq1 j hj;omega
      ·refine Le.of ?_ ?_<;>simp[go_sem,simprocAttr]
     ·refine⟨(i+1,q),⟨by simp only;omega,hq,fun j hj=> ?_,Mc⟩, ?_,by simp only;omega⟩
      ·simp only at hj ⊢
       by_cases hji:j=i
       ·subst hji;omega
       ·exact hq1 j (by omega)
      ·refine Le.of ?_ ?_<;>simp[go_sem,simprocAttr]
    ·have hb:decide ((i:Int)<(l.length:Int))=false:=ac6 (by omega)
     obtain rfl:i=l.length:=by omega
     have hidx:=Px hq hq1 Mc
     repeat' (first|refine Rn.p ?_|((first|refine Rs.p ?_|refine Hd.mk ?_);try simp only[go_sem,simprocAttr,hb]))
     clear hi hb N1
     (refine uC hX 10 98 119 (by simp only[go_sem,simprocAttr]) rfl (by first|exact .inl rfl|exact .inr rfl) (by decide) ?_;simp only[go_sem,simprocAttr])
     refine ag (fun i:Nat=>i<=l.length) (fun i=>⟨[(5, .d (sI l)),(8,eN q),(11,eN i),(10, .ref 119)], [(119, .tip 3 1 ((zy l q i).map rI))]⟩) (fun i=>l.length - i) 0 (by simp) ?_ ?_
     ·refine Le.of ?_ ?_<;>simp[go_sem,simprocAttr,zy]
     rintro i hi
     have hrl:(zy l q i).length=i:=by simp[zy]
     rcases adk i l.length with hil|N1
     ·have hb:decide ((i:Int)<(l.length:Int))=true:=ac7 (by omega)
      have Sy:((q:Int)+(l.length:Int) - (i:Int)).tmod (l.length:Int)=(((q+l.length - i) % l.length:Nat):Int):=by
       rw[show(q:Int)+(l.length:Int) - (i:Int)=((q+l.length - i:Nat):Int) from by omega]
       rw[Int.tmod_eq_emod_of_nonneg (by omega)];rfl
      have hmod:(q+l.length - i) % l.length<l.length:=ahb _ hl0
      repeat' (first|refine Rn.p ?_|((first|refine Rs.p ?_|refine Hd.mk ?_);try simp only[go_sem,simprocAttr,hb,Sy])|with_reducible (apply And.intro)|omega)
      refine⟨i+1,by omega, ?_,by omega⟩
      rw[Mv]
      refine Le.of ?_ ?_<;>simp[go_sem,simprocAttr,rI]
     ·have hb:decide ((i:Int)<(l.length:Int))=false:=ac6 (by omega)
      obtain rfl:i=l.length:=by omega
      repeat' (first|refine Rn.p ?_|((first|refine Rs.p ?_|refine Hd.mk ?_);try simp only[go_sem,simprocAttr,hb]))
      rw[Vj,C7,hidx];rfl
   ·have hi:jg way x= -1:=by
     rcases jK (f:=fun y:Int=>decide (x=y)) (l:=way) 0 with ⟨h1,_⟩|⟨q,_,h2,h3,_⟩
     ·exact h1
     ·exact absurd (by rw[ael h3,aas,acF h2];exact ad3 h2) hmem
    obtain⟨a,rfl⟩:∃a:Nat,x=a:=⟨x.toNat,by omega⟩
    have Sl:a<(gx g).n.toNat:=by simp only[gx];omega
    repeat' (first|refine Rn.p ?_|((first|refine Rs.p ?_|refine Hd.mk ?_|(refine cr (Gl way (a:Int) C4) ?_ ?_ ?_;iterate 2 (focus(simp only[go_sem,simprocAttr,hi];done))));try simp only[go_sem,simprocAttr,hi])|with_reducible (apply And.intro)|omega)
    refine ag (fun j:Nat=>j<=g.es.length) (fun j=>⟨[(1, .ptr 1 0),(4,eN a),(3, .d (sB (En g))),(5, .ref 39),(6,eN (fT g a j)),(7,eN j)], [(1, .box [eN g.n, .d (sE g.es)]),(39, .tip 3 1 ((way++ [(a:Int)]).map rI))]⟩) (fun j=>g.es.length - j) 0 (by simp) ?_ ?_
    ·refine Le.of ?_ ?_<;>simp[go_sem,simprocAttr,rI,fT]
    rintro j hj
    rcases adk j g.es.length with hjl|WG
    ·have hb2:decide ((j:Int)<(g.es.length:Int))=true:=ac7 (by omega)
     obtain⟨⟨Ph,yL⟩,_⟩:=cU hm hjl
     have dw:fT g a (j+1)=if(g.es.getD j (0,0)).2=(a:Int)/\(En g).getD (g.es.getD j (0,0)).1.toNat false=true then min (fT g a j) (g.es.getD j (0,0)).1 else fT g a j:=uJ
     repeat' (first|refine Rn.p ?_|((first|refine Rs.p ?_|refine Hd.mk ?_);try simp only[go_sem,simprocAttr,hb2,hlf])|with_reducible (first|apply And.intro|(intro h;try simp only[go_sem,simprocAttr,hb2,hlf]at h))|omega)
     all_goals(first|rw[ada ⟨by assumption,by assumption⟩]at dw|rw[ac8 (fun e=>by first|exact absurd e.1 (by assumption)|simp_all)]at dw)
     all_goals(refine⟨j+1,by omega, ?_,by omega⟩;refine Le.of ?_ ?_<;>simp[go_sem,simprocAttr,dw])
    ·have hb2:decide ((j:Int)<(g.es.length:Int))=false:=ac6 (by omega)
     obtain rfl:j=g.es.length:=by omega
     repeat' (first|refine Rn.p ?_|((first|refine Rs.p ?_|refine Hd.mk ?_);try simp only[go_sem,simprocAttr,hb2]))
     refine⟨(way++ [(a:Int)],fT g a g.es.length),⟨Gk.next Sl hmem,yU hm (adh _), ?_⟩, ?_, ?_⟩
     ·simp only
      rw[<- hrun,lX Sl hmem]
      simp only[uI]
      rw[ac8 hmem]
     ·refine Le.of ?_ ?_<;>simp[go_sem,simprocAttr]
     ·have:=lX Sl hmem;simp only;omega
 ·have hb:decide ((k:Int)<g.n)=false:=ac6 (by omega)
  have hst:RR g=g.n:=by
   have:bT (fun b:Bool=>b) (En g)= -1:=bL false fun j hj=>hno j (by omega)
   unfold RR;rw[this,ada (by omega)]
  have hne:decide ((k:Int)=g.n)=true:=ac7 (by omega)
  repeat' (first|refine Rn.p ?_|((first|refine Rs.p ?_|refine Hd.mk ?_);try simp only[go_sem,simprocAttr,hb,hne]))
  simp only[qP];rw[ada hst];rfl
def qQ(g:Gr):Int × Int × List Int:=iT g (qP g) (bZ (·.2) g)
theorem Gp{l:List Edge}{k:Nat}{x:Edge} :x∈l.take k↔∃j,j<k/\j<l.length/\l.getD j (0,0)=x:=by
 rw[aej]
 constructor
 ·rintro⟨j,hj⟩
  rw[adE]at hj
  split at hj
  ·exact⟨j,by assumption,(adi.1 hj).1,by rw[aas,hj];rfl⟩
  ·cases hj
 ·rintro⟨j,h1,h2,h3⟩
  refine⟨j, ?_⟩
  rw[adE,ada h1,acF h2]
  rw[aas,acF h2]at h3
  exact congrArg some h3
theorem CD(g:Gr)(hl0:g.es.length<=1000):Spec Tryz.prog 107 (Args [eG g]) [] (.tup [eN (qQ g).1,eN (qQ g).2.1, .d (sI (qQ g).2.2)]) []:=by
 have hl:g.es.length<=9223372036854775807:=by omega
 (refine T.h [] [] [.t 2, .t 3, .t 4] Tryz.func107 rfl rfl (by kernel_rfl) fun X hX hP hC aA bB=> ?_)
 cases hm:aM g with
 |false=>
  repeat' (first|refine Rn.p ?_|((first|refine Rs.p ?_|refine Hd.mk ?_|refine aa (yR g hl) rfl ?_);try simp only[go_sem,simprocAttr,hm])|with_reducible (apply And.intro))
  all_goals simp[qQ,iT,hm]
 |true=>
 have hn:=aB hm
 have hn0:0<=g.n/\g.n<=1000:=by omega
 repeat' (first|refine Rn.p ?_|((first|refine Rs.p ?_|refine Hd.mk ?_|refine aa (yR g hl) rfl ?_);try simp only[go_sem,simprocAttr,hm]))
 refine ag (fun k:Nat=>k<=g.es.length/\∀j,j<k->decide ((g.es.getD j (0,0)).1=(g.es.getD j (0,0)).2)=false) (fun k=>⟨[(5,eN k),(1, .ptr 1 0)], [(1, .box [eN g.n, .d (sE g.es)])]⟩) (fun k=>g.es.length - k) 0 (by simp) ?_ ?_
 ·(refine Le.of ?_ ?_<;>simp[go_sem,simprocAttr,hm])
 rintro k ⟨hk,hno⟩
 rcases adk k g.es.length with hlt|hge
 ·have hb2:decide ((k:Int)<(g.es.length:Int))=true:=ac7 (by omega)
  repeat' (first|refine Rn.p ?_|((first|refine Rs.p ?_|refine Hd.mk ?_);try simp only[go_sem,simprocAttr,hm,hb2])|with_reducible (first|apply And.intro|refine oD (by kernel_rfl) ?_|(intro h;try simp only[go_sem,simprocAttr,hm,hb2]at h))|omega)
  any_goals (
   have hlo:l7 g=(k:Int):=b9 (d:=(0,0)) hlt hno (ac7 h)
   have hc:qQ g=(13,l7 g, []):=by
    simp only[qQ,iT];rw[ac8 (by simp[hm]),ada (by omega)]
   rw[hc]<;>first|rfl|exact hlo.symm)
  refine⟨k+1,⟨by omega,fun j hj=> ?_⟩, ?_,by omega⟩
  ·by_cases hjk:j=k
   ·subst hjk;exact h
   ·simpa using hno j (by omega)
  ·(refine Le.of ?_ ?_<;>simp[go_sem,simprocAttr,hm,hb2])
 ·have hb2:decide ((k:Int)<(g.es.length:Int))=false:=ac6 (by omega)
  have hlo:¬0<=l7 g:=by
   have:l7 g= -1:=bL (0,0) fun j hj=>hno j (by omega)
   omega
  repeat' (first|refine Rn.p ?_|((first|refine Rs.p ?_|refine Hd.mk ?_);try simp only[go_sem,simprocAttr,hm,hb2]))
  clear hno hb2 hk hge
  refine ag (fun k:Nat=>k<=g.es.length/\∀j,j<k->uH g j=false) (fun k=>⟨[(6,eN k),(1, .ptr 1 0)], [(1, .box [eN g.n, .d (sE g.es)])]⟩) (fun k=>g.es.length - k) 0 (by simp) ?_ ?_
  ·(refine Le.of ?_ ?_<;>simp[go_sem,simprocAttr])
  rintro k ⟨hk,Pu⟩
  rcases adk k g.es.length with hlt|hge
  ·have hb2:decide ((k:Int)<(g.es.length:Int))=true:=ac7 (by omega)
   repeat' (first|refine Rn.p ?_|((first|refine Rs.p ?_|refine Hd.mk ?_);try simp only[go_sem,simprocAttr,hm,hb2]))
   refine ag (fun q:Nat=>q<=k/\∀j,j<q->¬g.es.getD j (0,0)=g.es.getD k (0,0)) (fun q=>⟨[(6,eN k),(7,eN q),(1, .ptr 1 0)], [(1, .box [eN g.n, .d (sE g.es)])]⟩) (fun q=>k - q) 0 (by simp) ?_ ?_
   ·(refine Le.of ?_ ?_<;>simp[go_sem,simprocAttr,hm,hb2])
   rintro q ⟨hq,hne⟩
   rcases adk q k with Sz|Sz
   ·have hb3:decide ((q:Int)<(k:Int))=true:=ac7 (by omega)
    repeat' (first|refine Rn.p ?_|((first|refine Rs.p ?_|refine Hd.mk ?_);try simp only[go_sem,simprocAttr,hb3,qK])|with_reducible (first|apply And.intro|refine oD (by kernel_rfl) ?_|(intro h;try simp only[go_sem,simprocAttr,hb3,qK]at h))|omega)
    any_goals (
     have Pv:uH g k=true:=ac7 (Gp.2 ⟨q,Sz,by omega,h⟩)
     have htI:fC g=(k:Int):=b9 (d:=0) (by simpa using hlt) (fun j hj=>by rw[dB (by omega)];exact Pu j hj) (by rw[dB hlt];exact Pv)
     have hc:qQ g=(14,fC g, []):=by
      simp only[qQ,iT];rw[ac8 (by simp[hm]),ac8 hlo,ada (by omega)]
     rw[hc]<;>first|rfl|exact htI.symm)
    refine⟨q+1,⟨by omega,fun j hj=> ?_⟩, ?_,by omega⟩
    ·by_cases hjk:j=q
     ·subst hjk;exact h
     ·exact hne j (by omega)
    ·refine Le.of ?_ ?_<;>simp[go_sem,simprocAttr]
   ·have hb3:decide ((q:Int)<(k:Int))=false:=ac6 (by omega)
    repeat' (first|refine Rn.p ?_|((first|refine Rs.p ?_|refine Hd.mk ?_);try simp only[go_sem,simprocAttr,hb3])|with_reducible (apply And.intro)|omega)
    refine⟨k+1,⟨by omega,fun j hj=> ?_⟩, ?_,by omega⟩
    ·by_cases hjk:j=k
     ·subst hjk
      refine ac6 fun h=> ?_
      obtain⟨i,h1,_,h3⟩:=Gp.1 h
      exact hne i (by omega) h3
     ·exact Pu j (by omega)
    ·(refine Le.of ?_ ?_<;>simp[go_sem,simprocAttr,hb3])
  ·have hb2:decide ((k:Int)<(g.es.length:Int))=false:=ac6 (by omega)
   have Pv:¬0<=fC g:=by
    have:fC g= -1:=bL 0 fun j hj=>by
     rw[ae3]at hj
     rw[dB hj];exact Pu j (by omega)
    omega
   repeat' (first|refine Rn.p ?_|((first|refine Rs.p ?_|refine Hd.mk ?_|refine aa (Gn g hm) rfl ?_|refine aa (Em g true hl0 hn0) rfl ?_);try simp only[go_sem,simprocAttr,hm,hb2])|with_reducible (first|apply And.intro|refine oD (by kernel_rfl) ?_|(intro h;try simp only[go_sem,simprocAttr,hm,hb2]at h))|omega)
   all_goals(
    have hc:qQ g=if 0<(qP g).length then(15,0,qP g) else if 1<(bZ (tF false) g).length then(16,0,(bZ (tF false) g).take 2) else(0,0, []):=by
     show iT g (qP g) (bZ (tF false) g)=_
     simp only[iT];rw[ac8 (by simp[hm]),ac8 hlo,ac8 Pv]
    first|rw[ada (by omega)]at hc|(rw[ac8 (by omega)]at hc;first|rw[ada (by omega)]at hc|rw[ac8 (by omega)]at hc)
    rw[hc]<;>first|rfl|simp only[aew])
end Go.Ab
end
section
namespace Go.Ab
def Ord(g:Gr)(out:List Int):Prop:=∀p,p<out.length->∀i,i<g.es.length->hd g i=out.getD p 0->tl g i∈out.take p
theorem qR{l r:List Int}{p:Nat}(h:p<l.length):(l++r).getD p 0=l.getD p 0:=by
 rw[aas,aas,ady h]
theorem Ord.next{g:Gr}{out:List Int}(h:Ord g out){x:Nat}(hb:∀i,i<g.es.length->hd g i=x->tl g i∈out):Ord g (out++ [(x:Int)]):=by
 intro p hp i hi hh
 rw[adj,List.length_singleton]at hp
 by_cases dI:p<out.length
 ·rw[qR dI]at hh
  have:=h p dI i hi hh
  rw[aez (by omega)]
  exact this
 ·have hpe:p=out.length:=by omega
  subst hpe
  rw[aas,adx (by omega)]at hh
  simp at hh
  rw[aez (by omega),adC (by omega)]
  exact hb i hi hh
theorem A7{g:Gr}(hm:aM g=true):∀f out,gP g out->Ord g out->left g out<=f->gP g (CB g f out)/\Ord g (CB g f out)/\jg (eS g (CB g f out)) 0<0
 |f,out,hP,hO,hl=>by
  rcases XS (g:=g) out with hx|⟨x,hx,Gh,hw⟩
  ·rw[Gj (by omega)];exact⟨hP,hO,by omega⟩
  ·obtain⟨Uc,_,hb⟩:=hP.next hm Gh hw
   have hn:=CZ hP Uc
   cases f with
   |zero=>omega
   |succ f=>
    have:=A7 hm f (out++ [(x:Int)]) Uc (hO.next hb) (by omega)
    simp only[CB,hx]
    rw[ac8 (by omega)]
    exact this
theorem jL{g:Gr}(hm:aM g=true):gP g (aZ g)/\Ord g (aZ g)/\jg (eS g (aZ g)) 0<0:=
 A7 hm _ _ (gP.nil g) (fun p hp=>by simp at hp) (by rw[vU];exact adh _)
theorem x5{g:Gr}(hm:aM g=true){y:Nat}(hy:y<g.n.toNat):0<wt g (aZ g) y↔(y:Int)∉aZ g:=by
 obtain⟨_,_,hi⟩:=jL hm
 constructor
 ·intro h hin;simp[wt,hin]at h
 ·intro h
  have h0:wt g (aZ g) y≠0:=by
   intro e
   rcases jK (f:=fun y:Int=>decide (0=y)) (l:=eS g (aZ g)) 0 with ⟨_,h2⟩|⟨k,h1,_⟩
   ·have:=h2 _ (adN (pH hy))
    rw[e]at this;simp at this
   ·have:jg (eS g (aZ g)) 0=k:=h1
    omega
  have:0<=wt g (aZ g) y:=by simp only[wt,h,if_false];omega
  omega
theorem A8{g:Gr}{l:List Bool}{j y:Nat}(h:y<g.n.toNat):(gV g l j).getD y false=(List.range j).any fun i=>decide (hd g i=(y:Int))&&(l.getD (tl g i).toNat false&&l.getD (hd g i).toNat false):=by
 simp[gV,aas,adq h]
theorem A9{g:Gr}(hm:aM g=true):∀k y,y<g.n.toNat->(y:Int)∉aZ g->(iW g k).getD y false=true
 |0,y,hy,_=>by simp[iW,qj,aas,adq hy];omega
 |k+1,y,hy,h=>by
  have hw:=(x5 hm hy).2 h
  simp only[wt,h,if_false]at hw
  obtain⟨i,hi,hp⟩:=af1.1 (Int.natCast_pos.1 hw)
  simp only[adg,ade,adK,adM]at hp
  have hil:=adl.1 hi
  obtain⟨⟨h1,h2⟩,_⟩:=cU hm hil
  have ht:(g.es.getD i (0,0)).1=tl g i:=rfl
  rw[ht]at h1 h2
  have e:((tl g i).toNat:Int)=tl g i:=by omega
  have g1:=A9 hm k (tl g i).toNat (by omega) (by rw[e];exact hp.2)
  have g2:=A9 hm k y hy h
  show(gV g (iW g k) g.es.length).getD y false=true
  rw[A8 hy,adR]
  refine⟨i,hi, ?_⟩
  rw[hp.1,Int.toNat_natCast,g1,g2];simp
theorem KB{g:Gr}(hm:aM g=true):∀k p,p<k->p<(aZ g).length->(iW g k).getD ((aZ g).getD p 0).toNat false=false
 |0,p,h,_=>by omega
 |k+1,p,h,hp=>by
  obtain⟨hP,hO,_⟩:=jL hm
  have hr:=hP.lo _ (l8 hp)
  obtain⟨y,hy⟩:∃y:Nat,(aZ g).getD p 0=y:=⟨((aZ g).getD p 0).toNat,by omega⟩
  have Vl:y<g.n.toNat:=by omega
  rw[hy,Int.toNat_natCast]
  show(gV g (iW g k) g.es.length).getD y false=false
  rw[A8 Vl,adV]
  intro i hi
  have hil:=adl.1 hi
  simp only[adg,ade]
  rintro⟨h1,h2,_⟩
  have ht:=hO p hp i hil (by rw[h1,hy])
  rw[aej]at ht
  obtain⟨q,hq⟩:=ht
  rw[adE]at hq
  split at hq
  ·rename_i hqp
   have:=KB hm k q (by omega) (by omega)
   rw[aas (l:=aZ g),hq]at this
   rw[Option.getD_some,h2]at this
   cases this
  ·cases hq
theorem Py{g:Gr}(hm:aM g=true){y:Nat}(hy:y<g.n.toNat):(En g).getD y false=true↔(y:Int)∉aZ g:=by
 constructor
 ·intro h hin
  obtain⟨hP,_,_⟩:=jL hm
  obtain⟨p,hp,e⟩:=ae4 hin
  have hl:=hP.fuel
  have:=KB hm g.n.toNat p (by omega) hp
  rw[aas (l:=aZ g),acF hp,Option.getD_some,e,Int.toNat_natCast]at this
  have h2:(iW g g.n.toNat).getD y false=true:=h
  rw[this]at h2;cases h2
 ·intro h;exact A9 hm _ y hy h
theorem Pz{g:Gr}(hm:aM g=true){y:Nat}(hy:y<g.n.toNat):(En g).getD y false=decide (0<(eS g (aZ g)).getD y 0):=by
 rw[qM hy,ad1,Py hm hy,ade,x5 hm hy]
theorem start_eq{g:Gr}(hm:aM g=true):(bT (fun n=>decide (0<n)) (eS g (aZ g))= -1/\RR g=g.n)\/∃a:Nat,a<g.n.toNat/\bT (fun n=>decide (0<n)) (eS g (aZ g))=a/\RR g=a/\(a:Int)∉aZ g:=by
 have hlf:(En g).length=g.n.toNat:=leftK_length
 rcases jK (f:=fun n:Int=>decide (0<n)) (l:=eS g (aZ g)) 0 with ⟨h1,h2⟩|⟨k,h1,h2,h3,h4⟩
 ·refine .inl ⟨h1, ?_⟩
  have:bT (fun b:Bool=>b) (En g)= -1:=bL false fun j hj=>by
   rw[hlf]at hj
   rw[Pz hm hj]
   exact h2 _ (by rw[aas,pH hj];exact adN (pH hj))
  unfold RR;rw[this,ada (by omega)]
 ·rw[wts_length]at h2
  refine .inr ⟨k,h2,h1, ?_, ?_⟩
  ·have:bT (fun b:Bool=>b) (En g)=k:=b9 (d:=false) (by omega) (fun j hj=>by
    rw[Pz hm (by omega)];exact h4 j hj) (by rw[Pz hm h2];exact h3)
   unfold RR;rw[this,ac8 (by omega)]
  ·rw[<- x5 hm h2]
   rw[qM h2]at h3
   exact ael h3
def Q(g:Gr)(a:Nat)(t:Int):Prop:=∃i,i<g.es.length/\hd g i=(a:Int)/\tl g i=t/\t∉aZ g
theorem aT{g:Gr}(hm:aM g=true){i:Nat}(hi:i<g.es.length):0<=tl g i/\tl g i<g.n:=(cU hm hi).1
theorem aU{g:Gr}(hm:aM g=true){i:Nat}(hi:i<g.es.length):0<=hd g i/\hd g i<g.n:=(cU hm hi).2
theorem Mw{g:Gr}(hm:aM g=true){i:Nat}(hi:i<g.es.length):0<(eS g (aZ g)).getD (tl g i).toNat 0↔tl g i∉aZ g:=by
 have h:=aT hm hi
 have e:((tl g i).toNat:Int)=tl g i:=by omega
 rw[qM (by omega),x5 hm (by omega),e]
theorem yV{g:Gr}(hm:aM g=true):∀(l:List Int) (b:Int),(∀e∈l,∃i:Nat,e=i/\i<g.es.length)->
 (b= -1\/0<=b)->(l.foldl (iS g (eS g (aZ g))) b=b\/∃i:Nat,(i:Int)∈l/\tl g i∉aZ g/\l.foldl (iS g (eS g (aZ g))) b=tl g i)/\(0<=b->l.foldl (iS g (eS g (aZ g))) b<=b)/\
   (∀i:Nat,(i:Int)∈l->tl g i∉aZ g->0<=l.foldl (iS g (eS g (aZ g))) b/\l.foldl (iS g (eS g (aZ g))) b<=tl g i)
 | [],b,_,_=>⟨.inl rfl,fun _=>afQ _,by simp⟩
 |e::l,b,he,hb=>by
  obtain⟨i,rfl,hi⟩:=he e adI
  have htr:=aT hm hi
  have hw:=Mw hm hi
  have hstep:iS g (eS g (aZ g)) b (i:Int)=if tl g i∉aZ g/\(b<0\/tl g i<b) then tl g i else b:=by
   simp only[iS,Int.toNat_natCast,hw]
  have hb':iS g (eS g (aZ g)) b (i:Int)= -1\/0<=iS g (eS g (aZ g)) b (i:Int):=by
   rw[hstep];split
   ·exact .inr htr.1
   ·exact hb
  obtain⟨h1,h2,h3⟩:=yV hm l (iS g (eS g (aZ g)) b (i:Int)) (fun e h=>he e (adA _ h)) hb'
  simp only[List.foldl_cons]
  generalize hr:l.foldl (iS g (eS g (aZ g))) (iS g (eS g (aZ g)) b (i:Int))=r at h1 h2 h3 ⊢
  refine⟨?_, ?_, ?_⟩
  ·rcases h1 with h1|⟨j,hj,h4,h5⟩
   ·rw[hstep]at h1
    split at h1
    ·rename_i hc
     exact .inr ⟨i,by simp,hc.1,h1⟩
    ·exact .inl h1
   ·exact .inr ⟨j,by simp[hj],h4,h5⟩
  ·intro h0
   rw[hstep]at h2
   split at h2
   ·rename_i hc;have:=h2 htr.1;omega
   ·exact h2 h0
  ·intro j hj hjn
   rcases adw.1 hj with hj|hj
   ·have:j=i:=afp hj
    subst this
    rw[hstep]at h1 h2
    split at h1
    ·rename_i hc
     rw[ada hc]at h2
     have:=h2 htr.1
     rcases h1 with h1|⟨q,hq,h4,h5⟩
     ·omega
     ·obtain⟨i',e',hi'⟩:=he q (adA _ hq)
      have:q=i':=afp e'
      subst this
      have:=aT hm hi';omega
    ·rename_i hc
     rw[ac8 hc]at h2
     have Si:¬(b<0\/tl g j<b):=fun h=>hc ⟨hjn,h⟩
     have:=h2 (by omega)
     rcases h1 with h1|⟨q,hq,h4,h5⟩
     ·omega
     ·obtain⟨i',e',hi'⟩:=he q (adA _ hq)
      have:q=i':=afp e'
      subst this
      have:=aT hm hi';omega
   ·exact h3 j hj hjn
theorem Ba{g:Gr}(hm:aM g=true){a:Nat}(h:∃t,Q g a t):Q g a (mU g (eS g (aZ g)) a)/\∀t,Q g a t->mU g (eS g (aZ g)) a<=t:=by
 have hin:∀i,i<g.es.length->hd g i=(a:Int)->(i:Int)∈qx g a:=by
  intro i hi hh
  simp only[qx,gU,adb,adJ,adl,ade]
  exact⟨i,⟨hi,hh⟩,rfl⟩
 obtain⟨h1,_,h3⟩:=yV hm (qx g a) (-1) Pq (.inl rfl)
 have hG:mU g (eS g (aZ g)) a=(qx g a).foldl (iS g (eS g (aZ g))) (-1):=by simp[mU,C3]
 rw[<- hG]at h1 h3
 have hle:∀t,Q g a t->0<=mU g (eS g (aZ g)) a/\mU g (eS g (aZ g)) a<=t:=by
  rintro t ⟨i,h4,h5,rfl,h6⟩
  exact h3 i (hin i h4 h5) h6
 obtain⟨t,ht⟩:=h
 have h0:=(hle t ht).1
 refine⟨?_,fun t ht=>(hle t ht).2⟩
 rcases h1 with h1|⟨i,hi,h4,h5⟩
 ·omega
 ·obtain⟨i',e',hi',hh⟩:=El hi
  have:i=i':=afp e'
  subst this
  exact⟨i,hi',hh,h5.symm,by rw[h5];exact h4⟩
theorem Bb{g:Gr}(hm:aM g=true){a:Nat} :∀k,k<=g.es.length->(fT g a k=g.n\/Q g a (fT g a k))/\fT g a k<=g.n/\∀i,i<k->hd g i=(a:Int)->tl g i∉aZ g->fT g a k<=tl g i
 |0,_=>⟨.inl rfl,afQ _,by simp⟩
 |k+1,hk=>by
  obtain⟨h1,h2,h3⟩:=Bb hm (a:=a) k (by omega)
  have htr:=aT hm (i:=k) (by omega)
  have e:((tl g k).toNat:Int)=tl g k:=by omega
  have hlf:=Py hm (y:=(tl g k).toNat) (by omega)
  rw[e]at hlf
  rw[uJ]
  unfold Eo
  split
  ·rename_i hc0
   have hc:hd g k=(a:Int)/\tl g k∉aZ g:=⟨hc0.1,hlf.1 hc0.2⟩
   refine⟨?_,by omega, ?_⟩
   ·by_cases hle:fT g a k<=tl g k
    ·rw[Int.min_eq_left hle];exact h1
    ·rw[Int.min_eq_right (by omega)];exact .inr ⟨k,by omega,hc.1,rfl,hc.2⟩
   ·intro i hi hh hn
    by_cases hik:i=k
    ·subst hik;omega
    ·have:=h3 i (by omega) hh hn;omega
  ·rename_i hc
   refine⟨h1,h2, ?_⟩
   intro i hi hh hn
   by_cases hik:i=k
   ·subst hik;exact absurd ⟨hh,hlf.2 hn⟩ hc
   ·exact h3 i (by omega) hh hn
theorem back_eq{g:Gr}(hm:aM g=true){a:Nat}(h:∃t,Q g a t):mU g (eS g (aZ g)) a=fT g a g.es.length/\Q g a (fT g a g.es.length):=by
 obtain⟨h1,h2⟩:=Ba hm h
 obtain⟨h3,h4,h5⟩:=Bb hm (a:=a) g.es.length (adh _)
 have hb:fT g a g.es.length<=mU g (eS g (aZ g)) a:=by
  obtain⟨i,h6,h7,h8,h9⟩:=h1
  rw[<- h8]at h9 ⊢
  exact h5 i h6 h7 h9
 have hlt:mU g (eS g (aZ g)) a<g.n:=by
  obtain⟨i,h6,h7,h8,h9⟩:=h1
  rw[<- h8];exact(aT hm h6).2
 rcases h3 with h3|h3
 ·omega
 ·exact⟨by have:=h2 _ h3;omega,h3⟩
theorem Vm{g:Gr}(hm:aM g=true){a:Nat}(ha:a<g.n.toNat)(h:(a:Int)∉aZ g):∃t,Q g a t:=by
 have hw:=(x5 hm ha).2 h
 simp only[wt,h,if_false]at hw
 obtain⟨i,hi,hp⟩:=af1.1 (Int.natCast_pos.1 hw)
 simp only[adg,ade,adK,adM]at hp
 exact⟨tl g i,i,adl.1 hi,hp.1,rfl,hp.2⟩
theorem PA{g:Gr}(hm:aM g=true):∀(f f':Nat) (way:List Int) (a:Nat),way.Nodup->a<g.n.toNat->(a:Int)∉aZ g->left g way<=f->left g way<=f'->
 pK g (eS g (aZ g)) f way a=uI g f' way a/\(0<=(uI g f' way a).2/\(uI g f' way a).2∈(uI g f' way a).1/\(uI g f' way a).1.Nodup)
 |f,f',way,a,hd,ha,hn,h1,h2=>by
  by_cases hmem:(a:Int)∈way
  ·rw[nZ (.inr hmem),Gm hmem]
   exact⟨rfl,by simp only;omega,hmem,hd⟩
  ·have hla:=lX ha hmem
   cases f with
   |zero=>omega
   |succ f=>
    cases f' with
    |zero=>omega
    |succ f'=>
     obtain⟨hb,hq⟩:=back_eq hm (Vm hm ha hn)
     obtain⟨i,hi,_,ht,RT⟩:=hq
     have htr:=aT hm hi
     rw[ht]at htr
     obtain⟨b,j9⟩:∃b:Nat,fT g a g.es.length=b:=⟨(fT g a g.es.length).toNat,by omega⟩
     rw[j9]at hb RT htr
     have hd':(way++ [(a:Int)]).Nodup:=by
      rw[adu]
      refine⟨hd,by simp, ?_⟩
      intro x hx y hy e
      simp at hy
      rw[<- hy, <- e]at hmem;exact hmem hx
     have ih:=PA hm f f' (way++ [(a:Int)]) b hd' (by omega) RT (by omega) (by omega)
     have e1:pK g (eS g (aZ g)) (f+1) way a=pK g (eS g (aZ g)) f (way++ [(a:Int)]) b:=by
      simp only[pK];rw[ac8 (by intro h;rcases h with h|h;omega;exact hmem h),hb]
     have e2:uI g (f'+1) way a=uI g f' (way++ [(a:Int)]) b:=by
      simp only[uI];rw[ac8 hmem,j9]
     rw[e1,e2];exact ih
theorem Er{g:Gr}{way:List Int} :left g way<=g.n.toNat:=by
 unfold left
 have:=aeR (p:=fun y:Nat=> !decide ((y:Int)∈way)) (l:=List.range g.n.toNat)
 simpa using this
theorem l9{l:List Int}(h:l.Nodup){i j:Nat}(hi:i<l.length)(hj:j<l.length)(e:l.getD i 0=l.getD j 0):i=j:=by
 rw[aas,aas,acF hi,acF hj]at e
 exact(agm h).1 e
theorem PB{l:List Int}{i:Nat}(hi:i<l.length):l.reverse.getD i 0=l.getD (l.length - 1 - i) 0:=by
 rw[aas,aas,afb hi]
theorem SA{l:List Int}(hd:l.Nodup)(h0:0<l.length):qi l.reverse=C7 l:=by
 obtain⟨m,Cw,hm2,WH⟩:=fS (lZ h0)
 have Zc:0<l.reverse.length:=by simpa using h0
 obtain⟨k,Ao,hk2,WI⟩:=fS (lZ Zc)
 have hmin:pJ l.reverse=pJ l:=by
  have h1:=Ep (aeY.2 (lZ h0))
  have h2:=Ep (aeY.1 (lZ Zc))
  omega
 rw[aeQ]at hk2
 have hk:l.length - 1 - k=m:=l9 hd (by omega) hm2 (by rw[<- PB hk2,WI,WH,hmin])
 have e1:qi l.reverse=l.reverse.drop k++l.reverse.take k:=by
  simp only[qi,Ao,Int.toNat_natCast]
 have e2:C7 l=zy l m l.length:=by simp only[C7,Cw,Int.toNat_natCast]
 rw[e1,e2]
 refine adZ fun i=> ?_
 by_cases hi:i<l.length
 ·have hr:(zy l m l.length)[i]? =some (l.getD ((m+l.length - i) % l.length) 0):=by
   simp[zy,adq hi]
  rw[hr]
  by_cases hik:i<l.length - k
  ·rw[ady (by simp;omega),ad4,afb (by omega)]
   have:(m+l.length - i) % l.length=m - i:=by
    rw[show m+l.length - i=(m - i)+l.length from by omega,Nat.add_mod_right,aeC (by omega)]
   rw[this,show l.length - 1 - (k+i)=m - i from by omega,aas,acF (by omega)];rfl
  ·rw[adx (by simp;omega),aeD,aeQ,adE,ada (by omega),afb (by omega)]
   have:(m+l.length - i) % l.length=m+l.length - i:=aeC (by omega)
   rw[this,show l.length - 1 - (i - (l.length - k))=m+l.length - i from by omega,aas,acF (by omega)];rfl
 ·rw[adp (by simp;omega),adp (by simp[zy];omega)]
theorem Vn{g:Gr}(hm:aM g=true):nW g=qP g:=by
 have hn:=aB hm
 rcases start_eq hm with ⟨h1,h2⟩|⟨a,ha,h1,h2,h3⟩
 ·have:nV g=([], -1):=by
   unfold nV;rw[h1];exact nZ (.inl (by omega)) _
  simp only[nW,qP,this]
  rw[ada (by omega),ada h2]
 ·obtain⟨he,h4,h5,h6⟩:=PA hm g.n.toNat (g.n.toNat+1) [] a (by simp) ha h3 Er (Nat.le_succ_of_le Er)
  have hw:nV g=vV g:=by
   unfold nV vV;rw[h1,h2];exact he
  have hr:uI g (g.n.toNat+1) [] a=vV g:=by unfold vV;rw[h2]
  rw[hr]at h4 h5 h6
  simp only[nW,qP,hw]
  rw[ac8 (by omega),ac8 (by omega)]
  obtain⟨k,Ao,hk2,_⟩:=fS h5
  rw[Ao,Int.toNat_natCast]
  exact SA (List.Pairwise.drop h6) (by simp;omega)
theorem Vo(g:Gr):bX g=qQ g:=by
 unfold bX qQ
 cases hm:aM g with
 |false=>simp[iT,hm]
 |true=>rw[Vn hm]
end Go.Ab
end
section
set_option maxHeartbeats 4000000
set_option maxRecDepth 10000
namespace Go.Ab
attribute [local congr] ACall.congr gd.congr Hd.congr Ny.congr vcOps.congr
open Go.Proofs
abbrev Pt:=Int × Int
def eP(p:Pt):AV:= .agg [.d (.sc (.int .i64 p.1)), .d (.sc (.int .i64 p.2))]
def rP(p:Pt):List D:= [.sc (.int .i64 p.1), .sc (.int .i64 p.2)]
attribute [go_sem] eP
def bC(p:Pt):Prop:=(-262144<=p.1/\p.1<=262144)/\(-262144<=p.2/\p.2<=262144)
theorem qu{x y m n:Int}(hx: -m<=x/\x<=m)(hy: -n<=y/\y<=n): -(m*n)<=x*y/\x*y<=m*n:=by
 have hm:0<=m:=by omega
 have hn:0<=n:=by omega
 have h1:x.natAbs<=m.natAbs:=by omega
 have h2:y.natAbs<=n.natAbs:=by omega
 have h3:(x*y).natAbs<=(m*n).natAbs:=by rw[Int.natAbs_mul,Int.natAbs_mul];exact afR h1 h2
 have h4:0<=m*n:=agh hm hn
 omega
theorem IK(n:Int):Spec Tryz.prog 132 (Args [eN n]) [] (eB false) []:=by
 (refine T.h [] [] [.t 2] Tryz.func132 rfl rfl (by kernel_rfl) fun X hX hP hC aA bB=> ?_)
 repeat' (first|refine Rn.p ?_|((first|refine Rs.p ?_|refine Hd.mk ?_);try simp only[go_sem,simprocAttr]))
def jh(a b:Int):Int:=if a<b then -1 else if b<a then 1 else 0
theorem Es(a b:Int):Spec Tryz.prog 79 (Args [eN a,eN b]) [] (eN (jh a b)) []:=by
 (refine T.h [] [] [.t 4] Tryz.func79 rfl rfl (by kernel_rfl) fun X hX hP hC aA bB=> ?_)
 repeat' (first|refine Rn.p ?_|((first|refine Rs.p ?_|refine Hd.mk ?_|refine aa (IK _) rfl ?_);try simp only[go_sem,simprocAttr])|with_reducible (first|apply And.intro|(intro h;try simp only[go_sem,simprocAttr]at h)))
 all_goals(unfold jh;repeat' split)<;>omega
def sy(a b n:Int):Bool:=decide (min a b<=n)&&decide (n<=max a b)
theorem Et(a b n:Int):Spec Tryz.prog 197 (Args [eN a,eN b,eN n]) [] (eB (sy a b n)) []:=by
 (refine T.h [] [] [.t 6] Tryz.func197 rfl rfl (by kernel_rfl) fun X hX hP hC aA bB=> ?_)
 repeat' (first|refine Rn.p ?_|((first|refine Rs.p ?_|refine Hd.mk ?_);try simp only[go_sem,simprocAttr])|with_reducible (first|apply And.intro|(intro h;try simp only[go_sem,simprocAttr]at h)))
 all_goals(unfold sy;rw[ad1];simp;omega)
def tm(a b c d:Pt):Int:=(b.1 - a.1)*(d.2 - c.2) - (b.2 - a.2)*(d.1 - c.1)
theorem IL(a b c d:Pt)(ha:bC a)(hb:bC b)(hc:bC c)(hd:bC d):Spec Tryz.prog 183 (Args [eP a,eP b,eP c,eP d]) [] (eN (tm a b c d)) []:=by
 (refine T.h [] [] [.t 8] Tryz.func183 rfl rfl (by kernel_rfl) fun X hX hP hC aA bB=> ?_)
 obtain⟨a1,a2⟩:=a
 obtain⟨b1,b2⟩:=b
 obtain⟨c1,c2⟩:=c
 obtain⟨d1,d2⟩:=d
 simp only[bC]at ha hb hc hd
 have m1:=qu (x:=b1 - a1) (y:=d2 - c2) (m:=524288) (n:=524288) (by omega) (by omega)
 have m2:=qu (x:=b2 - a2) (y:=d1 - c1) (m:=524288) (n:=524288) (by omega) (by omega)
 repeat' (first|refine Rn.p ?_|((first|refine Rs.p ?_|refine Hd.mk ?_);try simp only[go_sem,simprocAttr])|with_reducible (apply And.intro)|omega)
 all_goals simp[tm]
def sd(a b c:Pt):Int:=jh (tm a b a c) 0
theorem C8(a b c:Pt)(ha:bC a)(hb:bC b)(hc:bC c):Spec Tryz.prog 131 (Args [eP a,eP b,eP c]) [] (eN (sd a b c)) []:=by
 (refine T.h [] [] [.t 6] Tryz.func131 rfl rfl (by kernel_rfl) fun X hX hP hC aA bB=> ?_)
 repeat' (first|refine Rn.p ?_|((first|refine Rs.p ?_|refine Hd.mk ?_|refine aa (Es _ _) rfl ?_|refine aa (IL _ _ _ _ (by assumption) (by assumption) (by assumption) (by assumption)) rfl ?_);try simp only[go_sem,simprocAttr]))
 all_goals rfl
def iz(a b c:Pt):Bool:=decide (sd a b c=0)&&sy a.1 b.1 c.1&&sy a.2 b.2 c.2
theorem vW(a b c:Pt)(ha:bC a)(hb:bC b)(hc:bC c):Spec Tryz.prog 171 (Args [eP a,eP b,eP c]) [] (eB (iz a b c)) []:=by
 (refine T.h [] [] [.t 6] Tryz.func171 rfl rfl (by kernel_rfl) fun X hX hP hC aA bB=> ?_)
 repeat' (first|refine Rn.p ?_|((first|refine Rs.p ?_|refine Hd.mk ?_|refine aa (Et _ _ _) rfl ?_|refine aa (C8 _ _ _ (by assumption) (by assumption) (by assumption)) rfl ?_);try simp only[go_sem,simprocAttr])|with_reducible (first|apply And.intro|(intro h;try simp only[go_sem,simprocAttr]at h)))
 all_goals simp_all[iz]
def nF(p:Pt):Bool:=decide (262144<max p.1 p.2)||decide (min p.1 p.2< -262144)
theorem Mx(p:Pt):Spec Tryz.prog 166 (Args [eP p]) [] (eB (nF p)) []:=by
 (refine T.h [] [] [.t 2] Tryz.func166 rfl rfl (by kernel_rfl) fun X hX hP hC aA bB=> ?_)
 repeat' (first|refine Rn.p ?_|((first|refine Rs.p ?_|refine Hd.mk ?_);try simp only[go_sem,simprocAttr])|with_reducible (first|apply And.intro|(intro h;try simp only[go_sem,simprocAttr]at h)))
 all_goals simp_all[nF]
 all_goals omega
theorem getD_rP(ps:List Pt)(i:Nat):(ps.map rP).getD i [.sc (.int .i64 0), .sc (.int .i64 0)]=rP (ps.getD i (0,0)):=by
 simp only[aas,adn]
 cases ps[i]? <;>rfl
theorem rP_eq(p:Pt):rP p= [.sc (.int .i64 p.1), .sc (.int .i64 p.2)]:=rfl
attribute [go_sem] getD_rP rP_eq Int.toNat_natCast
theorem zA(f:Nat)(g:Pt->Bool)(hf:∀p,Spec Tryz.prog f (Args [eP p]) [] (eB (g p)) [])(ps:List Pt)(hl:ps.length<=9223372036854775806):
 Spec Tryz.prog 172 (Args [.d (.sl 2 (ps.map rP)), .fn f [] []]) [] (eN (bT g ps)) []:=by
 (refine T.h [] [] [.t 4] Tryz.func172 rfl rfl (by kernel_rfl) fun X hX hP hC aA bB=> ?_)
 repeat' (first|refine Rn.p ?_|((first|refine Rs.p ?_|refine Hd.mk ?_);try simp only[go_sem,simprocAttr]))
 refine ag (fun k:Nat=>k<=ps.length/\∀j,j<k->g (ps.getD j (0,0))=false) (fun k=>⟨[(0, .d (.sl 2 (ps.map rP))),(1, .fn f [] []),(7, .d (.sc (.int .i64 (ps.length:Int)))),(8, .d (.sc (.int .i64 (k:Int))))], []⟩) (fun k=>ps.length - k) 0 (by simp) ?_ ?_
 ·refine Le.of ?_ ?_<;>simp[go_sem,simprocAttr]
 rintro k ⟨hk,hg⟩
 repeat' (first|refine Rn.p ?_|((first|refine Rs.p ?_|refine Hd.mk ?_|refine aa (hf _) rfl ?_);try simp only[go_sem,simprocAttr])|with_reducible (first|apply And.intro|(intro h;try simp only[go_sem,simprocAttr]at h))|omega)
 ·exact(b9 (d:=(0,0)) (by omega) hg h).symm
 ·refine⟨k+1,⟨by omega,fun j hj=> ?_⟩,Le.of ?_ ?_,by omega⟩
  ·by_cases hjk:j=k
   ·subst hjk;exact h
   ·exact hg j (by omega)
  ·simp[go_sem,simprocAttr]
  ·simp[go_sem,simprocAttr]
 ·exact(bL (0,0) fun j hj=>hg j (by omega)).symm
theorem uK(f:Nat)(g:Pt->Bool)(hf:∀p,Spec Tryz.prog f (Args [eP p]) [] (eB (g p)) [])(ps:List Pt)(hl:ps.length<=9223372036854775806):
 Spec Tryz.prog 127 (Args [.d (.sl 2 (ps.map rP)), .fn f [] []]) [] (eB (ps.any g)) []:=by
 (refine T.h [] [] [.t 4] Tryz.func127 rfl rfl (by kernel_rfl) fun X hX hP hC aA bB=> ?_)
 repeat' (first|refine Rn.p ?_|((first|refine Rs.p ?_|refine Hd.mk ?_|refine aa (zA _ _ hf _ hl) rfl ?_);try simp only[go_sem,simprocAttr]))
 rw[<- cT]
theorem sC(ps:List Pt)(hl:ps.length<=9223372036854775806):Spec Tryz.prog 115 (Args [.d (.sl 2 (ps.map rP))]) [] (eB (!ps.any nF)) []:=by
 (refine T.h [] [] [.t 2] Tryz.func115 rfl rfl (by kernel_rfl) fun X hX hP hC aA bB=> ?_)
 repeat' (first|refine Rn.p ?_|((first|refine Rs.p ?_|refine Hd.mk ?_|refine aa (uK _ _ Mx _ hl) rfl ?_);try simp only[go_sem,simprocAttr]))
instance (p:Pt):Decidable (bC p):=by unfold bC;infer_instance
theorem sD(p:Pt):nF p= !decide (bC p):=by
 by_cases h:bC p
 ·rw[ac7 h]
  simp only[bC]at h
  simp only[nF,Int.max_def,Int.min_def,aeu,aeq,adM]
  split<;>omega
 ·rw[ac6 h]
  simp only[bC]at h
  simp only[nF,Int.max_def,Int.min_def,aft,adL,ade]
  split<;>omega
theorem KC(ps:List Pt):(!ps.any nF)=decide (∀p∈ps,bC p):=by
 rw[ad1];simp[sD]
theorem PC(ps:List Pt)(hl:ps.length<=9223372036854775806)(h:∀p∈ps,bC p):Spec Tryz.prog 115 (Args [.d (.sl 2 (ps.map rP))]) [] (eB true) []:=by
 have:=sC ps hl
 rw[KC,ac7 h]at this
 exact this
theorem KE(ps:List Pt)(hl:ps.length<=9223372036854775806)(h:¬∀p∈ps,bC p):Spec Tryz.prog 115 (Args [.d (.sl 2 (ps.map rP))]) [] (eB false) []:=by
 have:=sC ps hl
 rw[KC,ac6 h]at this
 exact this
theorem SB(a b c:Pt)(ha:bC a)(hb:bC b)(hc:bC c):Spec Tryz.prog 115 (Args [.d (.sl 2 ([a,b,c].map rP))]) [] (eB true) []:=PC _ (by simp) (by simp[ha,hb,hc])
theorem SC(a b c d:Pt)(ha:bC a)(hb:bC b)(hc:bC c)(hd:bC d):Spec Tryz.prog 115 (Args [.d (.sl 2 ([a,b,c,d].map rP))]) [] (eB true) []:=PC _ (by simp) (by simp[ha,hb,hc,hd])
theorem PD(a b c:Pt)(h:¬(bC a/\bC b/\bC c)):Spec Tryz.prog 115 (Args [.d (.sl 2 ([a,b,c].map rP))]) [] (eB false) []:=KE _ (by simp) (by simpa using h)
theorem PE(a b c d:Pt)(h:¬(bC a/\bC b/\bC c/\bC d)):Spec Tryz.prog 115 (Args [.d (.sl 2 ([a,b,c,d].map rP))]) [] (eB false) []:=KE _ (by simp) (by simpa using h)
def abT(a b c:Pt):Int:=if bC a/\bC b/\bC c then sd a b c else 0
def nG(a b c:Pt):Bool:=decide (bC a/\bC b/\bC c)&&iz a b c
theorem Eu(a b c:Pt):Spec Tryz.prog 126 (Args [eP a,eP b,eP c]) [] (eB (nG a b c)) []:=by
 by_cases hin:bC a/\bC b/\bC c
 ·obtain⟨ha,hb,hc⟩:=hin
  (refine T.h [] [] [.t 6] Tryz.func126 rfl rfl (by kernel_rfl) fun X hX hP hC aA bB=> ?_)
  repeat' (first|refine Rn.p ?_|((first|refine Rs.p ?_|refine Hd.mk ?_|refine aa (vW _ _ _ (by assumption) (by assumption) (by assumption)) rfl ?_|(refine dN (SB a b c (by assumption) (by assumption) (by assumption)) ?_ rfl ?_;(focus(simp only[go_sem,simprocAttr];done))));try simp only[go_sem,simprocAttr]))
  all_goals simp[nG,ha,hb,hc]
 ·(refine T.h [] [] [.t 6] Tryz.func126 rfl rfl (by kernel_rfl) fun X hX hP hC aA bB=> ?_)
  repeat' (first|refine Rn.p ?_|((first|refine Rs.p ?_|refine Hd.mk ?_|(refine dN (PD a b c (by assumption)) ?_ rfl ?_;(focus(simp only[go_sem,simprocAttr];done))));try simp only[go_sem,simprocAttr]))
  all_goals rw[nG,ac6 hin];rfl
theorem Vp{p:Prop}[Decidable p]{b:Bool}(h:b=true↔p):b=decide p:=by
 by_cases hp:p
 ·rw[ac7 hp];exact h.2 hp
 ·rw[ac6 hp]
  cases b with
  |true=>exact absurd (h.1 rfl) hp
  |false=>rfl
theorem pL(p:Pt):Spec Tryz.prog 108 (Args [eP p]) [] (eB (decide (bC p))) []:=by
 (refine T.h [] [] [.t 2] Tryz.func108 rfl rfl (by kernel_rfl) fun X hX hP hC aA bB=> ?_)
 repeat' (first|refine Rn.p ?_|((first|refine Rs.p ?_|refine Hd.mk ?_);try simp only[go_sem,simprocAttr])|with_reducible (first|apply And.intro|(intro h;try simp only[go_sem,simprocAttr]at h)))
 all_goals(refine Vp ?_;simp only[bC,ade,aed,false_iff];omega)
theorem iG(p:Pt)(h:bC p):Spec Tryz.prog 108 (Args [eP p]) [] (eB true) []:=by
 have:=pL p;rwa [ac7 h]at this
theorem fU(p:Pt)(h:¬bC p):Spec Tryz.prog 108 (Args [eP p]) [] (eB false) []:=by
 have:=pL p;rwa [ac6 h]at this
theorem My(n:Int):Spec Tryz.prog 158 (Args [eN n]) [] (eN (jh n 0)) []:=by
 (refine T.h [] [] [.t 2] Tryz.func158 rfl rfl (by kernel_rfl) fun X hX hP hC aA bB=> ?_)
 repeat' (first|refine Rn.p ?_|((first|refine Rs.p ?_|refine Hd.mk ?_);try simp only[go_sem,simprocAttr])|with_reducible (first|apply And.intro|(intro h;try simp only[go_sem,simprocAttr]at h)))
 all_goals(unfold jh;repeat' split)<;>omega
def ai(a b c:Pt):Int:=a.1*b.2 - a.2*b.1+b.1*c.2 - b.2*c.1+c.1*a.2 - c.2*a.1
theorem C9(a b c:Pt)(ha:bC a)(hb:bC b)(hc:bC c):Spec Tryz.prog 157 (Args [eP a,eP b,eP c]) [] (eN (ai a b c)) []:=by
 (refine T.h [] [] [.t 6] Tryz.func157 rfl rfl (by kernel_rfl) fun X hX hP hC aA bB=> ?_)
 have m1:=qu ha.1 hb.2
 have m2:=qu ha.2 hb.1
 have m3:=qu hb.1 hc.2
 have m4:=qu hb.2 hc.1
 have m5:=qu hc.1 ha.2
 have m6:=qu hc.2 ha.1
 repeat' (first|refine Rn.p ?_|((first|refine Rs.p ?_|refine Hd.mk ?_);try simp only[go_sem,simprocAttr])|with_reducible (apply And.intro)|omega)
 all_goals rfl
def an(a b p:Pt):Int:=(p.1 - a.1)*(b.1 - a.1)+(p.2 - a.2)*(b.2 - a.2)
theorem IM(a b c:Pt)(ha:bC a)(hb:bC b)(hc:bC c):Spec Tryz.prog 159 (Args [eP a,eP b,eP c]) [] (eN (an a b c)) []:=by
 (refine T.h [] [] [.t 6] Tryz.func159 rfl rfl (by kernel_rfl) fun X hX hP hC aA bB=> ?_)
 simp only[bC]at ha hb hc
 have m1:=qu (x:=c.1 - a.1) (y:=b.1 - a.1) (m:=524288) (n:=524288) (by omega) (by omega)
 have m2:=qu (x:=c.2 - a.2) (y:=b.2 - a.2) (m:=524288) (n:=524288) (by omega) (by omega)
 repeat' (first|refine Rn.p ?_|((first|refine Rs.p ?_|refine Hd.mk ?_);try simp only[go_sem,simprocAttr])|with_reducible (apply And.intro)|omega)
 all_goals rfl
def Gq(a b c:Pt):Int:=if bC a/\bC b/\bC c then jh (ai a b c) 0 else 0
def nH(a b c:Pt):Bool:=decide (bC a/\bC b/\bC c)&&(decide (ai a b c=0)&&decide ((a.1 - c.1)*(b.1 - c.1)+(a.2 - c.2)*(b.2 - c.2)<=0))
theorem Bc(a b c:Pt):Spec Tryz.prog 109 (Args [eP a,eP b,eP c]) [] (eB (nH a b c)) []:=by
 by_cases ha:bC a
 ·by_cases hb:bC b
  ·by_cases hc:bC c
   ·(refine T.h [] [] [.t 6] Tryz.func109 rfl rfl (by kernel_rfl) fun X hX hP hC aA bB=> ?_)
    have i1:=ha
    have i2:=hb
    have i3:=hc
    simp only[bC]at i1 i2 i3
    have m1:=qu (x:=a.1 - c.1) (y:=b.1 - c.1) (m:=524288) (n:=524288) (by omega) (by omega)
    have m2:=qu (x:=a.2 - c.2) (y:=b.2 - c.2) (m:=524288) (n:=524288) (by omega) (by omega)
    repeat' (first|refine Rn.p ?_|((first|refine Rs.p ?_|refine Hd.mk ?_|refine aa (iG _ (by assumption)) rfl ?_|refine aa (C9 _ _ _ (by assumption) (by assumption) (by assumption)) rfl ?_);try simp only[go_sem,simprocAttr])|with_reducible (first|apply And.intro|(intro h;try simp only[go_sem,simprocAttr]at h))|omega)
    all_goals simp_all[nH]
   ·(refine T.h [] [] [.t 6] Tryz.func109 rfl rfl (by kernel_rfl) fun X hX hP hC aA bB=> ?_)
    repeat' (first|refine Rn.p ?_|((first|refine Rs.p ?_|refine Hd.mk ?_|refine aa (iG _ (by assumption)) rfl ?_|refine aa (fU _ (by assumption)) rfl ?_);try simp only[go_sem,simprocAttr]))
    all_goals simp[nH,ha,hb,hc]
  ·(refine T.h [] [] [.t 6] Tryz.func109 rfl rfl (by kernel_rfl) fun X hX hP hC aA bB=> ?_)
   repeat' (first|refine Rn.p ?_|((first|refine Rs.p ?_|refine Hd.mk ?_|refine aa (iG _ (by assumption)) rfl ?_|refine aa (fU _ (by assumption)) rfl ?_);try simp only[go_sem,simprocAttr]))
   all_goals simp[nH,ha,hb]
 ·(refine T.h [] [] [.t 6] Tryz.func109 rfl rfl (by kernel_rfl) fun X hX hP hC aA bB=> ?_)
  repeat' (first|refine Rn.p ?_|((first|refine Rs.p ?_|refine Hd.mk ?_|refine aa (fU _ (by assumption)) rfl ?_);try simp only[go_sem,simprocAttr]))
  all_goals simp[nH,ha]
def Ud:OT:=(.br 0 (.br 1 (.br 2 (.br 3 (.br 4 (.br 5 (.br 6 .nil .nil) .nil) .nil) (.br 4 (.br 3 (.br 5 (.br 6 .nil .nil) .nil) (.br 5 (.br 3 (.br 6 .nil .nil) .nil) .nil)) .nil)) (.br 4 (.br 2 (.br 3 (.br 5 (.br 6 .nil .nil) .nil) (.br 5 (.br 3 (.br 6 .nil .nil) .nil) .nil)) (.br 5 (.br 2 (.br 3 (.br 6 .nil .nil) .nil) .nil) .nil)) .nil)) .nil) (.br 1 (.br 0 (.br 2 (.br 3 (.br 4 (.br 5 (.br 6 .nil .nil) .nil) .nil) (.br 4 (.br 3 (.br 5 (.br 6 .nil .nil) .nil) (.br 5 (.br 3 (.br 6 .nil .nil) .nil) .nil)) .nil)) (.br 4 (.br 2 (.br 3 (.br 5 (.br 6 .nil .nil) .nil) (.br 5 (.br 3 (.br 6 .nil .nil) .nil) .nil)) (.br 5 (.br 2 (.br 3 (.br 6 .nil .nil) .nil) .nil) .nil)) .nil)) .nil) .nil))
theorem qS(n:Int): -1<=jh n 0/\jh n 0<=1:=by unfold jh;repeat' split<;>omega
def jk(a b c d:Pt):Int:=
 if bC a/\bC b/\bC c/\bC d then
  if a=b then(if nH c d a=true then 1 else 0)
  else if c=d then(if nH a b c=true then 1 else 0)
  else if jh (ai a b c) 0=0/\jh (ai a b d) 0=0 then
   let lo:=max (an a b a) (min (an a b c) (an a b d))
   let hi:=min (an a b b) (max (an a b c) (an a b d))
   if hi<lo then 0 else if lo=hi then 1 else 2
  else if jh (ai a b c) 0*jh (ai a b d) 0<=0/\jh (ai c d a) 0*jh (ai c d b) 0<=0 then 1 else 0
 else 0
theorem Ev(a b c d:Pt):Spec Tryz.prog 110 (Args [eP a,eP b,eP c,eP d]) [] (eN (jk a b c d)) []:=by
 by_cases ha:bC a
 ·by_cases hb:bC b
  ·by_cases hc:bC c
   ·by_cases hd:bC d
    ·(refine T.h [] [] [.t 8] Tryz.func110 rfl rfl (by kernel_rfl) fun X hX hP hC aA bB=> ?_)
     have m1:=qu (qS (ai a b c)) (qS (ai a b d))
     have m2:=qu (qS (ai c d a)) (qS (ai c d b))
     repeat' (first|refine Rn.p ?_|((first|refine Rs.p ?_|refine Hd.mk ?_|refine aa (iG _ (by assumption)) rfl ?_|refine aa (My _) rfl ?_|refine aa (C9 _ _ _ (by assumption) (by assumption) (by assumption)) rfl ?_|refine aa (IM _ _ _ (by assumption) (by assumption) (by assumption)) rfl ?_|refine aa (Bc _ _ _) rfl ?_);try simp only[go_sem,simprocAttr])|with_reducible (first|apply And.intro|refine oD (by kernel_rfl) ?_|(intro h;try simp only[go_sem,simprocAttr]at h))|omega)
     all_goals simp only[jk,ha,hb,hc,hd,and_self,if_true,Prod.ext_iff]
     all_goals clear hX aA hP hC bB X
     all_goals grind
    ·(refine T.h [] [] [.t 8] Tryz.func110 rfl rfl (by kernel_rfl) fun X hX hP hC aA bB=> ?_)
     repeat' (first|refine Rn.p ?_|((first|refine Rs.p ?_|refine Hd.mk ?_|refine aa (iG _ (by assumption)) rfl ?_|refine aa (fU _ (by assumption)) rfl ?_);try simp only[go_sem,simprocAttr]))
     all_goals simp[jk,hd]
   ·(refine T.h [] [] [.t 8] Tryz.func110 rfl rfl (by kernel_rfl) fun X hX hP hC aA bB=> ?_)
    repeat' (first|refine Rn.p ?_|((first|refine Rs.p ?_|refine Hd.mk ?_|refine aa (iG _ (by assumption)) rfl ?_|refine aa (fU _ (by assumption)) rfl ?_);try simp only[go_sem,simprocAttr]))
    all_goals simp[jk,hc]
  ·(refine T.h [] [] [.t 8] Tryz.func110 rfl rfl (by kernel_rfl) fun X hX hP hC aA bB=> ?_)
   repeat' (first|refine Rn.p ?_|((first|refine Rs.p ?_|refine Hd.mk ?_|refine aa (iG _ (by assumption)) rfl ?_|refine aa (fU _ (by assumption)) rfl ?_);try simp only[go_sem,simprocAttr]))
   all_goals simp[jk,hb]
 ·(refine T.h [] [] [.t 8] Tryz.func110 rfl rfl (by kernel_rfl) fun X hX hP hC aA bB=> ?_)
  repeat' (first|refine Rn.p ?_|((first|refine Rs.p ?_|refine Hd.mk ?_|refine aa (fU _ (by assumption)) rfl ?_);try simp only[go_sem,simprocAttr]))
  all_goals simp[jk,ha]
theorem mval_touch(es:List (List Int × Int))(k:List Int):gO (eH es k) k=gO es k:=by
 unfold eH
 cases h:cA es k with
 |some i=>rfl
 |none=>
  have hn:=lR h
  have:cA (es++ [(k,0)]) k=some es.length:=by
   unfold cA
   rw[aen]
   refine⟨by simp,by simp,fun j hj=> ?_⟩
   rw[List.getElem_append_left hj]
   have:=hn es[j] (ad3 hj)
   simpa using fun e=>this e.symm
  simp[gO,h,this]
theorem sF(es:List (List Int × Int))(k:List Int):jF es k<(eH es k).length:=by
 unfold jF eH
 cases h:cA es k with
 |some i=>
  obtain⟨p,hp,_⟩:=fQ h
  exact(adi.1 hp).1
 |none=>simp
def bump(es:List (List Int × Int))(k:List Int):List (List Int × Int):=mL (eH es k) (jF es k) (gO es k+1)
theorem Mz(es:List (List Int × Int))(i:Nat)(v:Int):(mL es i v).map (·.1)=es.map (·.1):=by
 apply adZ
 intro j
 rw[adn,adn]
 unfold mL
 rw[afg]
 split<;>cases es[j]? <;>rfl
def CE(p:Pt)(ks:List (List Int)):List (List Int):=if [p.1,p.2]∈ks then ks else ks++ [[p.1,p.2]]
theorem sG(es:List (List Int × Int))(p:Pt):(bump es [p.1,p.2]).map (·.1)=CE p (es.map (·.1)):=by
 unfold bump CE
 rw[Mz]
 unfold eH
 cases h:cA es [p.1,p.2]with
 |some i=>
  obtain⟨q,hq,hk⟩:=fQ h
  have: [p.1,p.2]∈es.map (·.1):=adb.2 ⟨q,adN hq,hk⟩
  rw[ada this]
 |none=>
  have: [p.1,p.2]∉es.map (·.1):=fun hm=>by
   obtain⟨q,hq,hk⟩:=adb.1 hm
   exact lR h q hq hk
  rw[ac8 this];simp
def BE(n:Int)(es:List (List Int × Int)):Prop:=∀p∈es,0<=p.2/\p.2<=n
theorem Bd{n:Int}(hn:0<=n){es:List (List Int × Int)}(h:BE n es)(k:List Int):0<=gO es k/\gO es k<=n:=by
 unfold gO
 cases hf:cA es k with
 |none=>simp[hn]
 |some i=>
  obtain⟨p,hp,_⟩:=fQ hf
  simp only[hp,Option.map_some,Option.getD_some]
  exact h p (adN hp)
theorem Ew{n:Int}(hn:0<=n){es:List (List Int × Int)}(h:BE n es)(k:List Int):BE (n+1) (bump es k):=by
 intro p hp
 have hv:=Bd hn h k
 have ht:BE n (eH es k):=by
  unfold eH
  split
  ·exact h
  ·intro q hq
   rcases ac9.1 hq with hq|hq
   ·exact h q hq
   ·simp at hq;subst hq;simp[hn]
 obtain⟨j,hj⟩:=aej.1 hp
 unfold bump mL at hj
 rw[afg]at hj
 split at hj
 ·simp only[Option.map_eq_map,aea]at hj
  obtain⟨q,hq,rfl⟩:=hj
  constructor<;>simp only<;>omega
 ·have:=ht p (adN (by simpa using hj))
  omega
attribute [go_sem] mval_touch
def K1(a _b c d:Pt):List (List Int):=if iz c d a=true then CE a [] else []
def K2(a b c d:Pt):List (List Int):=if iz c d b=true then CE b (K1 a b c d) else K1 a b c d
def K3(a b c d:Pt):List (List Int):=if iz a b c=true then CE c (K2 a b c d) else K2 a b c d
def K4(a b c d:Pt):List (List Int):=if iz a b d=true then CE d (K3 a b c d) else K3 a b c d
def fF(a b c d:Pt):Int:=
 if bC a/\bC b/\bC c/\bC d then
  if 0<(K4 a b c d).length then min ((K4 a b c d).length:Int) 2
  else if sd a b c*sd a b d<0/\sd c d a*sd c d b<0 then 1 else 0
 else 0
def RS(A B C:List (List Int))(p:Nat × List (List Int × Int))(n:Int):Prop:=
 (p.1=0/\p.2.map (·.1)=A/\BE n p.2)\/(p.1=1/\p.2.map (·.1)=B/\BE (n+1) p.2)\/(p.1=2/\p.2.map (·.1)=C/\BE (n+2) p.2)
def bx(p:Pt):AObj:= .box [.d (.sc (.int .i64 p.1)), .d (.sc (.int .i64 p.2))]
attribute [go_sem] bx
def st1(a b c d:Pt)(i:Nat × List (List Int × Int)):ASt:=
 ⟨[(9, .mref 21),(4, .ptr 4 0),(5, .ptr 5 0),(6, .ptr 6 0),(7, .ptr 7 0),(24, .agg [eN a.1,eN a.2,eN b.1,eN b.2]),(25,eN i.1)],
   [(4,bx a),(5,bx b),(6,bx c),(7,bx d),(21, .mp 2 i.2)]⟩
def st2(a b c d:Pt)(i:Nat × List (List Int × Int)):ASt:=
 ⟨[(9, .mref 21),(4, .ptr 4 0),(5, .ptr 5 0),(6, .ptr 6 0),(7, .ptr 7 0),(41, .agg [eN c.1,eN c.2,eN d.1,eN d.2]),(42,eN i.1)],
   [(4,bx a),(5,bx b),(6,bx c),(7,bx d),(21, .mp 2 i.2)]⟩
theorem SD(a b c d:Pt)(ha:bC a)(hb:bC b)(hc:bC c)(hd:bC d):Spec Tryz.prog 124 (Args [eP a,eP b,eP c,eP d]) [] (eN (fF a b c d)) []:=by
 (refine T.h [] [] [.t 8] Tryz.func124 rfl rfl (by kernel_rfl) fun X hX hP hC aA bB=> ?_)
 repeat' (first|refine Rn.p ?_|((first|refine Rs.p ?_|refine Hd.mk ?_|(refine dN (SC a b c d (by assumption) (by assumption) (by assumption) (by assumption)) ?_ rfl ?_;(focus(simp only[go_sem,simprocAttr];done))));try simp only[go_sem,simprocAttr]))
 refine ag (fun i:Nat × List (List Int × Int)=>RS [] (K1 a b c d) (K2 a b c d) i 0) (st1 a b c d) (fun i=>2 - i.1) (0, []) (.inl ⟨rfl,rfl,by simp[BE]⟩) ?_ ?_
 ·refine Le.of ?_ ?_<;>simp[go_sem,simprocAttr,st1]
 rintro⟨k,es⟩ (⟨hk,hks,j9⟩|⟨hk,hks,j9⟩|⟨hk,hks,j9⟩)<;>simp only at hk hks j9<;>subst hk<;>simp only[st1]
 ·have hv:=Bd (by omega) j9 [a.1,a.2]
  have hs:=sF es [a.1,a.2]
  have hb2:=Ew (by omega) j9 [a.1,a.2]
  have hk2:=sG es a
  repeat' (first|((with_reducible refine vO hX hC aA Ud (by kernel_rfl) ?_);simp only[Ud])|refine Rn.p ?_|((first|refine Rs.p ?_|refine Hd.mk ?_|refine aa (vW _ _ _ (by assumption) (by assumption) (by assumption)) rfl ?_);try simp only[go_sem,simprocAttr])|with_reducible (first|apply And.intro|(intro h;try simp only[go_sem,simprocAttr]at h))|omega)
  all_goals first
   |(refine⟨(1,bump es [a.1,a.2]), .inr (.inl ⟨rfl,by rw[hk2,hks];simp only[K1,ada h],by simpa using hb2⟩),Le.of ?_ ?_,by simp⟩<;>simp[go_sem,simprocAttr,bump];done)
   |(refine⟨(1,es), .inr (.inl ⟨rfl,by rw[hks];simp[K1,h],fun p hp=>by have:=j9 p hp;omega⟩),Le.of ?_ ?_,by simp⟩<;>simp[go_sem,simprocAttr];done)
 ·have hv:=Bd (by omega) j9 [b.1,b.2]
  have hs:=sF es [b.1,b.2]
  have hb2:=Ew (by omega) j9 [b.1,b.2]
  have hk2:=sG es b
  repeat' (first|((with_reducible refine vO hX hC aA Ud (by kernel_rfl) ?_);simp only[Ud])|refine Rn.p ?_|((first|refine Rs.p ?_|refine Hd.mk ?_|refine aa (vW _ _ _ (by assumption) (by assumption) (by assumption)) rfl ?_);try simp only[go_sem,simprocAttr])|with_reducible (first|apply And.intro|(intro h;try simp only[go_sem,simprocAttr]at h))|omega)
  all_goals first
   |(refine⟨(2,bump es [b.1,b.2]), .inr (.inr ⟨rfl,by rw[hk2,hks];simp only[K2,ada h],by simpa using hb2⟩),Le.of ?_ ?_,by simp⟩<;>simp[go_sem,simprocAttr,bump];done)
   |(refine⟨(2,es), .inr (.inr ⟨rfl,by rw[hks];simp[K2,h],fun p hp=>by have:=j9 p hp;omega⟩),Le.of ?_ ?_,by simp⟩<;>simp[go_sem,simprocAttr];done)
 ·repeat' (first|refine Rn.p ?_|((first|refine Rs.p ?_|refine Hd.mk ?_);try simp only[go_sem,simprocAttr]))
  refine ag (fun i:Nat × List (List Int × Int)=>RS (K2 a b c d) (K3 a b c d) (K4 a b c d) i 2) (st2 a b c d) (fun i=>2 - i.1) (0,es) (.inl ⟨rfl,hks,by simpa using j9⟩) ?_ ?_
  ·refine Le.of ?_ ?_<;>simp[go_sem,simprocAttr,st2]
  clear hks j9 es
  rintro⟨k,es⟩ (⟨hk,hks,j9⟩|⟨hk,hks,j9⟩|⟨hk,hks,j9⟩)<;>simp only at hk hks j9<;>subst hk<;>simp only[st2]
  ·have hv:=Bd (by omega) j9 [c.1,c.2]
   have hs:=sF es [c.1,c.2]
   have hb2:=Ew (by omega) j9 [c.1,c.2]
   have hk2:=sG es c
   repeat' (first|((with_reducible refine vO hX hC aA Ud (by kernel_rfl) ?_);simp only[Ud])|refine Rn.p ?_|((first|refine Rs.p ?_|refine Hd.mk ?_|refine aa (vW _ _ _ (by assumption) (by assumption) (by assumption)) rfl ?_);try simp only[go_sem,simprocAttr])|with_reducible (first|apply And.intro|(intro h;try simp only[go_sem,simprocAttr]at h))|omega)
   all_goals first
    |(refine⟨(1,bump es [c.1,c.2]), .inr (.inl ⟨rfl,by rw[hk2,hks];simp only[K3,ada h],by simpa using hb2⟩),Le.of ?_ ?_,by simp⟩<;>simp[go_sem,simprocAttr,bump];done)
    |(refine⟨(1,es), .inr (.inl ⟨rfl,by rw[hks];simp[K3,h],fun p hp=>by have:=j9 p hp;omega⟩),Le.of ?_ ?_,by simp⟩<;>simp[go_sem,simprocAttr];done)
  ·have hv:=Bd (by omega) j9 [d.1,d.2]
   have hs:=sF es [d.1,d.2]
   have hb2:=Ew (by omega) j9 [d.1,d.2]
   have hk2:=sG es d
   repeat' (first|((with_reducible refine vO hX hC aA Ud (by kernel_rfl) ?_);simp only[Ud])|refine Rn.p ?_|((first|refine Rs.p ?_|refine Hd.mk ?_|refine aa (vW _ _ _ (by assumption) (by assumption) (by assumption)) rfl ?_);try simp only[go_sem,simprocAttr])|with_reducible (first|apply And.intro|(intro h;try simp only[go_sem,simprocAttr]at h))|omega)
   all_goals first
    |(refine⟨(2,bump es [d.1,d.2]), .inr (.inr ⟨rfl,by rw[hk2,hks];simp only[K4,ada h],by simpa using hb2⟩),Le.of ?_ ?_,by simp⟩<;>simp[go_sem,simprocAttr,bump];done)
    |(refine⟨(2,es), .inr (.inr ⟨rfl,by rw[hks];simp[K4,h],fun p hp=>by have:=j9 p hp;omega⟩),Le.of ?_ ?_,by simp⟩<;>simp[go_sem,simprocAttr];done)
  ·have hlen:(es.length:Int)=((K4 a b c d).length:Int):=by rw[<- hks,ado]
   have m1: -(1*1)<=sd a b c*sd a b d/\sd a b c*sd a b d<=1*1:=qu (qS _) (qS _)
   have m2: -(1*1)<=sd c d a*sd c d b/\sd c d a*sd c d b<=1*1:=qu (qS _) (qS _)
   repeat' (first|refine Rn.p ?_|((first|refine Rs.p ?_|refine Hd.mk ?_|refine aa (C8 _ _ _ (by assumption) (by assumption) (by assumption)) rfl ?_);try simp only[go_sem,simprocAttr])|with_reducible (first|apply And.intro|refine oD (by kernel_rfl) ?_|(intro h;try simp only[go_sem,simprocAttr]at h))|omega)
   all_goals clear hX aA hP hC bB X hks j9 m1 m2
   all_goals simp only[fF,ha,hb,hc,hd,and_self,if_true, <- hlen]
   all_goals grind
end Go.Ab
end
