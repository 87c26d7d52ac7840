/- A part of the proof. -/
import Derived.Test.YtameldglfobjkaaGreatProg
import Derived.Test.YtameldglfobjkaaGreatL6P14
set_option linter.unusedSimpArgs false
set_option linter.unusedVariables false
section
namespace Go.Ab.T
open Go.Proofs
abbrev r2:TI:=⟨(.int .i64),1,8, [(.d (.sc (.int .i64 0)))]⟩
abbrev r3:TI:=⟨(.int .i64),1,8, [(.d (.sc (.int .i64 0)))]⟩
abbrev r4:TI:=⟨.bool,1,1, [(.d (.sc (.bool false)))]⟩
abbrev r5:TI:=⟨(.int .u8),1,1, [(.d (.sc (.int .u8 0)))]⟩
abbrev r9:TI:=⟨.sc,1,16, [(.d (.sc (.string ⟨#[]⟩)))]⟩
abbrev r12:TI:=⟨(.int .u64),1,8, [(.d (.sc (.int .u64 0)))]⟩
abbrev r21:TI:=⟨(.int .i32),1,4, [(.d (.sc (.int .i32 0)))]⟩
abbrev r22:TI:=⟨(.sl 56),1,24, [(.nil 56)]⟩
abbrev r24:TI:=⟨(.st [(0,3),(1,22)]),2,32, [(.d (.sc (.int .i64 0))),(.nil 56)]⟩
abbrev r25:TI:=⟨(.sl 3),1,24, [(.nil 3)]⟩
abbrev r26:TI:=⟨(.sl 25),1,24, [(.nil 25)]⟩
abbrev r28:TI:=⟨(.st [(0,25),(1,26)]),2,48, [(.nil 3),(.nil 25)]⟩
abbrev r32:TI:=⟨(.st [(0,25),(1,25),(2,25),(3,25)]),4,96, [(.nil 3),(.nil 3),(.nil 3),(.nil 3)]⟩
abbrev r33:TI:=⟨(.int .i64),1,8, [(.d (.sc (.int .i64 0)))]⟩
abbrev r36:TI:=⟨(.sl 25),1,24, [(.nil 25)]⟩
abbrev r42:TI:=⟨(.st [(0,25),(1,25),(2,25),(3,25)]),4,96, [(.nil 3),(.nil 3),(.nil 3),(.nil 3)]⟩
abbrev r45:TI:=⟨(.mp 3 3),1,8, [(.d (.sc (.map none)))]⟩
abbrev r47:TI:=⟨(.sl 54),1,24, [(.nil 54)]⟩
abbrev r48:TI:=⟨(.sl 47),1,24, [(.nil 47)]⟩
abbrev r50:TI:=⟨(.st [(0,47),(1,48)]),2,48, [(.nil 54),(.nil 47)]⟩
abbrev r54:TI:=⟨(.st [(0,3),(1,3)]),2,16, [(.d (.sc (.int .i64 0))),(.d (.sc (.int .i64 0)))]⟩
abbrev r56:TI:=⟨(.st [(0,3),(1,3)]),2,16, [(.d (.sc (.int .i64 0))),(.d (.sc (.int .i64 0)))]⟩
abbrev r60:TI:=⟨.sc,1,8, [(.d (.sc .nilFunc))]⟩
abbrev r64:TI:=⟨(.st [(0,33),(1,3),(2,25)]),3,40, [(.d (.sc (.int .i64 0))),(.d (.sc (.int .i64 0))),(.nil 3)]⟩
abbrev r72:TI:=⟨(.st [(0,25),(1,25),(2,25),(3,25)]),4,96, [(.nil 3),(.nil 3),(.nil 3),(.nil 3)]⟩
abbrev r77:TI:=⟨(.sl 78),1,24, [(.nil 78)]⟩
abbrev r78:TI:=⟨(.sl 92),1,24, [(.nil 92)]⟩
abbrev r81:TI:=⟨(.pt 146),1,8, [(.d (.sc (.pointer none)))]⟩
abbrev r84:TI:=⟨(.pt 86),1,8, [(.d (.sc (.pointer none)))]⟩
abbrev r86:TI:=⟨(.st [(0,25),(1,25),(2,32)]),6,144, [(.nil 3),(.nil 3),(.nil 3),(.nil 3),(.nil 3),(.nil 3)]⟩
abbrev r92:TI:=⟨(.st [(0,3),(1,3),(2,3)]),3,24, [(.d (.sc (.int .i64 0))),(.d (.sc (.int .i64 0))),(.d (.sc (.int .i64 0)))]⟩
abbrev r107:TI:=⟨(.pt 113),1,8, [(.d (.sc (.pointer none)))]⟩
abbrev r113:TI:=⟨(.st [(0,24),(2,28),(4,45)]),5,88, [(.d (.sc (.int .i64 0))),(.nil 56),(.nil 3),(.nil 25),(.d (.sc (.map none)))]⟩
abbrev r119:TI:=⟨(.pt 121),1,8, [(.d (.sc (.pointer none)))]⟩
abbrev r121:TI:=⟨(.st [(0,24),(2,50)]),4,80, [(.d (.sc (.int .i64 0))),(.nil 56),(.nil 54),(.nil 47)]⟩
abbrev r134:TI:=⟨(.pt 144),1,8, [(.d (.sc (.pointer none)))]⟩
abbrev r142:TI:=⟨(.st [(0,78)]),1,24, [(.nil 92)]⟩
abbrev r144:TI:=⟨(.st [(0,142),(1,81),(2,25)]),3,56, [(.nil 92),(.d (.sc (.pointer none))),(.nil 3)]⟩
abbrev r146:TI:=⟨(.st [(0,24),(2,26),(3,26)]),4,80, [(.d (.sc (.int .i64 0))),(.nil 56),(.nil 25),(.nil 25)]⟩
abbrev r154:TI:=⟨(.pt 156),1,8, [(.d (.sc (.pointer none)))]⟩
abbrev r156:TI:=⟨(.st [(0,24),(2,28)]),4,80, [(.d (.sc (.int .i64 0))),(.nil 56),(.nil 3),(.nil 25)]⟩
abbrev r174:TI:=⟨(.sl 176),1,24, [(.nil 176)]⟩
abbrev r176:TI:=⟨(.st [(0,54),(2,54)]),4,32, [(.d (.sc (.int .i64 0))),(.d (.sc (.int .i64 0))),(.d (.sc (.int .i64 0))),(.d (.sc (.int .i64 0)))]⟩
abbrev r184:TI:=⟨(.int .u64),1,8, [(.d (.sc (.int .u64 0)))]⟩
abbrev r185:TI:=⟨(.pt 187),1,8, [(.d (.sc (.pointer none)))]⟩
abbrev r187:TI:=⟨(.st [(0,24),(2,78),(3,25)]),4,80, [(.d (.sc (.int .i64 0))),(.nil 56),(.nil 92),(.nil 3)]⟩
abbrev r198:TI:=⟨(.pt 142),1,8, [(.d (.sc (.pointer none)))]⟩
abbrev r204:TI:=⟨(.sl 208),1,24, [(.nil 208)]⟩
abbrev r207:TI:=⟨(.int .u64),1,8, [(.d (.sc (.int .u64 0)))]⟩
abbrev r208:TI:=⟨(.int .u64),1,8, [(.d (.sc (.int .u64 0)))]⟩
abbrev r221:TI:=⟨(.ar 2 3),2,16, [(.d (.sc (.int .i64 0))),(.d (.sc (.int .i64 0)))]⟩
abbrev r222:TI:=⟨(.mp 54 3),1,8, [(.d (.sc (.map none)))]⟩
abbrev r223:TI:=⟨(.ar 2 54),4,32, [(.d (.sc (.int .i64 0))),(.d (.sc (.int .i64 0))),(.d (.sc (.int .i64 0))),(.d (.sc (.int .i64 0)))]⟩
abbrev r226:TI:=⟨(.int .i64),1,8, [(.d (.sc (.int .i64 0)))]⟩
abbrev r233:TI:=⟨(.int .u32),1,4, [(.d (.sc (.int .u32 0)))]⟩
abbrev r239:TI:=⟨(.sl 4),1,24, [(.nil 4)]⟩
abbrev r241:TI:=⟨(.int .u64),1,8, [(.d (.sc (.int .u64 0)))]⟩
abbrev r245:TI:=⟨(.pt 3),1,8, [(.d (.sc (.pointer none)))]⟩
abbrev r252:TI:=⟨(.pt 241),1,8, [(.d (.sc (.pointer none)))]⟩
abbrev r273:TI:=⟨(.pt 5),1,8, [(.d (.sc (.pointer none)))]⟩
def T:Nat->Option TI
 |2=>some r2
 |3=>some r3
 |4=>some r4
 |5=>some r5
 |9=>some r9
 |12=>some r12
 |21=>some r21
 |22=>some r22
 |24=>some r24
 |25=>some r25
 |26=>some r26
 |28=>some r28
 |32=>some r32
 |33=>some r33
 |36=>some r36
 |42=>some r42
 |45=>some r45
 |47=>some r47
 |48=>some r48
 |50=>some r50
 |54=>some r54
 |56=>some r56
 |60=>some r60
 |64=>some r64
 |72=>some r72
 |77=>some r77
 |78=>some r78
 |81=>some r81
 |84=>some r84
 |86=>some r86
 |92=>some r92
 |107=>some r107
 |113=>some r113
 |119=>some r119
 |121=>some r121
 |134=>some r134
 |142=>some r142
 |144=>some r144
 |146=>some r146
 |154=>some r154
 |156=>some r156
 |174=>some r174
 |176=>some r176
 |184=>some r184
 |185=>some r185
 |187=>some r187
 |198=>some r198
 |204=>some r204
 |207=>some r207
 |208=>some r208
 |221=>some r221
 |222=>some r222
 |223=>some r223
 |226=>some r226
 |233=>some r233
 |239=>some r239
 |241=>some r241
 |245=>some r245
 |252=>some r252
 |273=>some r273
 |_=>none
theorem T2:T 2=some r2:=rfl
theorem T3:T 3=some r3:=rfl
theorem T4:T 4=some r4:=rfl
theorem T5:T 5=some r5:=rfl
theorem T9:T 9=some r9:=rfl
theorem T12:T 12=some r12:=rfl
theorem T21:T 21=some r21:=rfl
theorem T22:T 22=some r22:=rfl
theorem T24:T 24=some r24:=rfl
theorem T25:T 25=some r25:=rfl
theorem T26:T 26=some r26:=rfl
theorem T28:T 28=some r28:=rfl
theorem T32:T 32=some r32:=rfl
theorem T33:T 33=some r33:=rfl
theorem T36:T 36=some r36:=rfl
theorem T42:T 42=some r42:=rfl
theorem T45:T 45=some r45:=rfl
theorem T47:T 47=some r47:=rfl
theorem T48:T 48=some r48:=rfl
theorem T50:T 50=some r50:=rfl
theorem T54:T 54=some r54:=rfl
theorem T56:T 56=some r56:=rfl
theorem T60:T 60=some r60:=rfl
theorem T64:T 64=some r64:=rfl
theorem T72:T 72=some r72:=rfl
theorem T77:T 77=some r77:=rfl
theorem T78:T 78=some r78:=rfl
theorem T81:T 81=some r81:=rfl
theorem T84:T 84=some r84:=rfl
theorem T86:T 86=some r86:=rfl
theorem T92:T 92=some r92:=rfl
theorem T107:T 107=some r107:=rfl
theorem T113:T 113=some r113:=rfl
theorem T119:T 119=some r119:=rfl
theorem T121:T 121=some r121:=rfl
theorem T134:T 134=some r134:=rfl
theorem T142:T 142=some r142:=rfl
theorem T144:T 144=some r144:=rfl
theorem T146:T 146=some r146:=rfl
theorem T154:T 154=some r154:=rfl
theorem T156:T 156=some r156:=rfl
theorem T174:T 174=some r174:=rfl
theorem T176:T 176=some r176:=rfl
theorem T184:T 184=some r184:=rfl
theorem T185:T 185=some r185:=rfl
theorem T187:T 187=some r187:=rfl
theorem T198:T 198=some r198:=rfl
theorem T204:T 204=some r204:=rfl
theorem T207:T 207=some r207:=rfl
theorem T208:T 208=some r208:=rfl
theorem T221:T 221=some r221:=rfl
theorem T222:T 222=some r222:=rfl
theorem T223:T 223=some r223:=rfl
theorem T226:T 226=some r226:=rfl
theorem T233:T 233=some r233:=rfl
theorem T239:T 239=some r239:=rfl
theorem T241:T 241=some r241:=rfl
theorem T245:T 245=some r245:=rfl
theorem T252:T 252=some r252:=rfl
theorem T273:T 273=some r273:=rfl
def HZ:Nat->Option Nat
 |54=>some 2
 |56=>some 2
 |92=>some 3
 |_=>none
theorem eqn54:HZ 54=some 2:=rfl
theorem eqn56:HZ 56=some 2:=rfl
theorem eqn92:HZ 92=some 3:=rfl
instance ok2:Tk Tryz.prog 2 r2:=⟨bG.mk' (by kernel_rfl) (by kernel_rfl) rfl Tryz.underlying2⟩
instance ok3:Tk Tryz.prog 3 r3:=⟨bG.mk' (by kernel_rfl) (by kernel_rfl) rfl Tryz.underlying3⟩
instance ok4:Tk Tryz.prog 4 r4:=⟨bG.mk' (by kernel_rfl) (by kernel_rfl) rfl Tryz.underlying4⟩
instance ok5:Tk Tryz.prog 5 r5:=⟨bG.mk' (by kernel_rfl) (by kernel_rfl) rfl Tryz.underlying5⟩
instance ok9:Tk Tryz.prog 9 r9:=⟨bG.mk' (by kernel_rfl) (by kernel_rfl) rfl ⟨_,Tryz.underlying9,trivial⟩⟩
instance ab7:Tk Tryz.prog 12 r12:=⟨bG.mk' (by kernel_rfl) (by kernel_rfl) rfl Tryz.underlying12⟩
instance aaM:Tk Tryz.prog 21 r21:=⟨bG.mk' (by kernel_rfl) (by kernel_rfl) rfl Tryz.underlying21⟩
instance ab8:Tk Tryz.prog 22 r22:=⟨bG.mk' (by kernel_rfl) (by kernel_rfl) rfl Tryz.underlying22⟩
instance ab9:Tk Tryz.prog 24 r24:=⟨bG.mk' (by kernel_rfl) (by kernel_rfl) rfl ⟨_,Tryz.underlying24,rfl⟩⟩
instance acd:Tk Tryz.prog 25 r25:=⟨bG.mk' (by kernel_rfl) (by kernel_rfl) rfl Tryz.underlying25⟩
instance ace:Tk Tryz.prog 26 r26:=⟨bG.mk' (by kernel_rfl) (by kernel_rfl) rfl Tryz.underlying26⟩
instance acf:Tk Tryz.prog 28 r28:=⟨bG.mk' (by kernel_rfl) (by kernel_rfl) rfl ⟨_,Tryz.underlying28,rfl⟩⟩
instance acg:Tk Tryz.prog 32 r32:=⟨bG.mk' (by kernel_rfl) (by kernel_rfl) rfl ⟨_,Tryz.underlying32,rfl⟩⟩
instance ach:Tk Tryz.prog 33 r33:=⟨bG.mk' (by kernel_rfl) (by kernel_rfl) rfl Tryz.underlying33⟩
instance aci:Tk Tryz.prog 36 r36:=⟨bG.mk' (by kernel_rfl) (by kernel_rfl) rfl Tryz.underlying36⟩
instance acj:Tk Tryz.prog 42 r42:=⟨bG.mk' (by kernel_rfl) (by kernel_rfl) rfl ⟨_,Tryz.underlying42,rfl⟩⟩
instance ack:Tk Tryz.prog 45 r45:=⟨bG.mk' (by kernel_rfl) (by kernel_rfl) rfl ⟨Tryz.underlying45,fun w=>by kernel_rfl⟩⟩
instance acm:Tk Tryz.prog 47 r47:=⟨bG.mk' (by kernel_rfl) (by kernel_rfl) rfl Tryz.underlying47⟩
instance acn:Tk Tryz.prog 48 r48:=⟨bG.mk' (by kernel_rfl) (by kernel_rfl) rfl Tryz.underlying48⟩
instance aco:Tk Tryz.prog 50 r50:=⟨bG.mk' (by kernel_rfl) (by kernel_rfl) rfl ⟨_,Tryz.underlying50,rfl⟩⟩
instance acp:Tk Tryz.prog 54 r54:=⟨bG.mk' (by kernel_rfl) (by kernel_rfl) rfl ⟨_,Tryz.underlying54,rfl⟩⟩
instance acq:Tk Tryz.prog 56 r56:=⟨bG.mk' (by kernel_rfl) (by kernel_rfl) rfl ⟨_,Tryz.underlying56,rfl⟩⟩
instance acr:Tk Tryz.prog 60 r60:=⟨bG.mk' (by kernel_rfl) (by kernel_rfl) rfl ⟨_,Tryz.underlying60,trivial⟩⟩
instance acs:Tk Tryz.prog 64 r64:=⟨bG.mk' (by kernel_rfl) (by kernel_rfl) rfl ⟨_,Tryz.underlying64,rfl⟩⟩
instance acu:Tk Tryz.prog 72 r72:=⟨bG.mk' (by kernel_rfl) (by kernel_rfl) rfl ⟨_,Tryz.underlying72,rfl⟩⟩
instance acv:Tk Tryz.prog 77 r77:=⟨bG.mk' (by kernel_rfl) (by kernel_rfl) rfl Tryz.underlying77⟩
instance acw:Tk Tryz.prog 78 r78:=⟨bG.mk' (by kernel_rfl) (by kernel_rfl) rfl Tryz.underlying78⟩
instance acy:Tk Tryz.prog 81 r81:=⟨bG.mk' (by kernel_rfl) (by kernel_rfl) rfl Tryz.underlying81⟩
instance acz:Tk Tryz.prog 84 r84:=⟨bG.mk' (by kernel_rfl) (by kernel_rfl) rfl Tryz.underlying84⟩
instance acA:Tk Tryz.prog 86 r86:=⟨bG.mk' (by kernel_rfl) (by kernel_rfl) rfl ⟨_,Tryz.underlying86,rfl⟩⟩
instance acB:Tk Tryz.prog 92 r92:=⟨bG.mk' (by kernel_rfl) (by kernel_rfl) rfl ⟨_,Tryz.underlying92,rfl⟩⟩
instance abo:Tk Tryz.prog 107 r107:=⟨bG.mk' (by kernel_rfl) (by kernel_rfl) rfl Tryz.underlying107⟩
instance abp:Tk Tryz.prog 113 r113:=⟨bG.mk' (by kernel_rfl) (by kernel_rfl) rfl ⟨_,Tryz.underlying113,rfl⟩⟩
instance abq:Tk Tryz.prog 119 r119:=⟨bG.mk' (by kernel_rfl) (by kernel_rfl) rfl Tryz.underlying119⟩
instance abr:Tk Tryz.prog 121 r121:=⟨bG.mk' (by kernel_rfl) (by kernel_rfl) rfl ⟨_,Tryz.underlying121,rfl⟩⟩
instance abt:Tk Tryz.prog 134 r134:=⟨bG.mk' (by kernel_rfl) (by kernel_rfl) rfl Tryz.underlying134⟩
instance abu:Tk Tryz.prog 142 r142:=⟨bG.mk' (by kernel_rfl) (by kernel_rfl) rfl ⟨_,Tryz.underlying142,rfl⟩⟩
instance abv:Tk Tryz.prog 144 r144:=⟨bG.mk' (by kernel_rfl) (by kernel_rfl) rfl ⟨_,Tryz.underlying144,rfl⟩⟩
instance abw:Tk Tryz.prog 146 r146:=⟨bG.mk' (by kernel_rfl) (by kernel_rfl) rfl ⟨_,Tryz.underlying146,rfl⟩⟩
instance abx:Tk Tryz.prog 154 r154:=⟨bG.mk' (by kernel_rfl) (by kernel_rfl) rfl Tryz.underlying154⟩
instance aby:Tk Tryz.prog 156 r156:=⟨bG.mk' (by kernel_rfl) (by kernel_rfl) rfl ⟨_,Tryz.underlying156,rfl⟩⟩
instance abz:Tk Tryz.prog 174 r174:=⟨bG.mk' (by kernel_rfl) (by kernel_rfl) rfl Tryz.underlying174⟩
instance abA:Tk Tryz.prog 176 r176:=⟨bG.mk' (by kernel_rfl) (by kernel_rfl) rfl ⟨_,Tryz.underlying176,rfl⟩⟩
instance abB:Tk Tryz.prog 184 r184:=⟨bG.mk' (by kernel_rfl) (by kernel_rfl) rfl Tryz.underlying184⟩
instance abC:Tk Tryz.prog 185 r185:=⟨bG.mk' (by kernel_rfl) (by kernel_rfl) rfl Tryz.underlying185⟩
instance abD:Tk Tryz.prog 187 r187:=⟨bG.mk' (by kernel_rfl) (by kernel_rfl) rfl ⟨_,Tryz.underlying187,rfl⟩⟩
instance abE:Tk Tryz.prog 198 r198:=⟨bG.mk' (by kernel_rfl) (by kernel_rfl) rfl Tryz.underlying198⟩
instance abF:Tk Tryz.prog 204 r204:=⟨bG.mk' (by kernel_rfl) (by kernel_rfl) rfl Tryz.underlying204⟩
instance abG:Tk Tryz.prog 207 r207:=⟨bG.mk' (by kernel_rfl) (by kernel_rfl) rfl Tryz.underlying207⟩
instance abH:Tk Tryz.prog 208 r208:=⟨bG.mk' (by kernel_rfl) (by kernel_rfl) rfl Tryz.underlying208⟩
instance abI:Tk Tryz.prog 221 r221:=⟨bG.mk' (by kernel_rfl) (by kernel_rfl) rfl Tryz.underlying221⟩
instance abJ:Tk Tryz.prog 222 r222:=⟨bG.mk' (by kernel_rfl) (by kernel_rfl) rfl ⟨Tryz.underlying222,fun w=>by kernel_rfl⟩⟩
instance abK:Tk Tryz.prog 223 r223:=⟨bG.mk' (by kernel_rfl) (by kernel_rfl) rfl Tryz.underlying223⟩
instance abL:Tk Tryz.prog 226 r226:=⟨bG.mk' (by kernel_rfl) (by kernel_rfl) rfl Tryz.underlying226⟩
instance abM:Tk Tryz.prog 233 r233:=⟨bG.mk' (by kernel_rfl) (by kernel_rfl) rfl Tryz.underlying233⟩
instance abN:Tk Tryz.prog 239 r239:=⟨bG.mk' (by kernel_rfl) (by kernel_rfl) rfl Tryz.underlying239⟩
instance abO:Tk Tryz.prog 241 r241:=⟨bG.mk' (by kernel_rfl) (by kernel_rfl) rfl Tryz.underlying241⟩
instance abP:Tk Tryz.prog 245 r245:=⟨bG.mk' (by kernel_rfl) (by kernel_rfl) rfl Tryz.underlying245⟩
instance abQ:Tk Tryz.prog 252 r252:=⟨bG.mk' (by kernel_rfl) (by kernel_rfl) rfl Tryz.underlying252⟩
instance abR:Tk Tryz.prog 273 r273:=⟨bG.mk' (by kernel_rfl) (by kernel_rfl) rfl Tryz.underlying273⟩
theorem aaN:vl Tryz.prog 54 2:=vl.two (by kernel_rfl) (by kernel_rfl) Tryz.underlying54 (by decide) rfl Tryz.underlying3 (by decide) rfl Tryz.underlying3
theorem aaO:vl Tryz.prog 56 2:=vl.two (by kernel_rfl) (by kernel_rfl) Tryz.underlying56 (by decide) rfl Tryz.underlying3 (by decide) rfl Tryz.underlying3
theorem aaP:vl Tryz.prog 92 3:=vl.three (by kernel_rfl) (by kernel_rfl) Tryz.underlying92 (by decide) rfl Tryz.underlying3 (by decide) rfl Tryz.underlying3 (by decide) rfl Tryz.underlying3
set_option maxHeartbeats 4000000 in
theorem okT:∀t ti,T t=some ti->bG Tryz.prog t ti:=by
 intro t ti h
 unfold T at h
 split at h
 all_goals cases h
 all_goals exact Tk.p
theorem okE:∀t n,HZ t=some n->vl Tryz.prog t n:=by
 intro t n h
 unfold HZ at h
 split at h
 ·cases h;exact aaN
 ·cases h;exact aaO
 ·cases h;exact aaP
 ·cases h
def cfg(own tM:List Nat):Cfg:=⟨T,own,HZ,tM⟩
theorem cfg_T(own tM:List Nat):(cfg own tM).T=T:=rfl
theorem cfg_own(own tM:List Nat):(cfg own tM).own=own:=rfl
theorem cfg_nst(own tM:List Nat):(cfg own tM).tM=tM:=rfl
theorem cfg_eqn(own tM:List Nat):(cfg own tM).HZ=HZ:=rfl
theorem Iw(own tM:List Nat):(cfg own tM).Ok Tryz.prog:=⟨okT,okE⟩
theorem mixed:Tryz.prog.follows .mixedOrders=true:=by kernel_rfl
section
variable {f:Nat} {fn:Func} {c:Code} {av:List AV} {m:List (Nat × AObj)} {res:AV} {m':List (Nat × AObj)}
theorem h(own tM:List Nat)(rs:List RV)(hf:Tryz.prog.funcs[f]? =some fn)(hb:fn.body=some c)(xO:fn.results=(rs.map RV.rv).toArray)
 (hk:((!(fn.name== "runtime.NumGoroutine"))&&(OX m&&(F2 m'&&(vk fn.ntmps c&&Nat.ble av.length fn.ntmps))))=true)
 (h:∀X:Ctx,X.Ok->X.P=Tryz.prog->X.C=cfg own tM->X.P.follows .mixedOrders=true->Xc X Tryz.prog (cfg own tM)->cR X c (Fin (cfg own tM) rs [] res m') ⟨params 0 av,m⟩):Spec Tryz.prog f (Args av) m res m':=
 Spec.hq (Iw own tM) mixed hf hb xO hk h
theorem hS(own tM:List Nat)(rs:List RV)(hR:cC m)(hf:Tryz.prog.funcs[f]? =some fn)(hb:fn.body=some c)(xO:fn.results=(rs.map RV.rv).toArray)
 (hk:((!(fn.name== "runtime.NumGoroutine"))&&(vk fn.ntmps c&&Nat.ble av.length fn.ntmps))=true)
 (h:∀X:Ctx,X.Ok->X.P=Tryz.prog->X.C=cfg own tM->X.P.follows .mixedOrders=true->Xc X Tryz.prog (cfg own tM)->cR X c (Fin (cfg own tM) rs [] res m) ⟨params 0 av,m⟩):Spec Tryz.prog f (Args av) m res m:=by
 rw[adf]at hk
 exact Spec.hd (Iw own tM) hf hb (by simpa using hk.1) rfl xO (fun p hp=>⟨(hR.low p hp).1,hR.nest p hp⟩) (fun p hp=>⟨(hR.low p hp).2,hR.nest p hp⟩) hk.2 mixed h
theorem hR(own tM:List Nat)(rs:List RV)(rn:List (Nat × Nat))(hf:Tryz.prog.funcs[f]? =some fn)(hb:fn.body=some c)(xO:fn.results=(rs.map RV.rv).toArray)
 (hk:((!(fn.name== "runtime.NumGoroutine"))&&(OX m&&(F2 m'&&(rnM rn m m'&&(vk fn.ntmps c&&Nat.ble av.length fn.ntmps)))))=true)
 (h:∀X:Ctx,X.Ok->X.P=Tryz.prog->X.C=cfg own tM->X.P.follows .mixedOrders=true->Xc X Tryz.prog (cfg own tM)->cR X c (Fin (cfg own tM) rs rn res m') ⟨params 0 av,m⟩):Spec Tryz.prog f (Args av) m res m':=
 Spec.hqR rn (Iw own tM) mixed hf hb xO hk h
end
attribute [go_sem] T2 r2 T3 r3 T4 r4 T5 r5 T9 r9 T12 r12 T21 r21 T22 r22 T24 r24 T25 r25 T26 r26 T28 r28 T32 r32 T33 r33 T36 r36 T42 r42 T45 r45 T47 r47 T48 r48 T50 r50 T54 r54 T56 r56 T60 r60 T64 r64 T72 r72 T77 r77 T78 r78 T81 r81 T84 r84 T86 r86 T92 r92 T107 r107 T113 r113 T119 r119 T121 r121 T134 r134 T142 r142 T144 r144 T146 r146 T154 r154 T156 r156 T174 r174 T176 r176 T184 r184 T185 r185 T187 r187 T198 r198 T204 r204 T207 r207 T208 r208 T221 r221 T222 r222 T223 r223 T226 r226 T233 r233 T239 r239 T241 r241 T245 r245 T252 r252 T273 r273 eqn54 eqn56 eqn92 cfg_T cfg_own cfg_nst cfg_eqn
end Go.Ab.T
end
section
set_option maxHeartbeats 8000000
set_option maxRecDepth 10000
namespace Go.Ab
attribute [local congr] ACall.congr gd.congr Ny.congr vcOps.congr
open Go.Proofs
def eN(n:Int):AV:= .d (.sc (.int .i64 n))
def eB(b:Bool):AV:= .d (.sc (.bool b))
abbrev Edge:=Int × Int
structure Gr where
 n:Int
 es:List Edge
def rE(e:Edge):List D:= [.sc (.int .i64 e.1), .sc (.int .i64 e.2)]
def rI(n:Int):List D:= [.sc (.int .i64 n)]
def eE(e:Edge):AV:= .agg [.d (.sc (.int .i64 e.1)), .d (.sc (.int .i64 e.2))]
def sE(es:List Edge):D:= .sl 2 (es.map rE)
def sI(l:List Int):D:= .sl 1 (l.map rI)
def eG(g:Gr):AV:= .agg [eN g.n, .d (sE g.es)]
attribute [go_sem] eN eB eE sE sI eG Args AVrs
theorem getD_rE(ps:List Edge)(i:Nat):(ps.map rE).getD i [.sc (.int .i64 0), .sc (.int .i64 0)]= [.sc (.int .i64 (ps.getD i (0,0)).1), .sc (.int .i64 (ps.getD i (0,0)).2)]:=by
 simp only[aas,adm]
 cases ps[i]? <;>rfl
theorem getD_rI(ps:List Int)(i:Nat):(ps.map rI).getD i [.sc (.int .i64 0)]= [.sc (.int .i64 (ps.getD i 0))]:=by
 simp only[aas,adm]
 cases ps[i]? <;>rfl
theorem Vf(l:List Int)(k:Nat)(v:Int):(l.map rI).set k [.sc (.int .i64 v)]=(l.set k v).map rI:=by
 rw[aeR];rfl
attribute [go_sem] getD_rE getD_rI Int.toNat_natCast List.length_set
def I64(n:Int):Prop:= -9223372036854775808<=n/\n<=9223372036854775807
def Len(n:Nat):Prop:=n<=9223372036854775807
def bT{α:Type}(g:α->Bool)(ps:List α):Int:=match ps.findIdx? g with|some i=>i|none=> -1
theorem bL{α:Type}{g:α->Bool}{ps:List α}(d:α)(h:∀j,j<ps.length->g (ps.getD j d)=false):bT g ps= -1:=by
 have:ps.findIdx? g=none:=by
  rw[aeN]
  intro x hx
  obtain⟨j,hj,rfl⟩:=ae3 hx
  simpa[aas,acF hj]using h j hj
 simp[bT,this]
theorem b9{α:Type}{g:α->Bool}{ps:List α}{d:α}{k:Nat}(hk:k<ps.length)(h:∀j,j<k->g (ps.getD j d)=false)(hg:g (ps.getD k d)=true):bT g ps=k:=by
 have:ps.findIdx? g=some k:=by
  rw[aem]
  refine⟨hk,by simpa[aas,acF hk]using hg,fun j hj=> ?_⟩
  have:=h j hj
  simpa[aas,acF (Nat.lt_trans hj hk)]using this
 simp[bT,this]
theorem cT{α:Type}(g:α->Bool)(ps:List α):decide (0<=bT g ps)=ps.any g:=by
 cases h:ps.findIdx? g with
 |none=>
  have:bT g ps= -1:=by simp[bT,h]
  rw[this]
  rw[aeN]at h
  symm
  simpa using h
 |some i=>
  have:bT g ps=i:=by simp[bT,h]
  rw[this]
  obtain⟨hi,hg,_⟩:=aem.1 h
  have:ps.any g=true:=adQ.2 ⟨_,ad2 hi,hg⟩
  rw[this];simp
theorem Gb{α:Type}(g:α->Bool)(ps:List α):bT g ps= -1\/(0<=bT g ps/\bT g ps<ps.length):=by
 cases h:ps.findIdx? g with
 |none=>exact .inl (by simp[bT,h])
 |some i=>
  obtain⟨hi,hg,_⟩:=aem.1 h
  exact .inr (by simp[bT,h];omega)
theorem Gc(rn:List (Nat × Nat))(h0:rn= []){m:List (Nat × AObj)} :∀ {r:List (Nat × AObj)},(∀p∈r,look m p.1=some p.2)->leR m rn r
 | [],_=>trivial
 |p::r,h=>by
  subst h0
  have h1:=h p adH
  refine⟨?_,Gc [] rfl fun q hq=>h q (adz _ hq)⟩
  have e:renO [] p.2=p.2:=rfl
  show look m p.1=some (renO [] p.2)
  rw[e];exact h1
theorem cu{m:List (Nat × AObj)}(h:cC m):leR m [] m:=Gc [] rfl fun _ hp=>aL h.nd hp
theorem iy{m:List (Nat × AObj)}(hR:cC m)(f:Nat)(caps:List AV)(g:Edge->Bool)(hf:∀p,Spec Tryz.prog f (Args (eE p::caps)) m (eB (g p)) m)(ps:List Edge)(hl:ps.length<=9223372036854775807):
 Spec Tryz.prog 111 (Args [.d (sE ps), .fn f [] caps]) m (eN (bT g ps)) m:=by
 (refine T.hS [] [] [.t 4] hR Tryz.func111 rfl rfl (by kernel_rfl) fun X hX hP hC aA bB=> ?_)
 repeat' (first|refine Rn.p ?_|((first|refine Rs.p ?_|with_reducible intro K hK|(refine hK _ ?_;clear hK K));try simp only[go_sem,simprocAttr]))
 refine ag (fun k:Nat=>k<=ps.length/\∀j,j<k->g (ps.getD j (0,0))=false) (fun k=>⟨[(0, .d (sE ps)),(1, .fn f [] caps),(7,eN ps.length),(8,eN k)],m⟩) (fun k=>ps.length - k) 0 (by simp) ?_ ?_
 ·(refine⟨bS ?_,fun _ _ h=>h⟩;simp[go_sem,simprocAttr])
 rintro k ⟨hk,hg⟩
 repeat' (first|refine Rn.p ?_|((first|refine Rs.p ?_|with_reducible intro K hK|(refine hK _ ?_;clear hK K)|(first|(refine aR hR (hf _) ?_ rfl rfl ?_;(focus(first|exact fun p hp=>aL (cC.nd hR) hp|(simp[go_sem,simprocAttr];done))))|(refine aR hR (hf _) ?_ ?_ rfl ?_;(focus(first|exact fun p hp=>aL (cC.nd hR) hp|(simp[go_sem,simprocAttr];done)));(focus(simp[go_sem,simprocAttr];done)))));try simp only[go_sem,simprocAttr])|with_reducible (first|apply And.intro|(intro h;try simp only[go_sem,simprocAttr]at h))|omega)
 ·exact(b9 (by omega) hg h).symm
 ·exact cu hR
 ·refine⟨k+1,⟨by omega,fun j hj=> ?_⟩, ?_,by omega⟩
  ·by_cases hjk:j=k
   ·subst hjk;exact h
   ·exact hg j (by omega)
  ·(refine⟨bS ?_,fun _ _ h=>h⟩;simp[go_sem,simprocAttr])
 ·exact(bL (0,0) fun j hj=>hg j (by omega)).symm
 ·exact cu hR
theorem zx{m:List (Nat × AObj)}(hR:cC m)(f:Nat)(caps:List AV)(g:Int->Bool)(hf:∀p,Spec Tryz.prog f (Args (eN p::caps)) m (eB (g p)) m)(ps:List Int)(hl:ps.length<=9223372036854775807):
 Spec Tryz.prog 162 (Args [.d (sI ps), .fn f [] caps]) m (eN (bT g ps)) m:=by
 (refine T.hS [] [] [.t 4] hR Tryz.func162 rfl rfl (by kernel_rfl) fun X hX hP hC aA bB=> ?_)
 repeat' (first|refine Rn.p ?_|((first|refine Rs.p ?_|with_reducible intro K hK|(refine hK _ ?_;clear hK K));try simp only[go_sem,simprocAttr]))
 refine ag (fun k:Nat=>k<=ps.length/\∀j,j<k->g (ps.getD j 0)=false) (fun k=>⟨[(0, .d (sI ps)),(1, .fn f [] caps),(7,eN ps.length),(8,eN k)],m⟩) (fun k=>ps.length - k) 0 (by simp) ?_ ?_
 ·(refine⟨bS ?_,fun _ _ h=>h⟩;simp[go_sem,simprocAttr])
 rintro k ⟨hk,hg⟩
 repeat' (first|refine Rn.p ?_|((first|refine Rs.p ?_|with_reducible intro K hK|(refine hK _ ?_;clear hK K)|(first|(refine aR hR (hf _) ?_ rfl rfl ?_;(focus(first|exact fun p hp=>aL (cC.nd hR) hp|(simp[go_sem,simprocAttr];done))))|(refine aR hR (hf _) ?_ ?_ rfl ?_;(focus(first|exact fun p hp=>aL (cC.nd hR) hp|(simp[go_sem,simprocAttr];done)));(focus(simp[go_sem,simprocAttr];done)))));try simp only[go_sem,simprocAttr])|with_reducible (first|apply And.intro|(intro h;try simp only[go_sem,simprocAttr]at h))|omega)
 ·exact(b9 (by omega) hg h).symm
 ·exact cu hR
 ·refine⟨k+1,⟨by omega,fun j hj=> ?_⟩, ?_,by omega⟩
  ·by_cases hjk:j=k
   ·subst hjk;exact h
   ·exact hg j (by omega)
  ·(refine⟨bS ?_,fun _ _ h=>h⟩;simp[go_sem,simprocAttr])
 ·exact(bL 0 fun j hj=>hg j (by omega)).symm
 ·exact cu hR
theorem uD{m:List (Nat × AObj)}(hR:cC m)(f:Nat)(caps:List AV)(g:Edge->Bool)(hf:∀p,Spec Tryz.prog f (Args (eE p::caps)) m (eB (g p)) m)(ps:List Edge)(hl:ps.length<=9223372036854775807):
 Spec Tryz.prog 144 (Args [.d (sE ps), .fn f [] caps]) m (eB (ps.any g)) m:=by
 (refine T.hS [] [] [.t 4] hR Tryz.func144 rfl rfl (by kernel_rfl) fun X hX hP hC aA bB=> ?_)
 repeat' (first|refine Rn.p ?_|((first|refine Rs.p ?_|with_reducible intro K hK|(refine hK _ ?_;clear hK K)|(first|(refine aR hR (iy hR _ _ g hf ps hl) ?_ rfl rfl ?_;(focus(first|exact fun p hp=>aL (cC.nd hR) hp|(simp[go_sem,simprocAttr];done))))|(refine aR hR (iy hR _ _ g hf ps hl) ?_ ?_ rfl ?_;(focus(first|exact fun p hp=>aL (cC.nd hR) hp|(simp[go_sem,simprocAttr];done)));(focus(simp[go_sem,simprocAttr];done)))));try simp only[go_sem,simprocAttr])|with_reducible (apply And.intro))
 ·exact cT g ps
 ·exact cu hR
def AY(g:Gr)(x:Int):Bool:=decide (x<0)||decide (g.n<=x)
def uE(g:Gr)(e:Edge):Bool:=AY g e.1||AY g e.2
def aM(g:Gr):Bool:=decide (0<g.n)&&decide (g.n<=64)&&decide ((g.es.length:Int)<=128)&& !g.es.any (uE g)
def rG(g:Gr):AObj:= .rob [eN g.n, .d (sE g.es)]
theorem CY(g:Gr)(x:Int):Spec Tryz.prog 143 (Args [eN x, .ptr 10000 0]) [(10000,rG g)] (eB (AY g x)) [(10000,rG g)]:=by
 unfold rG
 (refine T.h [] [] [.t 3] Tryz.func143 rfl rfl (by kernel_rfl) fun X hX hP hC aA bB=> ?_)
 repeat' (first|refine Rn.p ?_|((first|refine Rs.p ?_|with_reducible intro K hK|(refine hK _ ?_;clear hK K));try simp only[go_sem,simprocAttr])|with_reducible (first|apply And.intro|(intro h;try simp only[go_sem,simprocAttr]at h)))
 ·simp[AY, *]
 ·simp[AY, *]
theorem Sw(g:Gr):cC [(10000,rG g)]:=⟨by simp[rG,AObj.ro],by simp[nodupM,look],by simp,by simp[rG,AObj.ids,AV.ids,AV.idss,eN]⟩
def rF:AObj:= .rob [.fn 143 [] [.ptr 10000 0]]
attribute [go_sem] rG rF
theorem Mh(g:Gr)(e:Edge):Spec Tryz.prog 145 (Args [eE e, .ptr 10001 0]) [(10001,rF),(10000,rG g)] (eB (uE g e)) [(10001,rF),(10000,rG g)]:=by
 unfold rF rG
 (refine T.h [] [] [.t 3] Tryz.func145 rfl rfl (by kernel_rfl) fun X hX hP hC aA bB=> ?_)
 repeat' (first|refine Rn.p ?_|((first|refine Rs.p ?_|with_reducible intro K hK|(refine hK _ ?_;clear hK K)|(first|(refine aR (Sw g) (CY g _) ?_ rfl rfl ?_;(focus(first|exact fun p hp=>aL (cC.nd (Sw g)) hp|(simp[go_sem,simprocAttr];done))))|(refine aR (Sw g) (CY g _) ?_ ?_ rfl ?_;(focus(first|exact fun p hp=>aL (cC.nd (Sw g)) hp|(simp[go_sem,simprocAttr];done)));(focus(simp[go_sem,simprocAttr];done)))));try simp only[go_sem,simprocAttr])|with_reducible (first|apply And.intro|(intro h;try simp only[go_sem,simprocAttr]at h)))
 ·simp[uE, *]
 ·simp[uE, *]
theorem aaQ(g:Gr):cC [(10001,rF),(10000,rG g)]:=⟨by simp[rG,rF,AObj.ro],by simp[nodupM,look],by simp,by simp[rG,rF,AObj.ids,AV.ids,AV.idss,eN,look]⟩
theorem qJ(g:Gr)(hl:g.es.length<=9223372036854775807):Spec Tryz.prog 91 (Args [eG g]) [] (eB (aM g)) []:=by
 (refine T.h [] [] [.t 2] Tryz.func91 rfl rfl (by kernel_rfl) fun X hX hP hC aA bB=> ?_)
 repeat' (first|refine Rn.p ?_|((first|refine Rs.p ?_|with_reducible intro K hK|(refine hK _ ?_;clear hK K)|(refine bw [(10000,1),(10001,3)] (uD (aaQ g) _ _ (uE g) (Mh g) g.es hl) ?_ ?_;(focus(simp[go_sem,simprocAttr];done))));try simp only[go_sem,simprocAttr])|with_reducible (first|apply And.intro|(intro h;try simp only[go_sem,simprocAttr]at h)))
 all_goals simp[aM, *]
def jg(l:List Int)(x:Int):Int:=bT (fun y=>decide (x=y)) l
def Vg(l:List Edge)(x:Edge):Int:=bT (fun y=>decide (x=y)) l
theorem O8(l:List Int)(x:Int):decide (0<=jg l x)=decide (x∈l):=by
 unfold jg;rw[cT,ad0];simp
theorem O9(l:List Edge)(x:Edge):decide (0<=Vg l x)=decide (x∈l):=by
 unfold Vg;rw[cT,ad0];simp[-Prod.exists, -Prod.forall]
theorem qK(x y:Edge):(decide (x.1=y.1)&&decide (x.2=y.2))=decide (x=y):=by
 obtain⟨a,b⟩:=x;obtain⟨c,d⟩:=y
 rw[ad0];simp
theorem iR(ps:List Int)(x:Int)(hl:ps.length<=9223372036854775807):
 Spec Tryz.prog 46 (Args [.d (sI ps),eN x]) [] (eN (jg ps x)) []:=by
 (refine T.h [] [] [.t 4] Tryz.func46 rfl rfl (by kernel_rfl) fun X hX hP hC aA bB=> ?_)
 repeat' (first|refine Rn.p ?_|((first|refine Rs.p ?_|with_reducible intro K hK|(refine hK _ ?_;clear hK K));try simp only[go_sem,simprocAttr]))
 refine ag (fun k:Nat=>k<=ps.length/\∀j,j<k->decide (x=ps.getD j 0)=false) (fun k=>⟨[(0, .d (sI ps)),(1,eN x),(7,eN ps.length),(8,eN k)], []⟩) (fun k=>ps.length - k) 0 (by simp) ?_ ?_
 ·(refine⟨bS ?_,fun _ _ h=>h⟩;simp[go_sem,simprocAttr])
 rintro k ⟨hk,hg⟩
 repeat' (first|refine Rn.p ?_|((first|refine Rs.p ?_|with_reducible intro K hK|(refine hK _ ?_;clear hK K));try simp only[go_sem,simprocAttr])|with_reducible (first|apply And.intro|(intro h;try simp only[go_sem,simprocAttr]at h))|omega)
 ·exact(b9 (by omega) hg (by simpa using h)).symm
 ·refine⟨k+1,⟨by omega,fun j hj=> ?_⟩, ?_,by omega⟩
  ·by_cases hjk:j=k
   ·subst hjk;simpa using h
   ·simpa using hg j (by omega)
  ·(refine⟨bS ?_,fun _ _ h=>h⟩;simp[go_sem,simprocAttr])
 ·exact(bL 0 fun j hj=>hg j (by omega)).symm
theorem dm(ps:List Int)(x:Int)(hl:ps.length<=9223372036854775807):
 Spec Tryz.prog 164 (Args [.d (sI ps),eN x]) [] (eB (decide (x∈ps))) []:=by
 rw[<- O8]
 (refine T.h [] [] [.t 4] Tryz.func164 rfl rfl (by kernel_rfl) fun X hX hP hC aA bB=> ?_)
 repeat' (first|refine Rn.p ?_|((first|refine Rs.p ?_|with_reducible intro K hK|(refine hK _ ?_;clear hK K)|refine aa (iR ps x hl) rfl ?_);try simp only[go_sem,simprocAttr]))
theorem Gd(ps:List Edge)(x:Edge)(hl:ps.length<=9223372036854775807):
 Spec Tryz.prog 160 (Args [.d (sE ps),eE x]) [] (eN (Vg ps x)) []:=by
 (refine T.h [] [] [.t 4] Tryz.func160 rfl rfl (by kernel_rfl) fun X hX hP hC aA bB=> ?_)
 repeat' (first|refine Rn.p ?_|((first|refine Rs.p ?_|with_reducible intro K hK|(refine hK _ ?_;clear hK K));try simp only[go_sem,simprocAttr]))
 refine ag (fun k:Nat=>k<=ps.length/\∀j,j<k->decide (x=ps.getD j (0,0))=false) (fun k=>⟨[(0, .d (sE ps)),(3, .ptr 3 0),(7,eN ps.length),(8,eN k)], [(3, .box [eN x.1,eN x.2])]⟩) (fun k=>ps.length - k) 0 (by simp) ?_ ?_
 ·(refine Le.of ?_ ?_<;>simp[go_sem,simprocAttr])
 rintro k ⟨hk,hg⟩
 repeat' (first|refine Rn.p ?_|((first|refine Rs.p ?_|with_reducible intro K hK|(refine hK _ ?_;clear hK K));try simp only[go_sem,simprocAttr,qK])|with_reducible (first|apply And.intro|refine oD (by kernel_rfl) ?_|(intro h;try simp only[go_sem,simprocAttr,qK]at h))|omega)
 ·exact(b9 (d:=(0,0)) (by omega) hg (by simpa using h)).symm
 ·refine⟨k+1,⟨by omega,fun j hj=> ?_⟩, ?_,by omega⟩
  ·by_cases hjk:j=k
   ·subst hjk;exact h
   ·simpa using hg j (by omega)
  ·(refine Le.of ?_ ?_<;>simp[go_sem,simprocAttr,qK])
 ·exact(bL (0,0) fun j hj=>hg j (by omega)).symm
theorem AZ(ps:List Edge)(x:Edge)(hl:ps.length<=9223372036854775807):
 Spec Tryz.prog 113 (Args [.d (sE ps),eE x]) [] (eB (decide (x∈ps))) []:=by
 rw[<- O9]
 (refine T.h [] [] [.t 4] Tryz.func113 rfl rfl (by kernel_rfl) fun X hX hP hC aA bB=> ?_)
 repeat' (first|refine Rn.p ?_|((first|refine Rs.p ?_|with_reducible intro K hK|(refine hK _ ?_;clear hK K)|refine aa (Gd ps x hl) rfl ?_);try simp only[go_sem,simprocAttr,qK]))
theorem Ge(ps:List Edge)(hl:ps.length<=1000000):
 Spec Tryz.prog 92 (Args [.d (sE ps)]) [] (.d (sE ps)) []:=by
 (refine T.h [] [] [.t 2] Tryz.func92 rfl rfl (by kernel_rfl) fun X hX hP hC aA bB=> ?_)
 repeat' (first|refine Rn.p ?_|((first|refine Rs.p ?_|with_reducible intro K hK|(refine hK _ ?_;clear hK K));try simp only[go_sem,simprocAttr])|with_reducible (first|apply And.intro|(intro h;try simp only[go_sem,simprocAttr]at h))|omega)
 exact h.symm
theorem qL(ps:List Int)(hl:ps.length<=1000000):
 Spec Tryz.prog 44 (Args [.d (sI ps)]) [] (.d (sI ps)) []:=by
 (refine T.h [] [] [.t 2] Tryz.func44 rfl rfl (by kernel_rfl) fun X hX hP hC aA bB=> ?_)
 repeat' (first|refine Rn.p ?_|((first|refine Rs.p ?_|with_reducible intro K hK|(refine hK _ ?_;clear hK K));try simp only[go_sem,simprocAttr])|with_reducible (first|apply And.intro|(intro h;try simp only[go_sem,simprocAttr]at h))|omega)
 exact h.symm
theorem Mi{α:Type}{xs ys:List α}(d:α){k:Nat}(h1:k<xs.length)(h2:k<ys.length)(h:xs.take k=ys.take k)(he:xs.getD k d=ys.getD k d):xs.take (k+1)=ys.take (k+1):=by
 rw[ad1,ad1,h,acF h1,acF h2]
 simp only[aas,acF h1,acF h2,Option.getD_some]at he
 rw[he]
theorem nS{α:Type}{f:α->Bool}{xs:List α}(d:α){k:Nat}(h1:k<xs.length)(h:(xs.take k).any f=false)(he:f (xs.getD k d)=false):(xs.take (k+1)).any f=false:=by
 rw[ad1,agY,h,acF h1]
 simp only[aas,acF h1,Option.getD_some]at he
 simp[he]
theorem uF{α:Type}{f:α->Bool}{xs:List α}{d:α}{k:Nat}(h1:k<xs.length)(he:f (xs.getD k d)=true):xs.any f=true:=by
 rw[adQ]
 refine⟨_,ad2 h1, ?_⟩
 simpa only[aas,acF h1,Option.getD_some]using he
theorem Gf{g:Gr}{k:Nat}(h1:k<g.es.length)(he:uE g (g.es.getD k (0,0))=true):false=aM g:=by
 simp[aM,uF h1 he]
theorem yR(g:Gr)(hl:g.es.length<=9223372036854775807):Spec Tryz.prog 49 (Args [eG g]) [] (eB (aM g)) []:=by
 (refine T.h [] [] [.t 2] Tryz.func49 rfl rfl (by kernel_rfl) fun X hX hP hC aA bB=> ?_)
 repeat' (first|refine Rn.p ?_|((first|refine Rs.p ?_|with_reducible intro K hK|(refine hK _ ?_;clear hK K));try simp only[go_sem,simprocAttr])|with_reducible (first|apply And.intro|(intro h;try simp only[go_sem,simprocAttr]at h)))
 any_goals (simp[aM];omega)
 refine ag (fun k:Nat=>k<=g.es.length/\(g.es.take k).any (uE g)=false) (fun k=>⟨[(1, .ptr 1 0),(3,eN k)], [(1, .box [eN g.n, .d (sE g.es)])]⟩) (fun k=>g.es.length - k) 0 (by simp) ?_ ?_
 ·(refine Le.of ?_ ?_<;>simp[go_sem,simprocAttr])
 rintro k ⟨hk,hp⟩
 repeat' (first|refine Rn.p ?_|((first|refine Rs.p ?_|with_reducible intro K hK|(refine hK _ ?_;clear hK K));try simp only[go_sem,simprocAttr])|with_reducible (first|apply And.intro|(intro h;try simp only[go_sem,simprocAttr]at h))|omega)
 any_goals (refine Gf (k:=k) (by omega) ?_;simp only[uE,AY,adK,adb];omega)
 ·refine⟨k+1,⟨by omega,nS (0,0) (by omega) hp ?_⟩, ?_,by omega⟩
  ·simp only[uE,AY,aep,adL];omega
  ·(refine Le.of ?_ ?_<;>simp[go_sem,simprocAttr])
 ·rw[adB (by omega)]at hp
  simp[aM,hp];omega
def gU(f:Edge->Int)(es:List Edge)(k:Nat)(x:Nat):List Int:=((List.range k).filter fun i=>decide (f (es.getD i (0,0))=(x:Int))).map Int.ofNat
def tT(f:Edge->Int)(es:List Edge)(n k:Nat):List (List (List D)):=(List.range n).map fun x=>(gU f es k x).map rI
def sL(ls:List (List Int)):D:= .sl 1 (ls.map fun l=> [sI l])
def eR(f:Edge->Int)(g:Gr):List (List Int):=(List.range g.n.toNat).map (gU f g.es g.es.length)
def vw(g:Gr):D:= .pt [.sc (.int .i64 g.n),sE g.es,sL (eR (·.1) g),sL (eR (·.2) g)]
theorem aB{g:Gr}(h:aM g=true):0<g.n/\g.n<=64/\g.es.length<=128:=by
 simp[aM]at h;omega
theorem cU{g:Gr}(h:aM g=true){k:Nat}(hk:k<g.es.length):(0<=(g.es.getD k (0,0)).1/\(g.es.getD k (0,0)).1<g.n)/\(0<=(g.es.getD k (0,0)).2/\(g.es.getD k (0,0)).2<g.n):=by
 have h2:=Gf (g:=g) hk
 rw[h]at h2
 have h3:¬uE g (g.es.getD k (0,0))=true:=fun e=>by simpa using h2 e
 simp only[uE,AY,adK,adb]at h3
 omega
theorem fz{f:Edge->Int}{es:List Edge}{n k:Nat} :(tT f es n k).length=n:=by simp[tT]
theorem nT{f:Edge->Int}{es:List Edge}{n k x:Nat}(hx:x<n):(tT f es n k)[x]? =some ((gU f es k x).map rI):=by
 simp[tT,adp hx]
theorem kZ{f:Edge->Int}{es:List Edge}{k x:Nat} :(gU f es k x).length<=k:=by
 simpa[gU]using aeH (fun i=>decide (f (es.getD i (0,0))=(x:Int))) (List.range k)
theorem Iy{f:Edge->Int}{es:List Edge}{k x:Nat} :gU f es (k+1) x=gU f es k x++if f (es.getD k (0,0))=(x:Int) then [(k:Int)] else []:=by
 simp only[gU,adV,ad8,ads,aeD,List.filter_nil]
 split<;>simp_all
theorem A0{f:Edge->Int}{es:List Edge}{n k:Nat}(h0:0<=f (es.getD k (0,0))):
 (tT f es n k).set (f (es.getD k (0,0))).toNat ((gU f es k (f (es.getD k (0,0))).toNat).map rI++ [[.sc (.int .i64 k)]])=tT f es n (k+1):=by
 refine adY fun i=> ?_
 rw[aea,fz]
 by_cases hi:i<n
 ·rw[nT hi,nT hi,Iy]
  generalize f (es.getD k (0,0))=e at*
  by_cases hq:e=(i:Int)
  ·subst hq;simp[hi,rI]
  ·have:¬e.toNat=i:=by omega
   simp[hq,this]
 ·rw[ado (by rw[fz];omega),ado (by rw[fz];omega)]
  generalize f (es.getD k (0,0))=e at*
  split
  ·rename_i hq;rw[ac7 (by omega)]
  ·rfl
theorem A4{f:Edge->Int}{es:List Edge}{n:Nat} :List.replicate n []=tT f es n 0:=by
 refine adY fun i=> ?_
 by_cases hi:i<n
 ·rw[nT hi];simp[hi,gU]
 ·rw[ado (by simp;omega),ado (by rw[fz];omega)]
theorem sx(g:Gr)(hm:aM g=true):Spec Tryz.prog 40 (Args [eG g]) [] (.d (vw g)) []:=by
 have hn:=aB hm
 have hl:g.es.length<=9223372036854775807:=by omega
 have hl':g.es.length<=1000000:=by omega
 (refine T.h [] [13,16] [.t 2] Tryz.func40 rfl rfl (by kernel_rfl) fun X hX hP hC aA bB=> ?_)
 repeat' (first|refine Rn.p ?_|((first|refine Rs.p ?_|with_reducible intro K hK|(refine hK _ ?_;clear hK K)|refine aa (qJ g hl) rfl ?_|refine aa (Ge g.es hl') rfl ?_);try simp only[go_sem,simprocAttr,hm])|with_reducible (first|apply And.intro|refine oD (by kernel_rfl) ?_)|omega)
 refine F7 hX 13 (by simp[go_sem,simprocAttr,hm];exact⟨rfl,rfl,rfl,rfl⟩) (by decide) (by simp[go_sem,simprocAttr,hm]) (by simp[go_sem,simprocAttr,hm]) ?_
 refine F7 hX 16 (by simp[go_sem,simprocAttr,hm];exact⟨rfl,rfl,rfl,rfl⟩) (by decide) (by simp[go_sem,simprocAttr,hm]) (by simp[go_sem,simprocAttr,hm]) ?_
 simp only[go_sem,simprocAttr,hm]
 refine ag (fun k:Nat=>k<=g.es.length) (fun k=>⟨[(29,eN k),(28,eN g.es.length),(27, .d (sE g.es)),(3, .ptr 18 0)], [(18, .box [eN g.n, .d (sE g.es), .ref 13, .ref 16]),(16, .nest 25 3 1 (tT (·.2) g.es g.n.toNat k) none),(13, .nest 25 3 1 (tT (·.1) g.es g.n.toNat k) none)]⟩) (fun k=>g.es.length - k) 0 (by simp) ?_ ?_
 ·refine Le.of ?_ ?_<;>simp[go_sem,simprocAttr,hm]
  exact⟨A4,A4⟩
 rintro k hk
 rcases adj k g.es.length with hlt|hge
 ·have hb:decide ((k:Int)<(g.es.length:Int))=true:=ac6 (by omega)
  obtain⟨yL,Cu⟩:=cU hm hlt
  have hg1:=nT (f:=(·.1)) (es:=g.es) (k:=k) (show(g.es.getD k (0,0)).1.toNat<g.n.toNat by omega)
  have hg2:=nT (f:=(·.2)) (es:=g.es) (k:=k) (show(g.es.getD k (0,0)).2.toNat<g.n.toNat by omega)
  have NY:=kZ (f:=(·.1)) (es:=g.es) (k:=k) (x:=(g.es.getD k (0,0)).1.toNat)
  have Iz:=kZ (f:=(·.2)) (es:=g.es) (k:=k) (x:=(g.es.getD k (0,0)).2.toNat)
  repeat' (first|refine Rn.p ?_|((first|refine Rs.p ?_|with_reducible intro K hK|(refine hK _ ?_;clear hK K));try simp only[go_sem,simprocAttr,hm,hb,hg1,hg2,fz])|with_reducible (first|apply And.intro|(refine oD ?_ ?_;first|(focus(simp only[AA,vG,lS,meets,D9,xZ,OV,eO,yP,vM,Rec.rs,Rec.xW,Rec.UT,jJ,Rec.fm,Rec.names,KV.ids,U2,U3,U4,U5,U6,U7,List.zip_cons_cons,List.zip_nil_right,List.zipIdx_cons,List.zipIdx_nil,List.all_cons,List.all_nil,List.contains_cons,List.contains_nil,List.any_cons,List.any_nil,List.flatMap_nil,List.reverse_cons,List.reverse_nil,nP,NW,Region.binds,go_sem,simprocAttr,hm,hb,hg1,hg2,fz];done))|kernel_rfl))|omega)
  refine⟨k+1,by omega, ?_,by omega⟩
  refine Le.of ?_ ?_<;>simp[go_sem,simprocAttr,hm,hb,hg1,hg2,fz]
  exact⟨A0 (f:=(·.2)) Cu.1,A0 (f:=(·.1)) yL.1⟩
 ·repeat' (first|refine Rn.p ?_|((first|refine Rs.p ?_|with_reducible intro K hK|(refine hK _ ?_;clear hK K));try simp only[go_sem,simprocAttr])|with_reducible (first|apply And.intro|(intro h;try simp only[go_sem,simprocAttr]at h))|omega)
  have:k=g.es.length:=by omega
  subst this
  simp only[vw,sE,sL,eR,tT,aeE]
  rfl
def tl(g:Gr)(i:Nat):Int:=(g.es.getD i (0,0)).1
def hd(g:Gr)(i:Nat):Int:=(g.es.getD i (0,0)).2
def wt(g:Gr)(out:List Int)(y:Nat):Int:=
 if(y:Int)∈out then -1 else(((List.range g.es.length).countP fun i=>decide (hd g i=(y:Int))&& !decide (tl g i∈out):Nat):Int)
def eS(g:Gr)(out:List Int):List Int:=(List.range g.n.toNat).map (wt g out)
def CB(g:Gr):Nat->List Int->List Int
 |0,out=>out
 |f+1,out=>if jg (eS g out) 0<0 then out else CB g f (out++ [jg (eS g out) 0])
def aZ(g:Gr):List Int:=CB g g.n.toNat []
structure gP (g:Gr) (out:List Int):Prop where
 lo:∀x∈out,0<=x/\x<g.n
 back:∀i,i<g.es.length->hd g i∈out->tl g i∈out
 fuel:out.length+(List.range g.n.toNat).countP (fun y:Nat=> !decide ((y:Int)∈out))=g.n.toNat
theorem jK{α:Type}{f:α->Bool}{l:List α}(d:α):bT f l= -1/\(∀x∈l,f x=false)\/∃k:Nat,bT f l=k/\k<l.length/\f (l.getD k d)=true/\∀j,j<k->f (l.getD j d)=false:=by
 cases h:l.findIdx? f with
 |none=>
  rw[aeN]at h
  exact .inl ⟨by simp[bT,aeN.2 h],h⟩
 |some i=>
  obtain⟨hi,hg,hb⟩:=aem.1 h
  refine .inr ⟨i,by simp[bT,h],hi,by simpa[aas,acF hi]using hg,fun j hj=> ?_⟩
  have hjl:j<l.length:=by omega
  have:=hb j hj
  simpa[aas,acF hjl]using this
theorem wts_length{g:Gr}{out:List Int} :(eS g out).length=g.n.toNat:=by simp[eS]
theorem qM{g:Gr}{out:List Int}{y:Nat}(h:y<g.n.toNat)(d:Int):(eS g out).getD y d=wt g out y:=by
 simp[eS,aas,adp h]
theorem qN{p:Nat->Bool}{x:Nat}(hx:p x=true):∀ {n:Nat},x<n->(List.range n).countP (fun y=>p y&& !decide (y=x))+1=(List.range n).countP p
 |0,h=>by omega
 |n+1,h=>by
  rw[adV,aeM,aeM]
  by_cases Gg:x=n
  ·subst Gg
   have:(List.range x).countP (fun y=>p y&& !decide (y=x))=(List.range x).countP p:=by
    refine afi fun y hy=> ?_
    have:y≠x:=by have:=adk.1 hy;omega
    simp[this]
   rw[this]
   simp[afT,hx]
  ·have:=qN hx (n:=n) (by omega)
   have hn:n≠x:=fun e=>Gg e.symm
   simp only[afT,List.countP_nil,hn,decide_false,afs,aeY]
   omega
theorem gP.nil(g:Gr):gP g []:=⟨by simp,by simp,by rw[age,afk.2 (by simp)];simp⟩
theorem gP.next{g:Gr}(hm:aM g=true){out:List Int}(h:gP g out){x:Nat}(hx:x<g.n.toNat)(hw:wt g out x=0):gP g (out++ [(x:Int)])/\(x:Int)∉out/\(∀i,i<g.es.length->hd g i=x->tl g i∈out):=by
 have pE:(x:Int)∉out:=fun hi=>by simp[wt,hi]at hw
 have hb:∀i,i<g.es.length->hd g i=x->tl g i∈out:=by
  intro i hi he
  simp only[wt,pE,if_false]at hw
  have:=ae4.1 (afo hw) i (adk.2 hi)
  simpa[he]using this
 refine⟨⟨?_, ?_, ?_⟩,pE,hb⟩
 ·intro y hy
  rcases ac8.1 hy with hy|hy
  ·exact h.lo y hy
  ·simp at hy;omega
 ·intro i hi hh
  rcases ac8.1 hh with hh|hh
  ·exact adR _ (h.back i hi hh)
  ·simp at hh
   exact adR _ (hb i hi hh)
 ·have h1:=h.fuel
  have h2:=qN (p:=fun y:Nat=> !decide ((y:Int)∈out)) (x:=x) (by simp[pE]) hx
  have h3:(List.range g.n.toNat).countP (fun y:Nat=> !decide ((y:Int)∈out++ [(x:Int)]))=(List.range g.n.toNat).countP (fun y:Nat=>(!decide ((y:Int)∈out))&& !decide (y=x)):=by
   refine afi fun y _=> ?_
   simp;omega
  rw[h3,adi,List.length_singleton]
  omega
def mN(g:Gr)(x:Nat):List Int:=gU (·.1) g.es g.es.length x
def qx(g:Gr)(x:Nat):List Int:=gU (·.2) g.es g.es.length x
theorem Pb{g:Gr}{x:Nat}{e:Int}(h:e∈mN g x):∃i:Nat,e=i/\i<g.es.length/\tl g i=x:=by
 simp only[mN,gU,ada,adI,adk,adb]at h
 obtain⟨i,⟨h1,h2⟩,rfl⟩:=h
 exact⟨i,rfl,h1,h2⟩
def NZ(g:Gr)(out:List Int)(x j y:Nat):Int:=
 if(y:Int)∈out++ [(x:Int)] then -1 else(((List.range g.es.length).countP fun i=>decide (hd g i=(y:Int))&& !decide (tl g i∈out):Nat):Int) - (((mN g x).take j).countP fun e=>decide (hd g e.toNat=(y:Int)):Nat)
def CC(g:Gr)(out:List Int)(x j:Nat):List Int:=(List.range g.n.toNat).map (NZ g out x j)
theorem wtps_length{g:Gr}{out:List Int}{x j:Nat} :(CC g out x j).length=g.n.toNat:=by simp[CC]
theorem vS{g:Gr}{out:List Int}{x j y:Nat}(h:y<g.n.toNat):(CC g out x j)[y]? =some (NZ g out x j y):=by
 simp[CC,adp h]
theorem pH{g:Gr}{out:List Int}{y:Nat}(h:y<g.n.toNat):(eS g out)[y]? =some (wt g out y):=by
 simp[eS,adp h]
theorem Mj{g:Gr}{out:List Int}{x:Nat} :(eS g out).set x (-1)=CC g out x 0:=by
 refine adY fun i=> ?_
 rw[aea,wts_length]
 by_cases hi:i<g.n.toNat
 ·rw[pH hi,vS hi]
  by_cases hx:x=i
  ·subst hx;simp[hi,NZ]
  ·have:¬i=x:=fun e=>hx e.symm
   simp only[hx,if_false,NZ,wt,ac8,adu,List.take_zero,List.countP_nil]
   have h2:¬(i:Int)=(x:Int):=by omega
   simp[h2]
 ·rw[ado (by rw[wts_length];omega),ado (by rw[wtps_length];omega)]
  split
  ·rw[ac7 (by omega)]
  ·rfl
theorem pI{α:Type}{p q r:α->Bool} :∀ {l:List α},(∀a∈l,p a=(q a||r a)/\(q a&&r a)=false)->l.countP p=l.countP q+l.countP r
 | [],_=>rfl
 |a::l,h=>by
  obtain⟨h1,h2⟩:=h a adH
  have:=pI (l:=l) fun b hb=>h b (adz _ hb)
  simp only[afT,this,h1]
  cases hq:q a<;>cases hr:r a<;>simp[hq,hr]at h2 ⊢ <;>omega
theorem Pd{g:Gr}{out:List Int}{x j:Nat}(hx:(x:Int)∉out)(hj:(mN g x).length<=j):CC g out x j=eS g (out++ [(x:Int)]):=by
 refine ae5 fun y _=> ?_
 simp only[NZ,wt]
 split
 ·rfl
 ·rw[adB hj]
  have h1:(mN g x).countP (fun e=>decide (hd g e.toNat=(y:Int)))=(List.range g.es.length).countP (fun i=>decide (hd g i=(y:Int))&&decide (tl g i=(x:Int))):=by
   simp only[mN,gU,List.countP_map,List.countP_filter]
   exact afi fun i _=>by simp[tl]
  have h2:=pI (p:=fun i=>decide (hd g i=(y:Int))&& !decide (tl g i∈out)) (q:=fun i=>decide (hd g i=(y:Int))&& !decide (tl g i∈out++ [(x:Int)])) (r:=fun i=>decide (hd g i=(y:Int))&&decide (tl g i=(x:Int))) (l:=List.range g.es.length) (fun i _=>by
   by_cases h3:tl g i=x
   ·simp[h3,hx]
   ·simp[h3])
  rw[h1,h2];omega
theorem Vh{g:Gr}{out:List Int}{x:Nat}(hP:gP g out)(pE:(x:Int)∉out)(hb:∀i,i<g.es.length->hd g i=x->tl g i∈out){i:Nat}(hi:i<g.es.length)(ht:tl g i=x):hd g i∉out++ [(x:Int)]:=by
 intro h
 rcases ac8.1 h with h|h
 ·exact pE (ht ▸ hP.back i hi h)
 ·simp at h
  exact pE (ht ▸ hb i hi h)
theorem Mk{g:Gr}{out:List Int}{x j i:Nat}(hj:(mN g x)[j]? =some (i:Int))(h0:0<=hd g i)(hn:hd g i∉out++ [(x:Int)]):
 (CC g out x j).set (hd g i).toNat (NZ g out x j (hd g i).toNat - 1)=CC g out x (j+1):=by
 refine adY fun y=> ?_
 rw[aea,wtps_length]
 by_cases hy:y<g.n.toNat
 ·rw[vS hy,vS hy]
  have ht:((mN g x).take (j+1)).countP (fun e=>decide (hd g e.toNat=(y:Int)))=((mN g x).take j).countP (fun e=>decide (hd g e.toNat=(y:Int)))+if hd g i=(y:Int) then 1 else 0:=by
   rw[ad1,aeM,hj]
   simp[afT]
  by_cases hq:(hd g i).toNat=y
  ·subst hq
   have he:((hd g i).toNat:Int)=hd g i:=by omega
   rw[ac9 rfl,ac9 (by assumption)]
   rw[he,ac9 rfl]at ht
   simp only[NZ,he,hn,if_false,ht]
   congr 1;omega
  ·rw[ac7 hq]
   have oW:¬hd g i=(y:Int):=by omega
   simp only[NZ,ht,oW,if_false,Nat.add_zero]
 ·rw[ado (by rw[wtps_length];omega),ado (by rw[wtps_length];omega)]
  split
  ·rw[ac7 (by omega)]
  ·rfl
def RP(f:Edge->Int)(g:Gr):List (List D):=(eR f g).map fun l=> [sI l]
theorem qO{f:Edge->Int}{g:Gr}{x:Nat}(h:x<g.n.toNat)(d:List D):(RP f g).getD x d= [sI (gU f g.es g.es.length x)]:=by
 simp[RP,eR,aas,adp h]
theorem vwl_length{f:Edge->Int}{g:Gr} :(RP f g).length=g.n.toNat:=by simp[RP,eR]
def WC(g:Gr):D:= .pt [.sc (.int .i64 g.n),sE g.es, .sl 1 (RP (·.1) g), .sl 1 (RP (·.2) g)]
theorem cm(g:Gr):vw g=WC g:=rfl
attribute [go_sem] WC wtps_length wts_length vwl_length
theorem Pe{g:Gr}{k:Nat}(h:k<g.n.toNat):(eS g []).take (k+1)=(eS g []).take k++ [((qx g k).length:Int)]:=by
 rw[ad1,pH h]
 simp[wt,qx,gU,hd,age]
theorem Ml{g:Gr}(hm:aM g=true){out:List Int}{x j y:Nat} : -1000<=NZ g out x j y/\NZ g out x j y<=1000:=by
 have hn:=aB hm
 have h1:=aeQ (p:=fun i=>decide (hd g i=(y:Int))&& !decide (tl g i∈out)) (l:=List.range g.es.length)
 have h2:=aeQ (p:=fun e:Int=>decide (hd g e.toNat=(y:Int))) (l:=(mN g x).take j)
 have h3:((mN g x).take j).length<=g.es.length:=aej (List.length_take_le' _ _) kZ
 simp only[ae2]at h1
 unfold NZ
 split<;>omega
theorem Gh{g:Gr}{out:List Int}(h:jg (eS g out) 0<0):∀f,CB g f out=out
 |0=>rfl
 |f+1=>by simp[CB,h]
def left(g:Gr)(out:List Int):Nat:=(List.range g.n.toNat).countP (fun y:Nat=> !decide ((y:Int)∈out))
theorem CZ{g:Gr}{out:List Int}{x:Nat}(h:gP g out)(h':gP g (out++ [(x:Int)])):left g out=left g (out++ [(x:Int)])+1:=by
 have h1:=h.fuel
 have h2:=h'.fuel
 rw[adi,List.length_singleton]at h2
 unfold left;omega
theorem XR{g:Gr}(out:List Int):jg (eS g out) 0= -1\/∃x:Nat,jg (eS g out) 0=x/\x<g.n.toNat/\wt g out x=0:=by
 rcases jK (f:=fun y:Int=>decide (0=y)) (l:=eS g out) 0 with ⟨h,_⟩|⟨k,h1,h2,h3,_⟩
 ·exact .inl h
 ·rw[wts_length]at h2
  rw[qM h2]at h3
  exact .inr ⟨k,h1,h2,by simpa using(aek h3).symm⟩
theorem Pf(g:Gr)(hm:aM g=true):Spec Tryz.prog 161 (Args [.d (vw g)]) [] (.tup [.d (sI (aZ g)), .d (sI (eS g (aZ g)))]) []:=by
 rw[cm]
 have hn:=aB hm
 (refine T.h [22] [] [.t 2, .t 3] Tryz.func161 rfl rfl (by kernel_rfl) fun X hX hP hC aA bB=> ?_)
 repeat' (first|refine Rn.p ?_|((first|refine Rs.p ?_|with_reducible intro K hK|(refine hK _ ?_;clear hK K));try simp only[go_sem,simprocAttr]))
 (refine dQ hX 3 22 (.own 3 1 []) (by simp only[go_sem,simprocAttr]) (by simp only[go_sem,simprocAttr]) (by decide) ⟨3,1,by decide, .inl rfl⟩ ?_;simp only[go_sem,simprocAttr])
 refine ag (fun k:Nat=>k<=g.n.toNat) (fun k=>⟨[(14,eN k),(13,eN g.n.toNat),(12, .d (.sl 1 (RP (·.2) g))),(3, .ref 22),(2, .nil 3),(0, .d (WC g))], [(22, .own 3 1 (((eS g []).take k).map rI))]⟩) (fun k=>g.n.toNat - k) 0 (by simp) ?_ ?_
 ·(refine Le.of ?_ ?_<;>simp[go_sem,simprocAttr])
 ·rintro k hk
  rcases adj k g.n.toNat with hlt|hge
  ·have hb:decide ((k:Int)<(g.n.toNat:Int))=true:=ac6 (by omega)
   have hv:=qO (f:=(·.2)) hlt
   have NY:(qx g k).length<=g.es.length:=kZ
   have hlt':((eS g []).take k).length<=64:=by rw[adG,wts_length];omega
   repeat' (first|refine Rn.p ?_|((first|refine Rs.p ?_|with_reducible intro K hK|(refine hK _ ?_;clear hK K));try simp only[go_sem,simprocAttr,hb,hv])|with_reducible (apply And.intro)|omega)
   refine⟨k+1,by omega, ?_,by omega⟩
   refine Le.of ?_ ?_<;>simp[go_sem,simprocAttr,hb,hv,Pe hlt]
   rfl
  ·obtain rfl:k=g.n.toNat:=by omega
   have hb:decide ((g.n.toNat:Int)<(g.n.toNat:Int))=false:=ac5 (by omega)
   have ht:(eS g []).take g.n.toNat=eS g []:=adB (by rw[wts_length];omega)
   repeat' (first|refine Rn.p ?_|((first|refine Rs.p ?_|with_reducible intro K hK|(refine hK _ ?_;clear hK K));try simp only[go_sem,simprocAttr,hb,ht]))
   (refine dQ hX 2 33 (.tip 3 1 []) (by simp only[go_sem,simprocAttr,hb,ht]) (by simp only[go_sem,simprocAttr,hb,ht]) (by decide) ⟨3,1,by decide, .inr rfl⟩ ?_;simp only[go_sem,simprocAttr,hb,ht])
   refine ag (fun out:List Int=>gP g out/\CB g (left g out) out=aZ g) (fun out=>⟨[(3, .ref 22),(2, .ref 33),(0, .d (WC g))], [(22, .own 3 1 ((eS g out).map rI)),(33, .tip 3 1 (out.map rI))]⟩) (left g) [] ⟨gP.nil g, ?_⟩ ?_ ?_
   ·have:=(gP.nil g).fuel
    simp only[List.length_nil,adT]at this
    unfold left aZ
    rw[this]
   ·(refine Le.of ?_ ?_<;>simp[go_sem,simprocAttr,hb,ht])
   rintro out ⟨dI,hrun⟩
   have Y9:(eS g out).length<=9223372036854775807:=by rw[wts_length];omega
   have hout:out.length<=64:=by have:=dI.fuel;omega
   rcases XR (g:=g) out with hx|⟨x,hx,Gg,hw0⟩
   ·have hr:=Gh (g:=g) (out:=out) (by omega) (left g out)
    rw[hrun]at hr
    repeat' (first|refine Rn.p ?_|((first|refine Rs.p ?_|with_reducible intro K hK|(refine hK _ ?_;clear hK K)|(refine cr (iR (eS g out) 0 Y9) ?_ ?_ ?_;iterate 2 (focus(simp only[go_sem,simprocAttr,hx];done))));try simp only[go_sem,simprocAttr,hx])|with_reducible (apply And.intro))
    ·rw[hr]
    ·rw[hr]
   ·obtain⟨tD,pE,hbk⟩:=dI.next hm Gg hw0
    have hb1:decide ((x:Int)<0)=false:=ac5 (by omega)
    have hv:=qO (f:=(·.1)) Gg
    have NY:(mN g x).length<=g.es.length:=kZ
    repeat' (first|refine Rn.p ?_|((first|refine Rs.p ?_|with_reducible intro K hK|(refine hK _ ?_;clear hK K)|(refine cr (iR (eS g out) 0 Y9) ?_ ?_ ?_;iterate 2 (focus(simp only[go_sem,simprocAttr,hx,hb1,hv];done))));try simp only[go_sem,simprocAttr,hx,hb1,hv])|with_reducible (apply And.intro)|omega)
    refine ag (fun j:Nat=>j<=(mN g x).length) (fun j=>⟨[(45,eN j),(44,eN (mN g x).length),(43, .d (sI (mN g x))),(3, .ref 22),(2, .ref 33),(0, .d (WC g))], [(22, .own 3 1 ((CC g out x j).map rI)),(33, .tip 3 1 ((out++ [(x:Int)]).map rI))]⟩) (fun j=>(mN g x).length - j) 0 (by simp) ?_ ?_
    ·refine Le.of ?_ ?_<;>simp[go_sem,simprocAttr,hx,hb1,hv,mN,rI]
     rw[<- Mj,aeR];rfl
    rintro j hj
    rcases adj j (mN g x).length with hlt|hge
    ·have hb2:decide ((j:Int)<((mN g x).length:Int))=true:=ac6 (by omega)
     obtain⟨i,hi,hil,hit⟩:=Pb (ad2 hlt)
     have hi1:(mN g x)[j]? =some (i:Int):=by rw[acF hlt,hi]
     have hi2:(mN g x).getD j 0=(i:Int):=by rw[aas,hi1];rfl
     have hnew:=Vh dI pE hbk hil hit
     obtain⟨_,Pg,yL⟩:=cU hm hil
     have hnext:=Mk hi1 Pg hnew
     have hw:(CC g out x j).getD (g.es.getD i (0,0)).2.toNat 0=NZ g out x j (hd g i).toNat:=by
      rw[aas,vS (by omega)];rfl
     have hbd:=Ml hm (out:=out) (x:=x) (j:=j) (y:=(hd g i).toNat)
     repeat' (first|refine Rn.p ?_|((first|refine Rs.p ?_|with_reducible intro K hK|(refine hK _ ?_;clear hK K));try simp only[go_sem,simprocAttr,hb2,hi2,hw])|with_reducible (apply And.intro)|omega)
     refine⟨j+1,by omega, ?_,by omega⟩
     refine Le.of ?_ ?_<;>simp[go_sem,simprocAttr,hb2,hi2,hw]
     rw[<- hnext,aeR];rfl
    ·have hb2:decide ((j:Int)<((mN g x).length:Int))=false:=ac5 (by omega)
     repeat' (first|refine Rn.p ?_|((first|refine Rs.p ?_|with_reducible intro K hK|(refine hK _ ?_;clear hK K));try simp only[go_sem,simprocAttr,hb2]))
     have Eh:=CZ dI tD
     refine⟨out++ [(x:Int)],⟨tD, ?_⟩, ?_,by omega⟩
     ·rw[<- hrun,Eh]
      simp only[CB,hx]
      rw[ac7 (by omega)]
     ·refine Le.of ?_ ?_<;>simp[go_sem,simprocAttr,hb2,Pd pE hge]
def qh(l:List Int)(k:Nat):List Int:=(List.range l.length).map fun p=>if p<k\/l.length - 1<p+k then l.getD (l.length - 1 - p) 0 else l.getD p 0
theorem fA{l:List Int}{k:Nat} :(qh l k).length=l.length:=by simp[qh]
theorem nU{l:List Int}{k p:Nat}(h:p<l.length):(qh l k)[p]? =some (if p<k\/l.length - 1<p+k then l.getD (l.length - 1 - p) 0 else l.getD p 0):=by
 simp[qh,adp h]
theorem A5{l:List Int}{k p:Nat}(h:p<l.length)(d:Int):(qh l k).getD p d=if p<k\/l.length - 1<p+k then l.getD (l.length - 1 - p) 0 else l.getD p 0:=by
 rw[aas,nU h];rfl
theorem IA{l:List Int} :qh l 0=l:=by
 refine adY fun i=> ?_
 by_cases hi:i<l.length
 ·rw[nU hi,ac7 (by omega),aas,acF hi];rfl
 ·rw[ado (by rw[fA];omega),ado (by omega)]
theorem Mm{l:List Int}{k:Nat}(h:l.length<=2*k+1):qh l k=l.reverse:=by
 refine adY fun i=> ?_
 by_cases hi:i<l.length
 ·rw[nU hi,afa hi]
  split
  ·rw[aas,acF (by omega)];rfl
  ·have:i=l.length - 1 - i:=by omega
   rw[<- this,aas,acF hi];rfl
 ·rw[ado (by rw[fA];omega),ado (by rw[aeP];omega)]
theorem IB{l:List Int}{k:Nat}(h:k<l.length - 1 - k):((qh l k).set k ((qh l k).getD (l.length - 1 - k) 0)).set (l.length - 1 - k) ((qh l k).getD k 0)=qh l (k+1):=by
 refine adY fun i=> ?_
 rw[aea,adP,fA,aea,fA]
 by_cases hi:i<l.length
 ·rw[nU hi,nU hi,A5 (by omega),A5 (by omega)]
  by_cases h1:l.length - 1 - k=i
  ·rw[ac9 h1,ac9 (by omega),ac7 (by omega),ac9 (by omega)]
   congr 2;omega
  ·rw[ac7 h1]
   by_cases h2:k=i
   ·rw[ac9 h2,ac9 (by omega),ac7 (by omega),ac9 (by omega)]
    congr 2;omega
   ·rw[ac7 h2]
    congr 1
    by_cases h3:i<k\/l.length - 1<i+k
    ·rw[ac9 h3,ac9 (by omega)]
    ·rw[ac7 h3,ac7 (by omega)]
 ·rw[ado (by rw[fA];omega),ado (by rw[fA];omega),ac7 (by omega),ac7 (by omega)]
theorem Ei(l:List Int)(hl:l.length<=1000000):Spec Tryz.prog 82 (Args [.ref 10000]) [(10000, .part 3 1 (l.map rI))] (.tup []) [(10000, .part 3 1 (l.reverse.map rI))]:=by
 (refine T.h [] [] [] Tryz.func82 rfl rfl (by kernel_rfl) fun X hX hP hC aA bB=> ?_)
 repeat' (first|refine Rn.p ?_|((first|refine Rs.p ?_|with_reducible intro K hK|(refine hK _ ?_;clear hK K));try simp only[go_sem,simprocAttr])|with_reducible (apply And.intro)|omega)
 refine ag (fun k:Nat=>2*k<=l.length+1) (fun k=>⟨[(0, .ref 10000),(2,eN k),(3,eN ((l.length:Int) - 1 - k))], [(10000, .part 3 1 ((qh l k).map rI))]⟩) (fun k=>l.length+1 - k) 0 (by omega) ?_ ?_
 ·refine Le.of ?_ ?_<;>simp[go_sem,simprocAttr,IA]
 rintro k hk
 rcases adj (2*k+1) l.length with hlt|hge
 ·have hb:decide ((k:Int)<(l.length:Int) - 1 - (k:Int))=true:=ac6 (by omega)
  have ht:((l.length:Int) - 1 - (k:Int)).toNat=l.length - 1 - k:=by omega
  repeat' (first|refine Rn.p ?_|((first|refine Rs.p ?_|with_reducible intro K hK|(refine hK _ ?_;clear hK K));try simp only[go_sem,simprocAttr,hb,ht,fA,Vf])|with_reducible (first|apply And.intro|refine oD (by kernel_rfl) ?_)|omega)
  refine⟨k+1,by omega, ?_,by omega⟩
  refine Le.of ?_ ?_<;>simp[go_sem,simprocAttr]
  ·omega
  ·rw[<- IB (by omega),aeR,aeR]
   simp only[aas]
 ·have hb:decide ((k:Int)<(l.length:Int) - 1 - (k:Int))=false:=ac5 (by omega)
  repeat' (first|refine Rn.p ?_|((first|refine Rs.p ?_|with_reducible intro K hK|(refine hK _ ?_;clear hK K));try simp only[go_sem,simprocAttr,hb]))
  simp only[go_sem,simprocAttr,hb,Mm hge]
def pJ:List Int->Int
 | []=>0
 |a::r=>r.foldl min a
theorem Mn{l:List Int}{k:Nat}(h0:0<k)(h:k<l.length):pJ (l.take (k+1))=min (pJ (l.take k)) (l.getD k 0):=by
 cases l with
 |nil=>simp at h
 |cons a r=>
  obtain⟨k,rfl⟩:∃j,k=j+1:=⟨k - 1,by omega⟩
  simp only[List.length_cons]at h
  simp only[List.take_succ_cons,pJ,agI]
  rw[ad1,List.foldl_append,acF (by omega),aas,acF (by omega)]
  rfl
theorem Ph{l:List Int}(h:0<l.length):pJ (l.take 1)=l.getD 0 0:=by
 cases l with
 |nil=>simp at h
 |cons a r=>simp[pJ]
theorem Pj(l:List Int)(h0:0<l.length)(hl:l.length<=1000000):Spec Tryz.prog 165 (Args [.d (sI l)]) [] (eN (pJ l)) []:=by
 (refine T.h [] [] [.t 2] Tryz.func165 rfl rfl (by kernel_rfl) fun X hX hP hC aA bB=> ?_)
 repeat' (first|refine Rn.p ?_|((first|refine Rs.p ?_|with_reducible intro K hK|(refine hK _ ?_;clear hK K));try simp only[go_sem,simprocAttr])|with_reducible (first|apply And.intro|(intro h;try simp only[go_sem,simprocAttr]at h))|omega)
 refine ag (fun k:Nat=>0<k/\k<=l.length) (fun k=>⟨[(0, .d (sI l)),(3,eN (pJ (l.take k))),(4,eN k)], []⟩) (fun k=>l.length - k) 1 (by omega) ?_ ?_
 ·refine Le.of ?_ ?_<;>simp[go_sem,simprocAttr,Ph h0]
 rintro k ⟨Ay,hk⟩
 repeat' (first|refine Rn.p ?_|((first|refine Rs.p ?_|with_reducible intro K hK|(refine hK _ ?_;clear hK K));try simp only[go_sem,simprocAttr])|with_reducible (first|apply And.intro|(intro h;try simp only[go_sem,simprocAttr]at h))|omega)
 ·refine⟨k+1,by omega, ?_,by omega⟩
  refine Le.of ?_ ?_<;>simp[go_sem,simprocAttr]
  rw[Mn Ay (by omega),aas]
 ·rw[adB (by omega)]
theorem Mo(n:Int)(h0:0<n)(hl:n<=1000000):Spec Tryz.prog 94 (Args [.nil 3,eN n]) [] (.ref 10000) [(10000, .own 3 1 [])]:=by
 (refine T.hR [] [] [.t 4] [(10000,25)] Tryz.func94 rfl rfl (by kernel_rfl) fun X hX hP hC aA bB=> ?_)
 repeat' (first|refine Rn.p ?_|((first|refine Rs.p ?_|with_reducible intro K hK|(refine hK _ ?_;clear hK K));try simp only[go_sem,simprocAttr])|with_reducible (first|apply And.intro|(intro h;try simp only[go_sem,simprocAttr]at h))|omega)
def vL(ls:List (List Int)):List (List D):=ls.map fun l=> [sI l]
theorem vL_length{ls:List (List Int)} :(vL ls).length=ls.length:=by simp[vL]
theorem Ej{ls:List (List Int)}{k:Nat}(h:k<ls.length)(d:List D):(vL ls).getD k d= [sI (ls.getD k [])]:=by
 simp[vL,aas,acF h]
attribute [go_sem] vL_length
theorem C0{ls:List (List Int)}{k:Nat}(h:k<ls.length):(ls.take (k+1)).flatten=(ls.take k).flatten++ls.getD k []:=by
 rw[ad1,afZ,acF h,aas,acF h]
 simp
theorem zP{ls:List (List Int)}{k:Nat} :(ls.take k).flatten.length<=ls.flatten.length:=by
 have:=congrArg (fun x=>x.flatten.length) (afF k ls)
 simp only[afZ,adi]at this
 omega
theorem yS(ls:List (List Int))(hn:ls.length<=1000)(h0:0<ls.flatten.length)(hl:ls.flatten.length<=1000000):Spec Tryz.prog 45 (Args [.d (.sl 1 (vL ls))]) [] (.d (sI ls.flatten)) []:=by
 (refine T.h [] [] [.t 2] Tryz.func45 rfl rfl (by kernel_rfl) fun X hX hP hC aA bB=> ?_)
 repeat' (first|refine Rn.p ?_|((first|refine Rs.p ?_|with_reducible intro K hK|(refine hK _ ?_;clear hK K));try simp only[go_sem,simprocAttr]))
 refine ag (fun k:Nat=>k<=ls.length) (fun k=>⟨[(0, .d (.sl 1 (vL ls))),(9, .d (.sl 1 (vL ls))),(10,eN ls.length),(11,eN k),(3,eN ((ls.take k).flatten.length))], []⟩) (fun k=>ls.length - k) 0 (by omega) ?_ ?_
 ·(refine Le.of ?_ ?_<;>simp[go_sem,simprocAttr])
 ·rintro k hk
  rcases adj k ls.length with hlt|hge
  ·have hb:decide ((k:Int)<(ls.length:Int))=true:=ac6 (by omega)
   have hv:=Ej hlt
   have hf:=C0 hlt
   have Za:=zP (ls:=ls) (k:=k)
   have Pm:=zP (ls:=ls) (k:=k+1)
   rw[hf,adi]at Pm
   have hneg:decide (((ls.take k).flatten.length:Int)+((ls.getD k []).length:Int)<0)=false:=ac5 (by omega)
   repeat' (first|refine Rn.p ?_|((first|refine Rs.p ?_|with_reducible intro K hK|(refine hK _ ?_;clear hK K));try simp only[go_sem,simprocAttr,hb,hv,hneg])|with_reducible (apply And.intro)|omega)
   refine⟨k+1,by omega, ?_,by omega⟩
   simp only[hf]
   refine Le.of ?_ ?_<;>simp[go_sem,simprocAttr,hb,hv,hneg]
  ·have hb:decide ((k:Int)<(ls.length:Int))=false:=ac5 (by omega)
   have ht:ls.take k=ls:=adB (by omega)
   repeat' (first|refine Rn.p ?_|((first|refine Rs.p ?_|with_reducible intro K hK|(refine hK _ ?_;clear hK K)|(refine aS [(10000,33)] (Mo (ls.flatten.length:Int) (by omega) (by omega)) ?_ ?_;(focus(simp[go_sem,simprocAttr,hb,ht];done))));try simp only[go_sem,simprocAttr,hb,ht]))
   refine ag (fun k:Nat=>k<=ls.length) (fun k=>⟨[(25, .d (.sl 1 (vL ls))),(26,eN ls.length),(27,eN k),(6, .ref 33)], [(33, .own 3 1 ((ls.take k).flatten.map rI))]⟩) (fun k=>ls.length - k) 0 (by omega) ?_ ?_
   ·(refine Le.of ?_ ?_<;>simp[go_sem,simprocAttr,hb,ht])
   ·clear hb ht hk hge
    rintro k hk
    rcases adj k ls.length with hlt|hge
    ·have hb:decide ((k:Int)<(ls.length:Int))=true:=ac6 (by omega)
     have hv:=Ej hlt
     have hf:=C0 hlt
     have Za:=zP (ls:=ls) (k:=k)
     have Pm:=zP (ls:=ls) (k:=k+1)
     rw[hf,adi]at Pm
     repeat' (first|refine Rn.p ?_|((first|refine Rs.p ?_|with_reducible intro K hK|(refine hK _ ?_;clear hK K));try simp only[go_sem,simprocAttr,hb,hv])|with_reducible (apply And.intro)|omega)
     refine⟨k+1,by omega, ?_,by omega⟩
     simp only[hf]
     refine Le.of ?_ ?_<;>simp[go_sem,simprocAttr,hb,hv]
    ·have hb:decide ((k:Int)<(ls.length:Int))=false:=ac5 (by omega)
     have ht:ls.take k=ls:=adB (by omega)
     repeat' (first|refine Rn.p ?_|((first|refine Rs.p ?_|with_reducible intro K hK|(refine hK _ ?_;clear hK K));try simp only[go_sem,simprocAttr,hb,ht]))
def lW(ls:List (List Int))(k:Nat):List Int:=((List.range k).filter fun x=>decide ((ls.getD x []).length=0)).map Int.ofNat
theorem uG{ls:List (List Int)}{k:Nat} :lW ls (k+1)=lW ls k++if(ls.getD k []).length=0 then [(k:Int)] else []:=by
 simp only[lW,adV,ad8,ads,aeD,List.filter_nil]
 split<;>simp_all
theorem C1{ls:List (List Int)}{k:Nat} :(lW ls k).length<=k:=by
 simpa[lW]using aeH (fun x=>decide ((ls.getD x []).length=0)) (List.range k)
theorem C2(ls:List (List Int))(hn:ls.length<=1000):Spec Tryz.prog 93 (Args [.d (.sl 1 (vL ls))]) [] (.d (sI (lW ls ls.length))) []:=by
 (refine T.h [] [] [.t 2] Tryz.func93 rfl rfl (by kernel_rfl) fun X hX hP hC aA bB=> ?_)
 repeat' (first|refine Rn.p ?_|((first|refine Rs.p ?_|with_reducible intro K hK|(refine hK _ ?_;clear hK K));try simp only[go_sem,simprocAttr]))
 (refine dQ hX 2 18 (.tip 3 1 []) (by simp only[go_sem,simprocAttr]) (by simp only[go_sem,simprocAttr]) (by decide) ⟨3,1,by decide, .inr rfl⟩ ?_;simp only[go_sem,simprocAttr])
 refine ag (fun k:Nat=>k<=ls.length) (fun k=>⟨[(5, .d (.sl 1 (vL ls))),(6,eN ls.length),(7,eN k),(2, .ref 18)], [(18, .tip 3 1 ((lW ls k).map rI))]⟩) (fun k=>ls.length - k) 0 (by omega) ?_ ?_
 ·refine Le.of ?_ ?_<;>simp[go_sem,simprocAttr,lW]
 ·rintro k hk
  rcases adj k ls.length with hlt|hge
  ·have hb:decide ((k:Int)<(ls.length:Int))=true:=ac6 (by omega)
   have hv:=Ej hlt
   have hlen:=C1 (ls:=ls) (k:=k)
   repeat' (first|refine Rn.p ?_|((first|refine Rs.p ?_|with_reducible intro K hK|(refine hK _ ?_;clear hK K));try simp only[go_sem,simprocAttr,hb,hv])|with_reducible (first|apply And.intro|(intro h;try simp only[go_sem,simprocAttr,hb,hv]at h))|omega)
   ·refine⟨k+1,by omega, ?_,by omega⟩
    rw[uG,ac9 (by omega)]
    refine Le.of ?_ ?_<;>simp[go_sem,simprocAttr,hb,hv]
    rfl
   ·refine⟨k+1,by omega, ?_,by omega⟩
    rw[uG,ac7 (by omega),ad4]
    refine Le.of ?_ ?_<;>simp[go_sem,simprocAttr,hb,hv]
  ·have hb:decide ((k:Int)<(ls.length:Int))=false:=ac5 (by omega)
   obtain rfl:k=ls.length:=by omega
   repeat' (first|refine Rn.p ?_|((first|refine Rs.p ?_|with_reducible intro K hK|(refine hK _ ?_;clear hK K));try simp only[go_sem,simprocAttr,hb]))
theorem Pn{f:Edge->Int}{g:Gr} :RP f g=vL (eR f g):=rfl
theorem kO{f:Edge->Int}{g:Gr} :(eR f g).length=g.n.toNat:=by simp[eR]
def bZ(f:Edge->Int)(g:Gr):List Int:=lW (eR f g) g.n.toNat
theorem Ek(g:Gr)(hm:aM g=true):Spec Tryz.prog 41 (Args [.d (vw g)]) [] (.d (sI (bZ (·.2) g))) []:=by
 rw[cm]
 have hn:=aB hm
 have hle:(eR (·.2) g).length<=1000:=by rw[kO];omega
 (refine T.h [] [] [.t 2] Tryz.func41 rfl rfl (by kernel_rfl) fun X hX hP hC aA bB=> ?_)
 repeat' (first|refine Rn.p ?_|((first|refine Rs.p ?_|with_reducible intro K hK|(refine hK _ ?_;clear hK K)|(rw[Pn];refine aa (C2 (eR (·.2) g) hle) rfl ?_));try simp only[go_sem,simprocAttr]))
 rw[kO];rfl
theorem IC(g:Gr)(hm:aM g=true):Spec Tryz.prog 42 (Args [.d (vw g)]) [] (.d (sI (bZ (·.1) g))) []:=by
 rw[cm]
 have hn:=aB hm
 have hle:(eR (·.1) g).length<=1000:=by rw[kO];omega
 (refine T.h [] [] [.t 2] Tryz.func42 rfl rfl (by kernel_rfl) fun X hX hP hC aA bB=> ?_)
 repeat' (first|refine Rn.p ?_|((first|refine Rs.p ?_|with_reducible intro K hK|(refine hK _ ?_;clear hK K)|(rw[Pn];refine aa (C2 (eR (·.1) g) hle) rfl ?_));try simp only[go_sem,simprocAttr]))
 rw[kO];rfl
end Go.Ab
end
