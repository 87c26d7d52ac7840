/- DERIVED: THE SHELF's CONTRACTS AT THIS DUMP, IN PLAIN WORDS (tools/lay-plain.mjs out of 'BnSh0.lean', which tools/lay-shelf.mjs wrote): THE SAME DECLARATIONS UNDER THE SAME NAMES: 'import', 'namespace', 'open', 'def', 'theorem' AND NOTHING ELSE: no command of the shelf's: FOR A HAND-IN. Each laying: the table of numbers ('.._ren') and one theorem, a field a fact of the dump's own or the kernel's comparison; each contract: ONE APPLICATION. -/
import Derived.Shelf.SlGeneric
import Derived.Shelf.SortM.Plain
import Derived.Shelf.SortM.SortNone
import Derived.Ground.SlgmProg
import Derived.Test.YtameldglfobjkaaProg
import Derived.Test.YtameldglfobjkaaL6P11
set_option linter.unusedSimpArgs false
set_option linter.unusedVariables false
namespace Go.Proofs
open Go.Shelf
def Try.ta:Go.Shelf.Ren:=⟨fun|5=>106|8=>72|7=>118|19=>97|20=>98|10=>123|11=>124|12=>125|13=>126|14=>127|15=>128|16=>129|17=>130|18=>131|30=>133|31=>113|32=>114|33=>134|34=>135|35=>136|40=>137|n=>n,fun|23=>25|25=>3|3=>3|32=>117|22=>25|0=>0|44=>146|46=>55|4=>4|36=>139|35=>138|41=>143|5=>5|9=>9|53=>157|57=>161|63=>168|64=>169|n=>n,fun|n=>n⟩
theorem Try.yI:Go.Proofs.SlLaysM.n5 Try.prog Try.ta:= {
 mixed:=by kernel_rfl
 f5:=⟨Try.f106.name,by decide,Try.func106.trans (congrArg some (by kernel_rfl))⟩
 f7:=⟨Try.f118.name,by decide,Try.func118.trans (congrArg some (by kernel_rfl))⟩
 f8:=Try.func72.trans (congrArg some (by kernel_rfl))
 f10:=⟨Try.f123.name,by decide,Try.func123.trans (congrArg some (by kernel_rfl))⟩
 f11:=⟨Try.f124.name,by decide,Try.func124.trans (congrArg some (by kernel_rfl))⟩
 f12:=⟨Try.f125.name,by decide,Try.func125.trans (congrArg some (by kernel_rfl))⟩
 f13:=⟨Try.f126.name,by decide,Try.func126.trans (congrArg some (by kernel_rfl))⟩
 f14:=⟨Try.f127.name,by decide,Try.func127.trans (congrArg some (by kernel_rfl))⟩
 f15:=⟨Try.f128.name,by decide,Try.func128.trans (congrArg some (by kernel_rfl))⟩
 f16:=⟨Try.f129.name,by decide,Try.func129.trans (congrArg some (by kernel_rfl))⟩
 f17:=⟨Try.f130.name,by decide,Try.func130.trans (congrArg some (by kernel_rfl))⟩
 f18:=⟨Try.f131.name,by decide,Try.func131.trans (congrArg some (by kernel_rfl))⟩
 f19:=Try.func97.trans (congrArg some (by kernel_rfl))
 f20:=Try.func98.trans (congrArg some (by kernel_rfl))
 f30:=⟨Try.f133.name,by decide,Try.func133.trans (congrArg some (by kernel_rfl))⟩
 f31:=Try.func113.trans (congrArg some (by kernel_rfl))
 f32:=Try.func114.trans (congrArg some (by kernel_rfl))
 f33:=⟨Try.f134.name,by decide,Try.func134.trans (congrArg some (by kernel_rfl))⟩
 f34:=⟨Try.f135.name,by decide,Try.func135.trans (congrArg some (by kernel_rfl))⟩
 f35:=⟨Try.f136.name,by decide,Try.func136.trans (congrArg some (by kernel_rfl))⟩
 f40:=⟨Try.f137.name,by decide,Try.func137.trans (congrArg some (by kernel_rfl))⟩
 t0:=Try.underlying0
 a0:=Try.isAgg0
 z0:=Try.sizeOf0
 v0:=Try.zeroValue0
 t3:=Try.underlying3
 a3:=Try.isAgg3
 z3:=Try.sizeOf3
 v3:=Try.zeroValue3
 t4:=Try.underlying4
 a4:=Try.isAgg4
 z4:=Try.sizeOf4
 v4:=Try.zeroValue4
 t5:=Try.underlying5
 a5:=Try.isAgg5
 z5:=Try.sizeOf5
 v5:=Try.zeroValue5
 t9:=Try.underlying9
 a9:=Try.isAgg9
 z9:=Try.sizeOf9
 v9:=Try.zeroValue9
 t22:=Try.underlying25
 a22:=Try.isAgg25
 z22:=Try.sizeOf25
 v22:=Try.zeroValue25
 t23:=Try.underlying25
 a23:=Try.isAgg25
 z23:=Try.sizeOf25
 v23:=Try.zeroValue25
 t25:=Try.underlying3
 a25:=Try.isAgg3
 z25:=Try.sizeOf3
 v25:=Try.zeroValue3
 t32:=Try.underlying117
 a32:=Try.isAgg117
 z32:=Try.sizeOf117
 v32:=Try.zeroValue117
 t35:=Try.underlying138
 a35:=Try.isAgg138
 z35:=Try.sizeOf138
 v35:=Try.zeroValue138
 t36:=Try.underlying139
 a36:=Try.isAgg139
 z36:=Try.sizeOf139
 v36:=Try.zeroValue139
 t41:=Try.underlying143
 a41:=Try.isAgg143
 z41:=Try.sizeOf143
 v41:=Try.zeroValue143
 t44:=Try.underlying146
 a44:=Try.isAgg146
 z44:=Try.sizeOf146
 v44:=Try.zeroValue146
 t46:=Try.underlying55
 a46:=Try.isAgg55
 z46:=Try.sizeOf55
 v46:=Try.zeroValue55
 t53:=Try.underlying157
 a53:=Try.isAgg157
 z53:=Try.sizeOf157
 v53:=Try.zeroValue157
 t57:=Try.underlying161
 a57:=Try.isAgg161
 z57:=Try.sizeOf161
 v57:=Try.zeroValue161
 t63:=Try.underlying168
 a63:=Try.isAgg168
 z63:=Try.sizeOf168
 v63:=Try.zeroValue168
 t64:=Try.underlying169
 a64:=Try.isAgg169
 z64:=Try.sizeOf169
 v64:=Try.zeroValue169}
end Go.Proofs
