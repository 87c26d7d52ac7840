/- DERIVED: THE SHELF's CONTRACTS AT THIS DUMP, IN PLAIN WORDS (tools/lay-plain.mjs out of 'BnSf0.lean', which tools/lay-shelf.mjs wrote): THE SAME DECLARATIONS UNDER THE SAME NAMES: 'import', 'namespace', 'open', 'def', 'theorem' AND NOTHING ELSE: no command of the shelf's: FOR A HAND-IN. Each laying: the table of numbers ('.._ren') and one theorem, a field a fact of the dump's own or the kernel's comparison; each contract: ONE APPLICATION. -/
import Derived.Shelf.SlGeneric
import Derived.Shelf.SlLaysF
import Derived.Shelf.SlicesG.Cmp
import Derived.Ground.SlsfProg
import Derived.Ground.SlgcProg
import Derived.Test.YtameldglfobjkaaProg
import Derived.Test.YtameldglfobjkaaL6P13
set_option linter.unusedSimpArgs false
set_option linter.unusedVariables false
namespace Go.Proofs
open Go.Shelf
def Try.qB:Go.Shelf.Ren:=⟨fun|6=>41|15=>72|14=>71|28=>97|29=>98|20=>89|21=>90|22=>91|23=>92|24=>93|25=>94|26=>95|27=>96|46=>112|47=>113|48=>114|49=>115|50=>116|57=>122|n=>n,fun|22=>26|24=>25|25=>84|3=>3|39=>117|0=>0|53=>146|55=>55|4=>4|46=>139|45=>138|50=>143|5=>5|9=>9|66=>157|70=>161|76=>168|77=>169|n=>n,fun|n=>n⟩
theorem Try.vj:Go.Proofs.SlLaysF.n6 Try.prog Try.qB:= {
 mixed:=by kernel_rfl
 f6:=⟨Try.f41.name,by decide,Try.func41.trans (congrArg some (by kernel_rfl))⟩
 f14:=⟨Try.f71.name,by decide,Try.func71.trans (congrArg some (by kernel_rfl))⟩
 f15:=Try.func72.trans (congrArg some (by kernel_rfl))
 f20:=⟨Try.f89.name,by decide,Try.func89.trans (congrArg some (by kernel_rfl))⟩
 f21:=⟨Try.f90.name,by decide,Try.func90.trans (congrArg some (by kernel_rfl))⟩
 f22:=⟨Try.f91.name,by decide,Try.func91.trans (congrArg some (by kernel_rfl))⟩
 f23:=⟨Try.f92.name,by decide,Try.func92.trans (congrArg some (by kernel_rfl))⟩
 f24:=⟨Try.f93.name,by decide,Try.func93.trans (congrArg some (by kernel_rfl))⟩
 f25:=⟨Try.f94.name,by decide,Try.func94.trans (congrArg some (by kernel_rfl))⟩
 f26:=⟨Try.f95.name,by decide,Try.func95.trans (congrArg some (by kernel_rfl))⟩
 f27:=⟨Try.f96.name,by decide,Try.func96.trans (congrArg some (by kernel_rfl))⟩
 f28:=Try.func97.trans (congrArg some (by kernel_rfl))
 f29:=Try.func98.trans (congrArg some (by kernel_rfl))
 f46:=⟨Try.f112.name,by decide,Try.func112.trans (congrArg some (by kernel_rfl))⟩
 f47:=Try.func113.trans (congrArg some (by kernel_rfl))
 f48:=Try.func114.trans (congrArg some (by kernel_rfl))
 f49:=⟨Try.f115.name,by decide,Try.func115.trans (congrArg some (by kernel_rfl))⟩
 f50:=⟨Try.f116.name,by decide,Try.func116.trans (congrArg some (by kernel_rfl))⟩
 f57:=⟨Try.f122.name,by decide,Try.func122.trans (congrArg some (by kernel_rfl))⟩
 t0:=Try.underlying0
 a0:=Try.isAgg0
 z0:=Try.sizeOf0
 v0:=Try.zeroValue0
 t3:=Try.underlying3
 a3:=Try.isAgg3
 z3:=Try.sizeOf3
 v3:=Try.zeroValue3
 t4:=Try.underlying4
 a4:=Try.isAgg4
 z4:=Try.sizeOf4
 v4:=Try.zeroValue4
 t5:=Try.underlying5
 a5:=Try.isAgg5
 z5:=Try.sizeOf5
 v5:=Try.zeroValue5
 t9:=Try.underlying9
 a9:=Try.isAgg9
 z9:=Try.sizeOf9
 v9:=Try.zeroValue9
 t22:=Try.underlying26
 a22:=Try.isAgg26
 z22:=Try.sizeOf26
 v22:=Try.zeroValue26
 a24:=Try.isAgg25
 z24:=Try.sizeOf25
 t25:=Try.underlying84
 a25:=Try.isAgg84
 z25:=Try.sizeOf84
 v25:=Try.zeroValue84
 t39:=Try.underlying117
 a39:=Try.isAgg117
 z39:=Try.sizeOf117
 v39:=Try.zeroValue117
 t45:=Try.underlying138
 a45:=Try.isAgg138
 z45:=Try.sizeOf138
 v45:=Try.zeroValue138
 t46:=Try.underlying139
 a46:=Try.isAgg139
 z46:=Try.sizeOf139
 v46:=Try.zeroValue139
 t50:=Try.underlying143
 a50:=Try.isAgg143
 z50:=Try.sizeOf143
 v50:=Try.zeroValue143
 t53:=Try.underlying146
 a53:=Try.isAgg146
 z53:=Try.sizeOf146
 v53:=Try.zeroValue146
 t55:=Try.underlying55
 a55:=Try.isAgg55
 z55:=Try.sizeOf55
 v55:=Try.zeroValue55
 t66:=Try.underlying157
 a66:=Try.isAgg157
 z66:=Try.sizeOf157
 v66:=Try.zeroValue157
 t70:=Try.underlying161
 a70:=Try.isAgg161
 z70:=Try.sizeOf161
 v70:=Try.zeroValue161
 t76:=Try.underlying168
 a76:=Try.isAgg168
 z76:=Try.sizeOf168
 v76:=Try.zeroValue168
 t77:=Try.underlying169
 a77:=Try.isAgg169
 z77:=Try.sizeOf169
 v77:=Try.zeroValue169}
end Go.Proofs
