/- DERIVED: THE SHELF's CONTRACTS AT THIS DUMP, IN PLAIN WORDS (tools/lay-plain.mjs out of 'ShSort0.lean', which tools/lay-shelf.mjs wrote): THE SAME DECLARATIONS UNDER THE SAME NAMES: 'import', 'namespace', 'open', 'def', 'theorem' AND NOTHING ELSE: no command of the shelf's: FOR A HAND-IN. Each laying: the table of numbers ('.._ren') and one theorem, a field a fact of the dump's own or the kernel's comparison; each contract: ONE APPLICATION. -/
import Derived.Shelf.SlGeneric
import Derived.Shelf.SortM.Plain
import Derived.Shelf.SortM.SortNone
import Derived.Ground.SlgmProg
import Derived.Test.YtilamojcledkaaaProg
import Derived.Test.YtilamojcledkaaaL7P9
set_option linter.unusedSimpArgs false
set_option linter.unusedVariables false
namespace Go.Proofs
open Go.Shelf
def Try.mSort_ren : Go.Shelf.Ren := ⟨fun | 5 => 101 | 8 => 140 | 7 => 139 | 19 => 158 | 20 => 159 | 10 => 149 | 11 => 150 | 12 => 151 | 13 => 152 | 14 => 153 | 15 => 154 | 16 => 155 | 17 => 156 | 18 => 157 | 30 => 161 | 31 => 162 | 32 => 163 | 33 => 164 | 34 => 165 | 35 => 160 | 40 => 166 | n => n, fun | 23 => 32 | 25 => 3 | 3 => 3 | 32 => 176 | 22 => 32 | 0 => 0 | 44 => 192 | 46 => 194 | 4 => 4 | 36 => 184 | 35 => 183 | 41 => 189 | 5 => 5 | 9 => 9 | 53 => 195 | 57 => 199 | 63 => 201 | 64 => 36 | n => n, fun | n => n⟩
theorem Try.mSort : Go.Proofs.SlLaysM.n5 Try.prog Try.mSort_ren := {
 mixed := by kernel_rfl
 f5 := ⟨Try.f101.name, by decide, Try.func101.trans (congrArg some (by kernel_rfl))⟩
 f7 := ⟨Try.f139.name, by decide, Try.func139.trans (congrArg some (by kernel_rfl))⟩
 f8 := Try.func140.trans (congrArg some (by kernel_rfl))
 f10 := ⟨Try.f149.name, by decide, Try.func149.trans (congrArg some (by kernel_rfl))⟩
 f11 := ⟨Try.f150.name, by decide, Try.func150.trans (congrArg some (by kernel_rfl))⟩
 f12 := ⟨Try.f151.name, by decide, Try.func151.trans (congrArg some (by kernel_rfl))⟩
 f13 := ⟨Try.f152.name, by decide, Try.func152.trans (congrArg some (by kernel_rfl))⟩
 f14 := ⟨Try.f153.name, by decide, Try.func153.trans (congrArg some (by kernel_rfl))⟩
 f15 := ⟨Try.f154.name, by decide, Try.func154.trans (congrArg some (by kernel_rfl))⟩
 f16 := ⟨Try.f155.name, by decide, Try.func155.trans (congrArg some (by kernel_rfl))⟩
 f17 := ⟨Try.f156.name, by decide, Try.func156.trans (congrArg some (by kernel_rfl))⟩
 f18 := ⟨Try.f157.name, by decide, Try.func157.trans (congrArg some (by kernel_rfl))⟩
 f19 := Try.func158.trans (congrArg some (by kernel_rfl))
 f20 := Try.func159.trans (congrArg some (by kernel_rfl))
 f30 := ⟨Try.f161.name, by decide, Try.func161.trans (congrArg some (by kernel_rfl))⟩
 f31 := Try.func162.trans (congrArg some (by kernel_rfl))
 f32 := Try.func163.trans (congrArg some (by kernel_rfl))
 f33 := ⟨Try.f164.name, by decide, Try.func164.trans (congrArg some (by kernel_rfl))⟩
 f34 := ⟨Try.f165.name, by decide, Try.func165.trans (congrArg some (by kernel_rfl))⟩
 f35 := ⟨Try.f160.name, by decide, Try.func160.trans (congrArg some (by kernel_rfl))⟩
 f40 := ⟨Try.f166.name, by decide, Try.func166.trans (congrArg some (by kernel_rfl))⟩
 t0 := Try.underlying0
 a0 := Try.isAgg0
 z0 := Try.sizeOf0
 v0 := Try.zeroValue0
 t3 := Try.underlying3
 a3 := Try.isAgg3
 z3 := Try.sizeOf3
 v3 := Try.zeroValue3
 t4 := Try.underlying4
 a4 := Try.isAgg4
 z4 := Try.sizeOf4
 v4 := Try.zeroValue4
 t5 := Try.underlying5
 a5 := Try.isAgg5
 z5 := Try.sizeOf5
 v5 := Try.zeroValue5
 t9 := Try.underlying9
 a9 := Try.isAgg9
 z9 := Try.sizeOf9
 v9 := Try.zeroValue9
 t22 := Try.underlying32
 a22 := Try.isAgg32
 z22 := Try.sizeOf32
 v22 := Try.zeroValue32
 t23 := Try.underlying32
 a23 := Try.isAgg32
 z23 := Try.sizeOf32
 v23 := Try.zeroValue32
 t25 := Try.underlying3
 a25 := Try.isAgg3
 z25 := Try.sizeOf3
 v25 := Try.zeroValue3
 t32 := Try.underlying176
 a32 := Try.isAgg176
 z32 := Try.sizeOf176
 v32 := Try.zeroValue176
 t35 := Try.underlying183
 a35 := Try.isAgg183
 z35 := Try.sizeOf183
 v35 := Try.zeroValue183
 t36 := Try.underlying184
 a36 := Try.isAgg184
 z36 := Try.sizeOf184
 v36 := Try.zeroValue184
 t41 := Try.underlying189
 a41 := Try.isAgg189
 z41 := Try.sizeOf189
 v41 := Try.zeroValue189
 t44 := Try.underlying192
 a44 := Try.isAgg192
 z44 := Try.sizeOf192
 v44 := Try.zeroValue192
 t46 := Try.underlying194
 a46 := Try.isAgg194
 z46 := Try.sizeOf194
 v46 := Try.zeroValue194
 t53 := Try.underlying195
 a53 := Try.isAgg195
 z53 := Try.sizeOf195
 v53 := Try.zeroValue195
 t57 := Try.underlying199
 a57 := Try.isAgg199
 z57 := Try.sizeOf199
 v57 := Try.zeroValue199
 t63 := Try.underlying201
 a63 := Try.isAgg201
 z63 := Try.sizeOf201
 v63 := Try.zeroValue201
 t64 := Try.underlying36
 a64 := Try.isAgg36
 z64 := Try.sizeOf36
 v64 := Try.zeroValue36 }
end Go.Proofs
