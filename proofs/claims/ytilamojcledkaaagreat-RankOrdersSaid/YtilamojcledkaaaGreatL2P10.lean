/- DERIVED: THE SHELF's CONTRACTS AT THIS DUMP, IN PLAIN WORDS (tools/lay-plain.mjs out of 'ShSort0.lean', which tools/lay-shelf.mjs wrote): THE SAME DECLARATIONS UNDER THE SAME NAMES: 'import', 'namespace', 'open', 'def', 'theorem' AND NOTHING ELSE: no command of the shelf's: FOR A HAND-IN. Each laying: the table of numbers ('.._ren') and one theorem, a field a fact of the dump's own or the kernel's comparison; each contract: ONE APPLICATION. -/
import Derived.Shelf.SlGeneric
import Derived.Shelf.SortM.Plain
import Derived.Shelf.SortM.SortNone
import Derived.Ground.SlgmProg
import Derived.Test.YtilamojcledkaaaGreatProg
import Derived.Test.YtilamojcledkaaaGreatL2P9
set_option linter.unusedSimpArgs false
set_option linter.unusedVariables false
namespace Go.Proofs
open Go.Shelf
def Tryz.mSort_ren : Go.Shelf.Ren := ⟨fun | 5 => 129 | 8 => 74 | 7 => 154 | 19 => 123 | 20 => 124 | 10 => 161 | 11 => 162 | 12 => 163 | 13 => 164 | 14 => 165 | 15 => 166 | 16 => 167 | 17 => 168 | 18 => 169 | 30 => 171 | 31 => 149 | 32 => 150 | 33 => 172 | 34 => 173 | 35 => 77 | 40 => 174 | n => n, fun | 23 => 25 | 25 => 3 | 3 => 3 | 32 => 117 | 22 => 25 | 0 => 0 | 44 => 158 | 46 => 160 | 4 => 4 | 36 => 151 | 35 => 150 | 41 => 155 | 5 => 5 | 9 => 9 | 53 => 177 | 57 => 181 | 63 => 189 | 64 => 44 | n => n, fun | n => n⟩
theorem Tryz.mSort : Go.Proofs.SlLaysM.n5 Tryz.prog Tryz.mSort_ren := {
 mixed := by kernel_rfl
 f5 := ⟨Tryz.f129.name, by decide, Tryz.func129.trans (congrArg some (by kernel_rfl))⟩
 f7 := ⟨Tryz.f154.name, by decide, Tryz.func154.trans (congrArg some (by kernel_rfl))⟩
 f8 := Tryz.func74.trans (congrArg some (by kernel_rfl))
 f10 := ⟨Tryz.f161.name, by decide, Tryz.func161.trans (congrArg some (by kernel_rfl))⟩
 f11 := ⟨Tryz.f162.name, by decide, Tryz.func162.trans (congrArg some (by kernel_rfl))⟩
 f12 := ⟨Tryz.f163.name, by decide, Tryz.func163.trans (congrArg some (by kernel_rfl))⟩
 f13 := ⟨Tryz.f164.name, by decide, Tryz.func164.trans (congrArg some (by kernel_rfl))⟩
 f14 := ⟨Tryz.f165.name, by decide, Tryz.func165.trans (congrArg some (by kernel_rfl))⟩
 f15 := ⟨Tryz.f166.name, by decide, Tryz.func166.trans (congrArg some (by kernel_rfl))⟩
 f16 := ⟨Tryz.f167.name, by decide, Tryz.func167.trans (congrArg some (by kernel_rfl))⟩
 f17 := ⟨Tryz.f168.name, by decide, Tryz.func168.trans (congrArg some (by kernel_rfl))⟩
 f18 := ⟨Tryz.f169.name, by decide, Tryz.func169.trans (congrArg some (by kernel_rfl))⟩
 f19 := Tryz.func123.trans (congrArg some (by kernel_rfl))
 f20 := Tryz.func124.trans (congrArg some (by kernel_rfl))
 f30 := ⟨Tryz.f171.name, by decide, Tryz.func171.trans (congrArg some (by kernel_rfl))⟩
 f31 := Tryz.func149.trans (congrArg some (by kernel_rfl))
 f32 := Tryz.func150.trans (congrArg some (by kernel_rfl))
 f33 := ⟨Tryz.f172.name, by decide, Tryz.func172.trans (congrArg some (by kernel_rfl))⟩
 f34 := ⟨Tryz.f173.name, by decide, Tryz.func173.trans (congrArg some (by kernel_rfl))⟩
 f35 := ⟨Tryz.f77.name, by decide, Tryz.func77.trans (congrArg some (by kernel_rfl))⟩
 f40 := ⟨Tryz.f174.name, by decide, Tryz.func174.trans (congrArg some (by kernel_rfl))⟩
 t0 := Tryz.underlying0
 a0 := Tryz.isAgg0
 z0 := Tryz.sizeOf0
 v0 := Tryz.zeroValue0
 t3 := Tryz.underlying3
 a3 := Tryz.isAgg3
 z3 := Tryz.sizeOf3
 v3 := Tryz.zeroValue3
 t4 := Tryz.underlying4
 a4 := Tryz.isAgg4
 z4 := Tryz.sizeOf4
 v4 := Tryz.zeroValue4
 t5 := Tryz.underlying5
 a5 := Tryz.isAgg5
 z5 := Tryz.sizeOf5
 v5 := Tryz.zeroValue5
 t9 := Tryz.underlying9
 a9 := Tryz.isAgg9
 z9 := Tryz.sizeOf9
 v9 := Tryz.zeroValue9
 t22 := Tryz.underlying25
 a22 := Tryz.isAgg25
 z22 := Tryz.sizeOf25
 v22 := Tryz.zeroValue25
 t23 := Tryz.underlying25
 a23 := Tryz.isAgg25
 z23 := Tryz.sizeOf25
 v23 := Tryz.zeroValue25
 t25 := Tryz.underlying3
 a25 := Tryz.isAgg3
 z25 := Tryz.sizeOf3
 v25 := Tryz.zeroValue3
 t32 := Tryz.underlying117
 a32 := Tryz.isAgg117
 z32 := Tryz.sizeOf117
 v32 := Tryz.zeroValue117
 t35 := Tryz.underlying150
 a35 := Tryz.isAgg150
 z35 := Tryz.sizeOf150
 v35 := Tryz.zeroValue150
 t36 := Tryz.underlying151
 a36 := Tryz.isAgg151
 z36 := Tryz.sizeOf151
 v36 := Tryz.zeroValue151
 t41 := Tryz.underlying155
 a41 := Tryz.isAgg155
 z41 := Tryz.sizeOf155
 v41 := Tryz.zeroValue155
 t44 := Tryz.underlying158
 a44 := Tryz.isAgg158
 z44 := Tryz.sizeOf158
 v44 := Tryz.zeroValue158
 t46 := Tryz.underlying160
 a46 := Tryz.isAgg160
 z46 := Tryz.sizeOf160
 v46 := Tryz.zeroValue160
 t53 := Tryz.underlying177
 a53 := Tryz.isAgg177
 z53 := Tryz.sizeOf177
 v53 := Tryz.zeroValue177
 t57 := Tryz.underlying181
 a57 := Tryz.isAgg181
 z57 := Tryz.sizeOf181
 v57 := Tryz.zeroValue181
 t63 := Tryz.underlying189
 a63 := Tryz.isAgg189
 z63 := Tryz.sizeOf189
 v63 := Tryz.zeroValue189
 t64 := Tryz.underlying44
 a64 := Tryz.isAgg44
 z64 := Tryz.sizeOf44
 v64 := Tryz.zeroValue44 }
end Go.Proofs
