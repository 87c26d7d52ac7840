/- A part of the proof. -/
import Derived.Test.YtilamojcledkaaaGreatProg
import Derived.Test.YtilamojcledkaaaGreatL2P8
set_option linter.unusedSimpArgs false
set_option linter.unusedVariables false
section
namespace Go.Ab.T
open Go.Proofs
def T : Nat → Option TI
 | 1 => some ⟨.sc, 1, 8, [(.d (.sc .nilFunc))]⟩
 | 2 => some ⟨(.int .i64), 1, 8, [(.d (.sc (.int .i64 0)))]⟩
 | 3 => some ⟨(.int .i64), 1, 8, [(.d (.sc (.int .i64 0)))]⟩
 | 4 => some ⟨.bool, 1, 1, [(.d (.sc (.bool false)))]⟩
 | 5 => some ⟨(.int .u8), 1, 1, [(.d (.sc (.int .u8 0)))]⟩
 | 9 => some ⟨.sc, 1, 16, [(.d (.sc (.string ⟨#[]⟩)))]⟩
 | 12 => some ⟨(.int .u64), 1, 8, [(.d (.sc (.int .u64 0)))]⟩
 | 21 => some ⟨(.int .i32), 1, 4, [(.d (.sc (.int .i32 0)))]⟩
 | 22 => some ⟨(.sl 51), 1, 24, [(.nil 51)]⟩
 | 24 => some ⟨(.st [(0, 3), (1, 22)]), 2, 32, [(.d (.sc (.int .i64 0))), (.nil 51)]⟩
 | 25 => some ⟨(.sl 3), 1, 24, [(.nil 3)]⟩
 | 26 => some ⟨(.sl 25), 1, 24, [(.nil 25)]⟩
 | 28 => some ⟨(.st [(0, 25), (1, 26)]), 2, 48, [(.nil 3), (.nil 25)]⟩
 | 29 => some ⟨.sc, 1, 8, [(.d (.sc .nilFunc))]⟩
 | 30 => some ⟨.sc, 1, 8, [(.d (.sc .nilFunc))]⟩
 | 31 => some ⟨(.int .i64), 1, 8, [(.d (.sc (.int .i64 0)))]⟩
 | 33 => some ⟨.sc, 1, 8, [(.d (.sc .nilFunc))]⟩
 | 34 => some ⟨.sc, 1, 8, [(.d (.sc .nilFunc))]⟩
 | 35 => some ⟨.sc, 1, 8, [(.d (.sc .nilFunc))]⟩
 | 36 => some ⟨.sc, 1, 8, [(.d (.sc .nilFunc))]⟩
 | 37 => some ⟨(.sl 73), 1, 24, [(.nil 73)]⟩
 | 38 => some ⟨(.sl 37), 1, 24, [(.nil 37)]⟩
 | 40 => some ⟨(.st [(0, 37), (1, 38)]), 2, 48, [(.nil 73), (.nil 37)]⟩
 | 41 => some ⟨.sc, 1, 8, [(.d (.sc .nilFunc))]⟩
 | 43 => some ⟨.sc, 1, 8, [(.d (.sc .nilFunc))]⟩
 | 45 => some ⟨.sc, 1, 8, [(.d (.sc .nilFunc))]⟩
 | 46 => some ⟨.sc, 1, 8, [(.d (.sc .nilFunc))]⟩
 | 47 => some ⟨.sc, 1, 8, [(.d (.sc .nilFunc))]⟩
 | 48 => some ⟨.sc, 1, 8, [(.d (.sc .nilFunc))]⟩
 | 49 => some ⟨.sc, 1, 8, [(.d (.sc .nilFunc))]⟩
 | 51 => some ⟨(.st [(0, 3), (1, 3)]), 2, 16, [(.d (.sc (.int .i64 0))), (.d (.sc (.int .i64 0)))]⟩
 | 52 => some ⟨.sc, 1, 8, [(.d (.sc .nilFunc))]⟩
 | 53 => some ⟨(.sl 54), 1, 24, [(.nil 54)]⟩
 | 54 => some ⟨(.sl 62), 1, 24, [(.nil 62)]⟩
 | 56 => some ⟨(.st [(0, 31), (1, 3), (2, 25)]), 3, 40, [(.d (.sc (.int .i64 0))), (.d (.sc (.int .i64 0))), (.nil 3)]⟩
 | 58 => some ⟨.sc, 1, 8, [(.d (.sc .nilFunc))]⟩
 | 59 => some ⟨.sc, 1, 8, [(.d (.sc .nilFunc))]⟩
 | 60 => some ⟨.sc, 1, 8, [(.d (.sc .nilFunc))]⟩
 | 62 => some ⟨(.st [(0, 3), (1, 3), (2, 3)]), 3, 24, [(.d (.sc (.int .i64 0))), (.d (.sc (.int .i64 0))), (.d (.sc (.int .i64 0)))]⟩
 | 63 => some ⟨.sc, 1, 8, [(.d (.sc .nilFunc))]⟩
 | 65 => some ⟨.sc, 1, 8, [(.d (.sc .nilFunc))]⟩
 | 66 => some ⟨(.pt 68), 1, 8, [(.d (.sc (.pointer none)))]⟩
 | 68 => some ⟨(.st [(0, 24), (2, 54), (3, 25)]), 4, 80, [(.d (.sc (.int .i64 0))), (.nil 51), (.nil 62), (.nil 3)]⟩
 | 69 => some ⟨.sc, 1, 8, [(.d (.sc .nilFunc))]⟩
 | 71 => some ⟨.sc, 1, 8, [(.d (.sc .nilFunc))]⟩
 | 73 => some ⟨(.st [(0, 3), (1, 3)]), 2, 16, [(.d (.sc (.int .i64 0))), (.d (.sc (.int .i64 0)))]⟩
 | 74 => some ⟨.sc, 1, 8, [(.d (.sc .nilFunc))]⟩
 | 75 => some ⟨(.pt 112), 1, 8, [(.d (.sc (.pointer none)))]⟩
 | 76 => some ⟨.sc, 1, 8, [(.d (.sc .nilFunc))]⟩
 | 77 => some ⟨.sc, 1, 8, [(.d (.sc .nilFunc))]⟩
 | 78 => some ⟨.sc, 1, 8, [(.d (.sc .nilFunc))]⟩
 | 79 => some ⟨.sc, 1, 8, [(.d (.sc .nilFunc))]⟩
 | 80 => some ⟨.sc, 1, 8, [(.d (.sc .nilFunc))]⟩
 | 81 => some ⟨.sc, 1, 8, [(.d (.sc .nilFunc))]⟩
 | 82 => some ⟨.sc, 1, 8, [(.d (.sc .nilFunc))]⟩
 | 83 => some ⟨.sc, 1, 8, [(.d (.sc .nilFunc))]⟩
 | 84 => some ⟨.sc, 1, 8, [(.d (.sc .nilFunc))]⟩
 | 85 => some ⟨(.sl 4), 1, 24, [(.nil 4)]⟩
 | 86 => some ⟨.sc, 1, 8, [(.d (.sc .nilFunc))]⟩
 | 87 => some ⟨.sc, 1, 8, [(.d (.sc .nilFunc))]⟩
 | 88 => some ⟨.sc, 1, 8, [(.d (.sc .nilFunc))]⟩
 | 89 => some ⟨.sc, 1, 8, [(.d (.sc .nilFunc))]⟩
 | 90 => some ⟨.sc, 1, 8, [(.d (.sc .nilFunc))]⟩
 | 91 => some ⟨(.pt 101), 1, 8, [(.d (.sc (.pointer none)))]⟩
 | 93 => some ⟨.sc, 1, 8, [(.d (.sc .nilFunc))]⟩
 | 94 => some ⟨.sc, 1, 8, [(.d (.sc .nilFunc))]⟩
 | 96 => some ⟨.sc, 1, 8, [(.d (.sc .nilFunc))]⟩
 | 97 => some ⟨.sc, 1, 8, [(.d (.sc .nilFunc))]⟩
 | 99 => some ⟨(.st [(0, 54)]), 1, 24, [(.nil 62)]⟩
 | 101 => some ⟨(.st [(0, 99), (1, 75), (2, 25)]), 3, 56, [(.nil 62), (.d (.sc (.pointer none))), (.nil 3)]⟩
 | 102 => some ⟨.sc, 1, 8, [(.d (.sc .nilFunc))]⟩
 | 103 => some ⟨.sc, 1, 8, [(.d (.sc .nilFunc))]⟩
 | 104 => some ⟨.sc, 1, 8, [(.d (.sc .nilFunc))]⟩
 | 106 => some ⟨.sc, 1, 8, [(.d (.sc .nilFunc))]⟩
 | 107 => some ⟨(.pt 109), 1, 8, [(.d (.sc (.pointer none)))]⟩
 | 109 => some ⟨(.st [(0, 24), (2, 40)]), 4, 80, [(.d (.sc (.int .i64 0))), (.nil 51), (.nil 73), (.nil 37)]⟩
 | 110 => some ⟨.sc, 1, 8, [(.d (.sc .nilFunc))]⟩
 | 112 => some ⟨(.st [(0, 24), (2, 26), (3, 26)]), 4, 80, [(.d (.sc (.int .i64 0))), (.nil 51), (.nil 25), (.nil 25)]⟩
 | 113 => some ⟨.sc, 1, 8, [(.d (.sc .nilFunc))]⟩
 | 114 => some ⟨.sc, 1, 8, [(.d (.sc .nilFunc))]⟩
 | 115 => some ⟨.sc, 1, 8, [(.d (.sc .nilFunc))]⟩
 | 116 => some ⟨.sc, 1, 8, [(.d (.sc .nilFunc))]⟩
 | 117 => some ⟨(.int .u64), 1, 8, [(.d (.sc (.int .u64 0)))]⟩
 | 118 => some ⟨.sc, 1, 8, [(.d (.sc .nilFunc))]⟩
 | 119 => some ⟨.sc, 1, 8, [(.d (.sc .nilFunc))]⟩
 | 120 => some ⟨.sc, 1, 8, [(.d (.sc .nilFunc))]⟩
 | 121 => some ⟨.sc, 1, 8, [(.d (.sc .nilFunc))]⟩
 | 122 => some ⟨.sc, 1, 8, [(.d (.sc .nilFunc))]⟩
 | 123 => some ⟨.sc, 1, 8, [(.d (.sc .nilFunc))]⟩
 | 124 => some ⟨.sc, 1, 8, [(.d (.sc .nilFunc))]⟩
 | 125 => some ⟨.sc, 1, 8, [(.d (.sc .nilFunc))]⟩
 | 126 => some ⟨.sc, 1, 8, [(.d (.sc .nilFunc))]⟩
 | 128 => some ⟨.sc, 1, 8, [(.d (.sc .nilFunc))]⟩
 | 129 => some ⟨.sc, 1, 8, [(.d (.sc .nilFunc))]⟩
 | 130 => some ⟨.sc, 1, 8, [(.d (.sc .nilFunc))]⟩
 | 131 => some ⟨(.pt 99), 1, 8, [(.d (.sc (.pointer none)))]⟩
 | 132 => some ⟨.sc, 1, 8, [(.d (.sc .nilFunc))]⟩
 | 133 => some ⟨.sc, 1, 8, [(.d (.sc .nilFunc))]⟩
 | 134 => some ⟨.sc, 1, 8, [(.d (.sc .nilFunc))]⟩
 | 135 => some ⟨.sc, 1, 8, [(.d (.sc .nilFunc))]⟩
 | 136 => some ⟨.sc, 1, 8, [(.d (.sc .nilFunc))]⟩
 | 137 => some ⟨.sc, 1, 8, [(.d (.sc .nilFunc))]⟩
 | 138 => some ⟨.sc, 1, 8, [(.d (.sc .nilFunc))]⟩
 | 139 => some ⟨.sc, 1, 8, [(.d (.sc .nilFunc))]⟩
 | 140 => some ⟨.sc, 1, 8, [(.d (.sc .nilFunc))]⟩
 | 141 => some ⟨(.sl 143), 1, 24, [(.nil 143)]⟩
 | 143 => some ⟨(.st [(0, 73), (2, 73)]), 4, 32, [(.d (.sc (.int .i64 0))), (.d (.sc (.int .i64 0))), (.d (.sc (.int .i64 0))), (.d (.sc (.int .i64 0)))]⟩
 | 144 => some ⟨.sc, 1, 8, [(.d (.sc .nilFunc))]⟩
 | 145 => some ⟨.sc, 1, 8, [(.d (.sc .nilFunc))]⟩
 | 146 => some ⟨.sc, 1, 8, [(.d (.sc .nilFunc))]⟩
 | 147 => some ⟨.sc, 1, 8, [(.d (.sc .nilFunc))]⟩
 | 148 => some ⟨.sc, 1, 8, [(.d (.sc .nilFunc))]⟩
 | 149 => some ⟨.sc, 1, 8, [(.d (.sc .nilFunc))]⟩
 | 150 => some ⟨(.int .i64), 1, 8, [(.d (.sc (.int .i64 0)))]⟩
 | 152 => some ⟨.sc, 1, 8, [(.d (.sc .nilFunc))]⟩
 | 153 => some ⟨.sc, 1, 8, [(.d (.sc .nilFunc))]⟩
 | 154 => some ⟨.sc, 1, 8, [(.d (.sc .nilFunc))]⟩
 | 156 => some ⟨.sc, 1, 8, [(.d (.sc .nilFunc))]⟩
 | 157 => some ⟨.sc, 1, 8, [(.d (.sc .nilFunc))]⟩
 | 158 => some ⟨(.int .u32), 1, 4, [(.d (.sc (.int .u32 0)))]⟩
 | 159 => some ⟨.sc, 1, 8, [(.d (.sc .nilFunc))]⟩
 | 160 => some ⟨(.int .u64), 1, 8, [(.d (.sc (.int .u64 0)))]⟩
 | 161 => some ⟨.sc, 1, 8, [(.d (.sc .nilFunc))]⟩
 | 162 => some ⟨.sc, 1, 8, [(.d (.sc .nilFunc))]⟩
 | 163 => some ⟨.sc, 1, 8, [(.d (.sc .nilFunc))]⟩
 | 165 => some ⟨.sc, 1, 8, [(.d (.sc .nilFunc))]⟩
 | 166 => some ⟨.sc, 1, 8, [(.d (.sc .nilFunc))]⟩
 | 167 => some ⟨.sc, 1, 8, [(.d (.sc .nilFunc))]⟩
 | 168 => some ⟨.sc, 1, 8, [(.d (.sc .nilFunc))]⟩
 | 169 => some ⟨.sc, 1, 8, [(.d (.sc .nilFunc))]⟩
 | 170 => some ⟨.sc, 1, 8, [(.d (.sc .nilFunc))]⟩
 | 171 => some ⟨.sc, 1, 8, [(.d (.sc .nilFunc))]⟩
 | 172 => some ⟨.sc, 1, 8, [(.d (.sc .nilFunc))]⟩
 | 173 => some ⟨(.ar 2 3), 2, 16, [(.d (.sc (.int .i64 0))), (.d (.sc (.int .i64 0)))]⟩
 | 174 => some ⟨(.mp 73 3), 1, 8, [(.d (.sc (.map none)))]⟩
 | 175 => some ⟨(.ar 2 73), 4, 32, [(.d (.sc (.int .i64 0))), (.d (.sc (.int .i64 0))), (.d (.sc (.int .i64 0))), (.d (.sc (.int .i64 0)))]⟩
 | 176 => some ⟨.sc, 1, 8, [(.d (.sc .nilFunc))]⟩
 | 177 => some ⟨(.int .u64), 1, 8, [(.d (.sc (.int .u64 0)))]⟩
 | 178 => some ⟨.sc, 1, 8, [(.d (.sc .nilFunc))]⟩
 | 179 => some ⟨.sc, 1, 8, [(.d (.sc .nilFunc))]⟩
 | 180 => some ⟨.sc, 1, 8, [(.d (.sc .nilFunc))]⟩
 | 181 => some ⟨(.pt 3), 1, 8, [(.d (.sc (.pointer none)))]⟩
 | 182 => some ⟨.sc, 1, 8, [(.d (.sc .nilFunc))]⟩
 | 183 => some ⟨.sc, 1, 8, [(.d (.sc .nilFunc))]⟩
 | 184 => some ⟨.sc, 1, 8, [(.d (.sc .nilFunc))]⟩
 | 185 => some ⟨.sc, 1, 8, [(.d (.sc .nilFunc))]⟩
 | 186 => some ⟨.sc, 1, 8, [(.d (.sc .nilFunc))]⟩
 | 187 => some ⟨.sc, 1, 8, [(.d (.sc .nilFunc))]⟩
 | 188 => some ⟨.sc, 1, 8, [(.d (.sc .nilFunc))]⟩
 | 189 => some ⟨(.pt 177), 1, 8, [(.d (.sc (.pointer none)))]⟩
 | 190 => some ⟨.sc, 1, 8, [(.d (.sc .nilFunc))]⟩
 | 191 => some ⟨.sc, 1, 8, [(.d (.sc .nilFunc))]⟩
 | 192 => some ⟨.sc, 1, 8, [(.d (.sc .nilFunc))]⟩
 | 193 => some ⟨.sc, 1, 8, [(.d (.sc .nilFunc))]⟩
 | 194 => some ⟨.sc, 1, 8, [(.d (.sc .nilFunc))]⟩
 | 195 => some ⟨.sc, 1, 8, [(.d (.sc .nilFunc))]⟩
 | 196 => some ⟨.sc, 1, 8, [(.d (.sc .nilFunc))]⟩
 | 197 => some ⟨.sc, 1, 8, [(.d (.sc .nilFunc))]⟩
 | 198 => some ⟨.sc, 1, 8, [(.d (.sc .nilFunc))]⟩
 | 199 => some ⟨.sc, 1, 8, [(.d (.sc .nilFunc))]⟩
 | 200 => some ⟨.sc, 1, 8, [(.d (.sc .nilFunc))]⟩
 | 201 => some ⟨.sc, 1, 8, [(.d (.sc .nilFunc))]⟩
 | 207 => some ⟨.sc, 1, 8, [(.d (.sc .nilFunc))]⟩
 | 211 => some ⟨(.pt 5), 1, 8, [(.d (.sc (.pointer none)))]⟩
 | _ => none
theorem T1 : T 1 = some ⟨.sc, 1, 8, [(.d (.sc .nilFunc))]⟩ := rfl
theorem T2 : T 2 = some ⟨(.int .i64), 1, 8, [(.d (.sc (.int .i64 0)))]⟩ := rfl
theorem T3 : T 3 = some ⟨(.int .i64), 1, 8, [(.d (.sc (.int .i64 0)))]⟩ := rfl
theorem T4 : T 4 = some ⟨.bool, 1, 1, [(.d (.sc (.bool false)))]⟩ := rfl
theorem T5 : T 5 = some ⟨(.int .u8), 1, 1, [(.d (.sc (.int .u8 0)))]⟩ := rfl
theorem T9 : T 9 = some ⟨.sc, 1, 16, [(.d (.sc (.string ⟨#[]⟩)))]⟩ := rfl
theorem T12 : T 12 = some ⟨(.int .u64), 1, 8, [(.d (.sc (.int .u64 0)))]⟩ := rfl
theorem T21 : T 21 = some ⟨(.int .i32), 1, 4, [(.d (.sc (.int .i32 0)))]⟩ := rfl
theorem T22 : T 22 = some ⟨(.sl 51), 1, 24, [(.nil 51)]⟩ := rfl
theorem T24 : T 24 = some ⟨(.st [(0, 3), (1, 22)]), 2, 32, [(.d (.sc (.int .i64 0))), (.nil 51)]⟩ := rfl
theorem T25 : T 25 = some ⟨(.sl 3), 1, 24, [(.nil 3)]⟩ := rfl
theorem T26 : T 26 = some ⟨(.sl 25), 1, 24, [(.nil 25)]⟩ := rfl
theorem T28 : T 28 = some ⟨(.st [(0, 25), (1, 26)]), 2, 48, [(.nil 3), (.nil 25)]⟩ := rfl
theorem T29 : T 29 = some ⟨.sc, 1, 8, [(.d (.sc .nilFunc))]⟩ := rfl
theorem T30 : T 30 = some ⟨.sc, 1, 8, [(.d (.sc .nilFunc))]⟩ := rfl
theorem T31 : T 31 = some ⟨(.int .i64), 1, 8, [(.d (.sc (.int .i64 0)))]⟩ := rfl
theorem T33 : T 33 = some ⟨.sc, 1, 8, [(.d (.sc .nilFunc))]⟩ := rfl
theorem T34 : T 34 = some ⟨.sc, 1, 8, [(.d (.sc .nilFunc))]⟩ := rfl
theorem T35 : T 35 = some ⟨.sc, 1, 8, [(.d (.sc .nilFunc))]⟩ := rfl
theorem T36 : T 36 = some ⟨.sc, 1, 8, [(.d (.sc .nilFunc))]⟩ := rfl
theorem T37 : T 37 = some ⟨(.sl 73), 1, 24, [(.nil 73)]⟩ := rfl
theorem T38 : T 38 = some ⟨(.sl 37), 1, 24, [(.nil 37)]⟩ := rfl
theorem T40 : T 40 = some ⟨(.st [(0, 37), (1, 38)]), 2, 48, [(.nil 73), (.nil 37)]⟩ := rfl
theorem T41 : T 41 = some ⟨.sc, 1, 8, [(.d (.sc .nilFunc))]⟩ := rfl
theorem T43 : T 43 = some ⟨.sc, 1, 8, [(.d (.sc .nilFunc))]⟩ := rfl
theorem T45 : T 45 = some ⟨.sc, 1, 8, [(.d (.sc .nilFunc))]⟩ := rfl
theorem T46 : T 46 = some ⟨.sc, 1, 8, [(.d (.sc .nilFunc))]⟩ := rfl
theorem T47 : T 47 = some ⟨.sc, 1, 8, [(.d (.sc .nilFunc))]⟩ := rfl
theorem T48 : T 48 = some ⟨.sc, 1, 8, [(.d (.sc .nilFunc))]⟩ := rfl
theorem T49 : T 49 = some ⟨.sc, 1, 8, [(.d (.sc .nilFunc))]⟩ := rfl
theorem T51 : T 51 = some ⟨(.st [(0, 3), (1, 3)]), 2, 16, [(.d (.sc (.int .i64 0))), (.d (.sc (.int .i64 0)))]⟩ := rfl
theorem T52 : T 52 = some ⟨.sc, 1, 8, [(.d (.sc .nilFunc))]⟩ := rfl
theorem T53 : T 53 = some ⟨(.sl 54), 1, 24, [(.nil 54)]⟩ := rfl
theorem T54 : T 54 = some ⟨(.sl 62), 1, 24, [(.nil 62)]⟩ := rfl
theorem T56 : T 56 = some ⟨(.st [(0, 31), (1, 3), (2, 25)]), 3, 40, [(.d (.sc (.int .i64 0))), (.d (.sc (.int .i64 0))), (.nil 3)]⟩ := rfl
theorem T58 : T 58 = some ⟨.sc, 1, 8, [(.d (.sc .nilFunc))]⟩ := rfl
theorem T59 : T 59 = some ⟨.sc, 1, 8, [(.d (.sc .nilFunc))]⟩ := rfl
theorem T60 : T 60 = some ⟨.sc, 1, 8, [(.d (.sc .nilFunc))]⟩ := rfl
theorem T62 : T 62 = some ⟨(.st [(0, 3), (1, 3), (2, 3)]), 3, 24, [(.d (.sc (.int .i64 0))), (.d (.sc (.int .i64 0))), (.d (.sc (.int .i64 0)))]⟩ := rfl
theorem T63 : T 63 = some ⟨.sc, 1, 8, [(.d (.sc .nilFunc))]⟩ := rfl
theorem T65 : T 65 = some ⟨.sc, 1, 8, [(.d (.sc .nilFunc))]⟩ := rfl
theorem T66 : T 66 = some ⟨(.pt 68), 1, 8, [(.d (.sc (.pointer none)))]⟩ := rfl
theorem T68 : T 68 = some ⟨(.st [(0, 24), (2, 54), (3, 25)]), 4, 80, [(.d (.sc (.int .i64 0))), (.nil 51), (.nil 62), (.nil 3)]⟩ := rfl
theorem T69 : T 69 = some ⟨.sc, 1, 8, [(.d (.sc .nilFunc))]⟩ := rfl
theorem T71 : T 71 = some ⟨.sc, 1, 8, [(.d (.sc .nilFunc))]⟩ := rfl
theorem T73 : T 73 = some ⟨(.st [(0, 3), (1, 3)]), 2, 16, [(.d (.sc (.int .i64 0))), (.d (.sc (.int .i64 0)))]⟩ := rfl
theorem T74 : T 74 = some ⟨.sc, 1, 8, [(.d (.sc .nilFunc))]⟩ := rfl
theorem T75 : T 75 = some ⟨(.pt 112), 1, 8, [(.d (.sc (.pointer none)))]⟩ := rfl
theorem T76 : T 76 = some ⟨.sc, 1, 8, [(.d (.sc .nilFunc))]⟩ := rfl
theorem T77 : T 77 = some ⟨.sc, 1, 8, [(.d (.sc .nilFunc))]⟩ := rfl
theorem T78 : T 78 = some ⟨.sc, 1, 8, [(.d (.sc .nilFunc))]⟩ := rfl
theorem T79 : T 79 = some ⟨.sc, 1, 8, [(.d (.sc .nilFunc))]⟩ := rfl
theorem T80 : T 80 = some ⟨.sc, 1, 8, [(.d (.sc .nilFunc))]⟩ := rfl
theorem T81 : T 81 = some ⟨.sc, 1, 8, [(.d (.sc .nilFunc))]⟩ := rfl
theorem T82 : T 82 = some ⟨.sc, 1, 8, [(.d (.sc .nilFunc))]⟩ := rfl
theorem T83 : T 83 = some ⟨.sc, 1, 8, [(.d (.sc .nilFunc))]⟩ := rfl
theorem T84 : T 84 = some ⟨.sc, 1, 8, [(.d (.sc .nilFunc))]⟩ := rfl
theorem T85 : T 85 = some ⟨(.sl 4), 1, 24, [(.nil 4)]⟩ := rfl
theorem T86 : T 86 = some ⟨.sc, 1, 8, [(.d (.sc .nilFunc))]⟩ := rfl
theorem T87 : T 87 = some ⟨.sc, 1, 8, [(.d (.sc .nilFunc))]⟩ := rfl
theorem T88 : T 88 = some ⟨.sc, 1, 8, [(.d (.sc .nilFunc))]⟩ := rfl
theorem T89 : T 89 = some ⟨.sc, 1, 8, [(.d (.sc .nilFunc))]⟩ := rfl
theorem T90 : T 90 = some ⟨.sc, 1, 8, [(.d (.sc .nilFunc))]⟩ := rfl
theorem T91 : T 91 = some ⟨(.pt 101), 1, 8, [(.d (.sc (.pointer none)))]⟩ := rfl
theorem T93 : T 93 = some ⟨.sc, 1, 8, [(.d (.sc .nilFunc))]⟩ := rfl
theorem T94 : T 94 = some ⟨.sc, 1, 8, [(.d (.sc .nilFunc))]⟩ := rfl
theorem T96 : T 96 = some ⟨.sc, 1, 8, [(.d (.sc .nilFunc))]⟩ := rfl
theorem T97 : T 97 = some ⟨.sc, 1, 8, [(.d (.sc .nilFunc))]⟩ := rfl
theorem T99 : T 99 = some ⟨(.st [(0, 54)]), 1, 24, [(.nil 62)]⟩ := rfl
theorem T101 : T 101 = some ⟨(.st [(0, 99), (1, 75), (2, 25)]), 3, 56, [(.nil 62), (.d (.sc (.pointer none))), (.nil 3)]⟩ := rfl
theorem T102 : T 102 = some ⟨.sc, 1, 8, [(.d (.sc .nilFunc))]⟩ := rfl
theorem T103 : T 103 = some ⟨.sc, 1, 8, [(.d (.sc .nilFunc))]⟩ := rfl
theorem T104 : T 104 = some ⟨.sc, 1, 8, [(.d (.sc .nilFunc))]⟩ := rfl
theorem T106 : T 106 = some ⟨.sc, 1, 8, [(.d (.sc .nilFunc))]⟩ := rfl
theorem T107 : T 107 = some ⟨(.pt 109), 1, 8, [(.d (.sc (.pointer none)))]⟩ := rfl
theorem T109 : T 109 = some ⟨(.st [(0, 24), (2, 40)]), 4, 80, [(.d (.sc (.int .i64 0))), (.nil 51), (.nil 73), (.nil 37)]⟩ := rfl
theorem T110 : T 110 = some ⟨.sc, 1, 8, [(.d (.sc .nilFunc))]⟩ := rfl
theorem T112 : T 112 = some ⟨(.st [(0, 24), (2, 26), (3, 26)]), 4, 80, [(.d (.sc (.int .i64 0))), (.nil 51), (.nil 25), (.nil 25)]⟩ := rfl
theorem T113 : T 113 = some ⟨.sc, 1, 8, [(.d (.sc .nilFunc))]⟩ := rfl
theorem T114 : T 114 = some ⟨.sc, 1, 8, [(.d (.sc .nilFunc))]⟩ := rfl
theorem T115 : T 115 = some ⟨.sc, 1, 8, [(.d (.sc .nilFunc))]⟩ := rfl
theorem T116 : T 116 = some ⟨.sc, 1, 8, [(.d (.sc .nilFunc))]⟩ := rfl
theorem T117 : T 117 = some ⟨(.int .u64), 1, 8, [(.d (.sc (.int .u64 0)))]⟩ := rfl
theorem T118 : T 118 = some ⟨.sc, 1, 8, [(.d (.sc .nilFunc))]⟩ := rfl
theorem T119 : T 119 = some ⟨.sc, 1, 8, [(.d (.sc .nilFunc))]⟩ := rfl
theorem T120 : T 120 = some ⟨.sc, 1, 8, [(.d (.sc .nilFunc))]⟩ := rfl
theorem T121 : T 121 = some ⟨.sc, 1, 8, [(.d (.sc .nilFunc))]⟩ := rfl
theorem T122 : T 122 = some ⟨.sc, 1, 8, [(.d (.sc .nilFunc))]⟩ := rfl
theorem T123 : T 123 = some ⟨.sc, 1, 8, [(.d (.sc .nilFunc))]⟩ := rfl
theorem T124 : T 124 = some ⟨.sc, 1, 8, [(.d (.sc .nilFunc))]⟩ := rfl
theorem T125 : T 125 = some ⟨.sc, 1, 8, [(.d (.sc .nilFunc))]⟩ := rfl
theorem T126 : T 126 = some ⟨.sc, 1, 8, [(.d (.sc .nilFunc))]⟩ := rfl
theorem T128 : T 128 = some ⟨.sc, 1, 8, [(.d (.sc .nilFunc))]⟩ := rfl
theorem T129 : T 129 = some ⟨.sc, 1, 8, [(.d (.sc .nilFunc))]⟩ := rfl
theorem T130 : T 130 = some ⟨.sc, 1, 8, [(.d (.sc .nilFunc))]⟩ := rfl
theorem T131 : T 131 = some ⟨(.pt 99), 1, 8, [(.d (.sc (.pointer none)))]⟩ := rfl
theorem T132 : T 132 = some ⟨.sc, 1, 8, [(.d (.sc .nilFunc))]⟩ := rfl
theorem T133 : T 133 = some ⟨.sc, 1, 8, [(.d (.sc .nilFunc))]⟩ := rfl
theorem T134 : T 134 = some ⟨.sc, 1, 8, [(.d (.sc .nilFunc))]⟩ := rfl
theorem T135 : T 135 = some ⟨.sc, 1, 8, [(.d (.sc .nilFunc))]⟩ := rfl
theorem T136 : T 136 = some ⟨.sc, 1, 8, [(.d (.sc .nilFunc))]⟩ := rfl
theorem T137 : T 137 = some ⟨.sc, 1, 8, [(.d (.sc .nilFunc))]⟩ := rfl
theorem T138 : T 138 = some ⟨.sc, 1, 8, [(.d (.sc .nilFunc))]⟩ := rfl
theorem T139 : T 139 = some ⟨.sc, 1, 8, [(.d (.sc .nilFunc))]⟩ := rfl
theorem T140 : T 140 = some ⟨.sc, 1, 8, [(.d (.sc .nilFunc))]⟩ := rfl
theorem T141 : T 141 = some ⟨(.sl 143), 1, 24, [(.nil 143)]⟩ := rfl
theorem T143 : T 143 = some ⟨(.st [(0, 73), (2, 73)]), 4, 32, [(.d (.sc (.int .i64 0))), (.d (.sc (.int .i64 0))), (.d (.sc (.int .i64 0))), (.d (.sc (.int .i64 0)))]⟩ := rfl
theorem T144 : T 144 = some ⟨.sc, 1, 8, [(.d (.sc .nilFunc))]⟩ := rfl
theorem T145 : T 145 = some ⟨.sc, 1, 8, [(.d (.sc .nilFunc))]⟩ := rfl
theorem T146 : T 146 = some ⟨.sc, 1, 8, [(.d (.sc .nilFunc))]⟩ := rfl
theorem T147 : T 147 = some ⟨.sc, 1, 8, [(.d (.sc .nilFunc))]⟩ := rfl
theorem T148 : T 148 = some ⟨.sc, 1, 8, [(.d (.sc .nilFunc))]⟩ := rfl
theorem T149 : T 149 = some ⟨.sc, 1, 8, [(.d (.sc .nilFunc))]⟩ := rfl
theorem T150 : T 150 = some ⟨(.int .i64), 1, 8, [(.d (.sc (.int .i64 0)))]⟩ := rfl
theorem T152 : T 152 = some ⟨.sc, 1, 8, [(.d (.sc .nilFunc))]⟩ := rfl
theorem T153 : T 153 = some ⟨.sc, 1, 8, [(.d (.sc .nilFunc))]⟩ := rfl
theorem T154 : T 154 = some ⟨.sc, 1, 8, [(.d (.sc .nilFunc))]⟩ := rfl
theorem T156 : T 156 = some ⟨.sc, 1, 8, [(.d (.sc .nilFunc))]⟩ := rfl
theorem T157 : T 157 = some ⟨.sc, 1, 8, [(.d (.sc .nilFunc))]⟩ := rfl
theorem T158 : T 158 = some ⟨(.int .u32), 1, 4, [(.d (.sc (.int .u32 0)))]⟩ := rfl
theorem T159 : T 159 = some ⟨.sc, 1, 8, [(.d (.sc .nilFunc))]⟩ := rfl
theorem T160 : T 160 = some ⟨(.int .u64), 1, 8, [(.d (.sc (.int .u64 0)))]⟩ := rfl
theorem T161 : T 161 = some ⟨.sc, 1, 8, [(.d (.sc .nilFunc))]⟩ := rfl
theorem T162 : T 162 = some ⟨.sc, 1, 8, [(.d (.sc .nilFunc))]⟩ := rfl
theorem T163 : T 163 = some ⟨.sc, 1, 8, [(.d (.sc .nilFunc))]⟩ := rfl
theorem T165 : T 165 = some ⟨.sc, 1, 8, [(.d (.sc .nilFunc))]⟩ := rfl
theorem T166 : T 166 = some ⟨.sc, 1, 8, [(.d (.sc .nilFunc))]⟩ := rfl
theorem T167 : T 167 = some ⟨.sc, 1, 8, [(.d (.sc .nilFunc))]⟩ := rfl
theorem T168 : T 168 = some ⟨.sc, 1, 8, [(.d (.sc .nilFunc))]⟩ := rfl
theorem T169 : T 169 = some ⟨.sc, 1, 8, [(.d (.sc .nilFunc))]⟩ := rfl
theorem T170 : T 170 = some ⟨.sc, 1, 8, [(.d (.sc .nilFunc))]⟩ := rfl
theorem T171 : T 171 = some ⟨.sc, 1, 8, [(.d (.sc .nilFunc))]⟩ := rfl
theorem T172 : T 172 = some ⟨.sc, 1, 8, [(.d (.sc .nilFunc))]⟩ := rfl
theorem T173 : T 173 = some ⟨(.ar 2 3), 2, 16, [(.d (.sc (.int .i64 0))), (.d (.sc (.int .i64 0)))]⟩ := rfl
theorem T174 : T 174 = some ⟨(.mp 73 3), 1, 8, [(.d (.sc (.map none)))]⟩ := rfl
theorem T175 : T 175 = some ⟨(.ar 2 73), 4, 32, [(.d (.sc (.int .i64 0))), (.d (.sc (.int .i64 0))), (.d (.sc (.int .i64 0))), (.d (.sc (.int .i64 0)))]⟩ := rfl
theorem T176 : T 176 = some ⟨.sc, 1, 8, [(.d (.sc .nilFunc))]⟩ := rfl
theorem T177 : T 177 = some ⟨(.int .u64), 1, 8, [(.d (.sc (.int .u64 0)))]⟩ := rfl
theorem T178 : T 178 = some ⟨.sc, 1, 8, [(.d (.sc .nilFunc))]⟩ := rfl
theorem T179 : T 179 = some ⟨.sc, 1, 8, [(.d (.sc .nilFunc))]⟩ := rfl
theorem T180 : T 180 = some ⟨.sc, 1, 8, [(.d (.sc .nilFunc))]⟩ := rfl
theorem T181 : T 181 = some ⟨(.pt 3), 1, 8, [(.d (.sc (.pointer none)))]⟩ := rfl
theorem T182 : T 182 = some ⟨.sc, 1, 8, [(.d (.sc .nilFunc))]⟩ := rfl
theorem T183 : T 183 = some ⟨.sc, 1, 8, [(.d (.sc .nilFunc))]⟩ := rfl
theorem T184 : T 184 = some ⟨.sc, 1, 8, [(.d (.sc .nilFunc))]⟩ := rfl
theorem T185 : T 185 = some ⟨.sc, 1, 8, [(.d (.sc .nilFunc))]⟩ := rfl
theorem T186 : T 186 = some ⟨.sc, 1, 8, [(.d (.sc .nilFunc))]⟩ := rfl
theorem T187 : T 187 = some ⟨.sc, 1, 8, [(.d (.sc .nilFunc))]⟩ := rfl
theorem T188 : T 188 = some ⟨.sc, 1, 8, [(.d (.sc .nilFunc))]⟩ := rfl
theorem T189 : T 189 = some ⟨(.pt 177), 1, 8, [(.d (.sc (.pointer none)))]⟩ := rfl
theorem T190 : T 190 = some ⟨.sc, 1, 8, [(.d (.sc .nilFunc))]⟩ := rfl
theorem T191 : T 191 = some ⟨.sc, 1, 8, [(.d (.sc .nilFunc))]⟩ := rfl
theorem T192 : T 192 = some ⟨.sc, 1, 8, [(.d (.sc .nilFunc))]⟩ := rfl
theorem T193 : T 193 = some ⟨.sc, 1, 8, [(.d (.sc .nilFunc))]⟩ := rfl
theorem T194 : T 194 = some ⟨.sc, 1, 8, [(.d (.sc .nilFunc))]⟩ := rfl
theorem T195 : T 195 = some ⟨.sc, 1, 8, [(.d (.sc .nilFunc))]⟩ := rfl
theorem T196 : T 196 = some ⟨.sc, 1, 8, [(.d (.sc .nilFunc))]⟩ := rfl
theorem T197 : T 197 = some ⟨.sc, 1, 8, [(.d (.sc .nilFunc))]⟩ := rfl
theorem T198 : T 198 = some ⟨.sc, 1, 8, [(.d (.sc .nilFunc))]⟩ := rfl
theorem T199 : T 199 = some ⟨.sc, 1, 8, [(.d (.sc .nilFunc))]⟩ := rfl
theorem T200 : T 200 = some ⟨.sc, 1, 8, [(.d (.sc .nilFunc))]⟩ := rfl
theorem T201 : T 201 = some ⟨.sc, 1, 8, [(.d (.sc .nilFunc))]⟩ := rfl
theorem T207 : T 207 = some ⟨.sc, 1, 8, [(.d (.sc .nilFunc))]⟩ := rfl
theorem T211 : T 211 = some ⟨(.pt 5), 1, 8, [(.d (.sc (.pointer none)))]⟩ := rfl
def eqn : Nat → Option Nat
 | 51 => some 2
 | 62 => some 3
 | 73 => some 2
 | _ => none
theorem eqn51 : eqn 51 = some 2 := rfl
theorem eqn62 : eqn 62 = some 3 := rfl
theorem eqn73 : eqn 73 = some 2 := rfl
theorem ok1 : TIok Tryz.prog 1 ⟨.sc, 1, 8, [(.d (.sc .nilFunc))]⟩ := TIok.mk' (by kernel_rfl) (by kernel_rfl) rfl ⟨_, Tryz.underlying1, trivial⟩
theorem ok2 : TIok Tryz.prog 2 ⟨(.int .i64), 1, 8, [(.d (.sc (.int .i64 0)))]⟩ := TIok.mk' (by kernel_rfl) (by kernel_rfl) rfl Tryz.underlying2
theorem ok3 : TIok Tryz.prog 3 ⟨(.int .i64), 1, 8, [(.d (.sc (.int .i64 0)))]⟩ := TIok.mk' (by kernel_rfl) (by kernel_rfl) rfl Tryz.underlying3
theorem ok4 : TIok Tryz.prog 4 ⟨.bool, 1, 1, [(.d (.sc (.bool false)))]⟩ := TIok.mk' (by kernel_rfl) (by kernel_rfl) rfl Tryz.underlying4
theorem ok5 : TIok Tryz.prog 5 ⟨(.int .u8), 1, 1, [(.d (.sc (.int .u8 0)))]⟩ := TIok.mk' (by kernel_rfl) (by kernel_rfl) rfl Tryz.underlying5
theorem ok9 : TIok Tryz.prog 9 ⟨.sc, 1, 16, [(.d (.sc (.string ⟨#[]⟩)))]⟩ := TIok.mk' (by kernel_rfl) (by kernel_rfl) rfl ⟨_, Tryz.underlying9, trivial⟩
theorem ok12 : TIok Tryz.prog 12 ⟨(.int .u64), 1, 8, [(.d (.sc (.int .u64 0)))]⟩ := TIok.mk' (by kernel_rfl) (by kernel_rfl) rfl Tryz.underlying12
theorem ok21 : TIok Tryz.prog 21 ⟨(.int .i32), 1, 4, [(.d (.sc (.int .i32 0)))]⟩ := TIok.mk' (by kernel_rfl) (by kernel_rfl) rfl Tryz.underlying21
theorem ok22 : TIok Tryz.prog 22 ⟨(.sl 51), 1, 24, [(.nil 51)]⟩ := TIok.mk' (by kernel_rfl) (by kernel_rfl) rfl Tryz.underlying22
theorem ok24 : TIok Tryz.prog 24 ⟨(.st [(0, 3), (1, 22)]), 2, 32, [(.d (.sc (.int .i64 0))), (.nil 51)]⟩ := TIok.mk' (by kernel_rfl) (by kernel_rfl) rfl ⟨_, Tryz.underlying24, rfl⟩
theorem ok25 : TIok Tryz.prog 25 ⟨(.sl 3), 1, 24, [(.nil 3)]⟩ := TIok.mk' (by kernel_rfl) (by kernel_rfl) rfl Tryz.underlying25
theorem ok26 : TIok Tryz.prog 26 ⟨(.sl 25), 1, 24, [(.nil 25)]⟩ := TIok.mk' (by kernel_rfl) (by kernel_rfl) rfl Tryz.underlying26
theorem ok28 : TIok Tryz.prog 28 ⟨(.st [(0, 25), (1, 26)]), 2, 48, [(.nil 3), (.nil 25)]⟩ := TIok.mk' (by kernel_rfl) (by kernel_rfl) rfl ⟨_, Tryz.underlying28, rfl⟩
theorem ok29 : TIok Tryz.prog 29 ⟨.sc, 1, 8, [(.d (.sc .nilFunc))]⟩ := TIok.mk' (by kernel_rfl) (by kernel_rfl) rfl ⟨_, Tryz.underlying29, trivial⟩
theorem ok30 : TIok Tryz.prog 30 ⟨.sc, 1, 8, [(.d (.sc .nilFunc))]⟩ := TIok.mk' (by kernel_rfl) (by kernel_rfl) rfl ⟨_, Tryz.underlying30, trivial⟩
theorem ok31 : TIok Tryz.prog 31 ⟨(.int .i64), 1, 8, [(.d (.sc (.int .i64 0)))]⟩ := TIok.mk' (by kernel_rfl) (by kernel_rfl) rfl Tryz.underlying31
theorem ok33 : TIok Tryz.prog 33 ⟨.sc, 1, 8, [(.d (.sc .nilFunc))]⟩ := TIok.mk' (by kernel_rfl) (by kernel_rfl) rfl ⟨_, Tryz.underlying33, trivial⟩
theorem ok34 : TIok Tryz.prog 34 ⟨.sc, 1, 8, [(.d (.sc .nilFunc))]⟩ := TIok.mk' (by kernel_rfl) (by kernel_rfl) rfl ⟨_, Tryz.underlying34, trivial⟩
theorem ok35 : TIok Tryz.prog 35 ⟨.sc, 1, 8, [(.d (.sc .nilFunc))]⟩ := TIok.mk' (by kernel_rfl) (by kernel_rfl) rfl ⟨_, Tryz.underlying35, trivial⟩
theorem ok36 : TIok Tryz.prog 36 ⟨.sc, 1, 8, [(.d (.sc .nilFunc))]⟩ := TIok.mk' (by kernel_rfl) (by kernel_rfl) rfl ⟨_, Tryz.underlying36, trivial⟩
theorem ok37 : TIok Tryz.prog 37 ⟨(.sl 73), 1, 24, [(.nil 73)]⟩ := TIok.mk' (by kernel_rfl) (by kernel_rfl) rfl Tryz.underlying37
theorem ok38 : TIok Tryz.prog 38 ⟨(.sl 37), 1, 24, [(.nil 37)]⟩ := TIok.mk' (by kernel_rfl) (by kernel_rfl) rfl Tryz.underlying38
theorem ok40 : TIok Tryz.prog 40 ⟨(.st [(0, 37), (1, 38)]), 2, 48, [(.nil 73), (.nil 37)]⟩ := TIok.mk' (by kernel_rfl) (by kernel_rfl) rfl ⟨_, Tryz.underlying40, rfl⟩
theorem ok41 : TIok Tryz.prog 41 ⟨.sc, 1, 8, [(.d (.sc .nilFunc))]⟩ := TIok.mk' (by kernel_rfl) (by kernel_rfl) rfl ⟨_, Tryz.underlying41, trivial⟩
theorem ok43 : TIok Tryz.prog 43 ⟨.sc, 1, 8, [(.d (.sc .nilFunc))]⟩ := TIok.mk' (by kernel_rfl) (by kernel_rfl) rfl ⟨_, Tryz.underlying43, trivial⟩
theorem ok45 : TIok Tryz.prog 45 ⟨.sc, 1, 8, [(.d (.sc .nilFunc))]⟩ := TIok.mk' (by kernel_rfl) (by kernel_rfl) rfl ⟨_, Tryz.underlying45, trivial⟩
theorem ok46 : TIok Tryz.prog 46 ⟨.sc, 1, 8, [(.d (.sc .nilFunc))]⟩ := TIok.mk' (by kernel_rfl) (by kernel_rfl) rfl ⟨_, Tryz.underlying46, trivial⟩
theorem ok47 : TIok Tryz.prog 47 ⟨.sc, 1, 8, [(.d (.sc .nilFunc))]⟩ := TIok.mk' (by kernel_rfl) (by kernel_rfl) rfl ⟨_, Tryz.underlying47, trivial⟩
theorem ok48 : TIok Tryz.prog 48 ⟨.sc, 1, 8, [(.d (.sc .nilFunc))]⟩ := TIok.mk' (by kernel_rfl) (by kernel_rfl) rfl ⟨_, Tryz.underlying48, trivial⟩
theorem ok49 : TIok Tryz.prog 49 ⟨.sc, 1, 8, [(.d (.sc .nilFunc))]⟩ := TIok.mk' (by kernel_rfl) (by kernel_rfl) rfl ⟨_, Tryz.underlying49, trivial⟩
theorem ok51 : TIok Tryz.prog 51 ⟨(.st [(0, 3), (1, 3)]), 2, 16, [(.d (.sc (.int .i64 0))), (.d (.sc (.int .i64 0)))]⟩ := TIok.mk' (by kernel_rfl) (by kernel_rfl) rfl ⟨_, Tryz.underlying51, rfl⟩
theorem ok52 : TIok Tryz.prog 52 ⟨.sc, 1, 8, [(.d (.sc .nilFunc))]⟩ := TIok.mk' (by kernel_rfl) (by kernel_rfl) rfl ⟨_, Tryz.underlying52, trivial⟩
theorem ok53 : TIok Tryz.prog 53 ⟨(.sl 54), 1, 24, [(.nil 54)]⟩ := TIok.mk' (by kernel_rfl) (by kernel_rfl) rfl Tryz.underlying53
theorem ok54 : TIok Tryz.prog 54 ⟨(.sl 62), 1, 24, [(.nil 62)]⟩ := TIok.mk' (by kernel_rfl) (by kernel_rfl) rfl Tryz.underlying54
theorem ok56 : TIok Tryz.prog 56 ⟨(.st [(0, 31), (1, 3), (2, 25)]), 3, 40, [(.d (.sc (.int .i64 0))), (.d (.sc (.int .i64 0))), (.nil 3)]⟩ := TIok.mk' (by kernel_rfl) (by kernel_rfl) rfl ⟨_, Tryz.underlying56, rfl⟩
theorem ok58 : TIok Tryz.prog 58 ⟨.sc, 1, 8, [(.d (.sc .nilFunc))]⟩ := TIok.mk' (by kernel_rfl) (by kernel_rfl) rfl ⟨_, Tryz.underlying58, trivial⟩
theorem ok59 : TIok Tryz.prog 59 ⟨.sc, 1, 8, [(.d (.sc .nilFunc))]⟩ := TIok.mk' (by kernel_rfl) (by kernel_rfl) rfl ⟨_, Tryz.underlying59, trivial⟩
theorem ok60 : TIok Tryz.prog 60 ⟨.sc, 1, 8, [(.d (.sc .nilFunc))]⟩ := TIok.mk' (by kernel_rfl) (by kernel_rfl) rfl ⟨_, Tryz.underlying60, trivial⟩
theorem ok62 : TIok Tryz.prog 62 ⟨(.st [(0, 3), (1, 3), (2, 3)]), 3, 24, [(.d (.sc (.int .i64 0))), (.d (.sc (.int .i64 0))), (.d (.sc (.int .i64 0)))]⟩ := TIok.mk' (by kernel_rfl) (by kernel_rfl) rfl ⟨_, Tryz.underlying62, rfl⟩
theorem ok63 : TIok Tryz.prog 63 ⟨.sc, 1, 8, [(.d (.sc .nilFunc))]⟩ := TIok.mk' (by kernel_rfl) (by kernel_rfl) rfl ⟨_, Tryz.underlying63, trivial⟩
theorem ok65 : TIok Tryz.prog 65 ⟨.sc, 1, 8, [(.d (.sc .nilFunc))]⟩ := TIok.mk' (by kernel_rfl) (by kernel_rfl) rfl ⟨_, Tryz.underlying65, trivial⟩
theorem ok66 : TIok Tryz.prog 66 ⟨(.pt 68), 1, 8, [(.d (.sc (.pointer none)))]⟩ := TIok.mk' (by kernel_rfl) (by kernel_rfl) rfl Tryz.underlying66
theorem ok68 : TIok Tryz.prog 68 ⟨(.st [(0, 24), (2, 54), (3, 25)]), 4, 80, [(.d (.sc (.int .i64 0))), (.nil 51), (.nil 62), (.nil 3)]⟩ := TIok.mk' (by kernel_rfl) (by kernel_rfl) rfl ⟨_, Tryz.underlying68, rfl⟩
theorem ok69 : TIok Tryz.prog 69 ⟨.sc, 1, 8, [(.d (.sc .nilFunc))]⟩ := TIok.mk' (by kernel_rfl) (by kernel_rfl) rfl ⟨_, Tryz.underlying69, trivial⟩
theorem ok71 : TIok Tryz.prog 71 ⟨.sc, 1, 8, [(.d (.sc .nilFunc))]⟩ := TIok.mk' (by kernel_rfl) (by kernel_rfl) rfl ⟨_, Tryz.underlying71, trivial⟩
theorem ok73 : TIok Tryz.prog 73 ⟨(.st [(0, 3), (1, 3)]), 2, 16, [(.d (.sc (.int .i64 0))), (.d (.sc (.int .i64 0)))]⟩ := TIok.mk' (by kernel_rfl) (by kernel_rfl) rfl ⟨_, Tryz.underlying73, rfl⟩
theorem ok74 : TIok Tryz.prog 74 ⟨.sc, 1, 8, [(.d (.sc .nilFunc))]⟩ := TIok.mk' (by kernel_rfl) (by kernel_rfl) rfl ⟨_, Tryz.underlying74, trivial⟩
theorem ok75 : TIok Tryz.prog 75 ⟨(.pt 112), 1, 8, [(.d (.sc (.pointer none)))]⟩ := TIok.mk' (by kernel_rfl) (by kernel_rfl) rfl Tryz.underlying75
theorem ok76 : TIok Tryz.prog 76 ⟨.sc, 1, 8, [(.d (.sc .nilFunc))]⟩ := TIok.mk' (by kernel_rfl) (by kernel_rfl) rfl ⟨_, Tryz.underlying76, trivial⟩
theorem ok77 : TIok Tryz.prog 77 ⟨.sc, 1, 8, [(.d (.sc .nilFunc))]⟩ := TIok.mk' (by kernel_rfl) (by kernel_rfl) rfl ⟨_, Tryz.underlying77, trivial⟩
theorem ok78 : TIok Tryz.prog 78 ⟨.sc, 1, 8, [(.d (.sc .nilFunc))]⟩ := TIok.mk' (by kernel_rfl) (by kernel_rfl) rfl ⟨_, Tryz.underlying78, trivial⟩
theorem ok79 : TIok Tryz.prog 79 ⟨.sc, 1, 8, [(.d (.sc .nilFunc))]⟩ := TIok.mk' (by kernel_rfl) (by kernel_rfl) rfl ⟨_, Tryz.underlying79, trivial⟩
theorem ok80 : TIok Tryz.prog 80 ⟨.sc, 1, 8, [(.d (.sc .nilFunc))]⟩ := TIok.mk' (by kernel_rfl) (by kernel_rfl) rfl ⟨_, Tryz.underlying80, trivial⟩
theorem ok81 : TIok Tryz.prog 81 ⟨.sc, 1, 8, [(.d (.sc .nilFunc))]⟩ := TIok.mk' (by kernel_rfl) (by kernel_rfl) rfl ⟨_, Tryz.underlying81, trivial⟩
theorem ok82 : TIok Tryz.prog 82 ⟨.sc, 1, 8, [(.d (.sc .nilFunc))]⟩ := TIok.mk' (by kernel_rfl) (by kernel_rfl) rfl ⟨_, Tryz.underlying82, trivial⟩
theorem ok83 : TIok Tryz.prog 83 ⟨.sc, 1, 8, [(.d (.sc .nilFunc))]⟩ := TIok.mk' (by kernel_rfl) (by kernel_rfl) rfl ⟨_, Tryz.underlying83, trivial⟩
theorem ok84 : TIok Tryz.prog 84 ⟨.sc, 1, 8, [(.d (.sc .nilFunc))]⟩ := TIok.mk' (by kernel_rfl) (by kernel_rfl) rfl ⟨_, Tryz.underlying84, trivial⟩
theorem ok85 : TIok Tryz.prog 85 ⟨(.sl 4), 1, 24, [(.nil 4)]⟩ := TIok.mk' (by kernel_rfl) (by kernel_rfl) rfl Tryz.underlying85
theorem ok86 : TIok Tryz.prog 86 ⟨.sc, 1, 8, [(.d (.sc .nilFunc))]⟩ := TIok.mk' (by kernel_rfl) (by kernel_rfl) rfl ⟨_, Tryz.underlying86, trivial⟩
theorem ok87 : TIok Tryz.prog 87 ⟨.sc, 1, 8, [(.d (.sc .nilFunc))]⟩ := TIok.mk' (by kernel_rfl) (by kernel_rfl) rfl ⟨_, Tryz.underlying87, trivial⟩
theorem ok88 : TIok Tryz.prog 88 ⟨.sc, 1, 8, [(.d (.sc .nilFunc))]⟩ := TIok.mk' (by kernel_rfl) (by kernel_rfl) rfl ⟨_, Tryz.underlying88, trivial⟩
theorem ok89 : TIok Tryz.prog 89 ⟨.sc, 1, 8, [(.d (.sc .nilFunc))]⟩ := TIok.mk' (by kernel_rfl) (by kernel_rfl) rfl ⟨_, Tryz.underlying89, trivial⟩
theorem ok90 : TIok Tryz.prog 90 ⟨.sc, 1, 8, [(.d (.sc .nilFunc))]⟩ := TIok.mk' (by kernel_rfl) (by kernel_rfl) rfl ⟨_, Tryz.underlying90, trivial⟩
theorem ok91 : TIok Tryz.prog 91 ⟨(.pt 101), 1, 8, [(.d (.sc (.pointer none)))]⟩ := TIok.mk' (by kernel_rfl) (by kernel_rfl) rfl Tryz.underlying91
theorem ok93 : TIok Tryz.prog 93 ⟨.sc, 1, 8, [(.d (.sc .nilFunc))]⟩ := TIok.mk' (by kernel_rfl) (by kernel_rfl) rfl ⟨_, Tryz.underlying93, trivial⟩
theorem ok94 : TIok Tryz.prog 94 ⟨.sc, 1, 8, [(.d (.sc .nilFunc))]⟩ := TIok.mk' (by kernel_rfl) (by kernel_rfl) rfl ⟨_, Tryz.underlying94, trivial⟩
theorem ok96 : TIok Tryz.prog 96 ⟨.sc, 1, 8, [(.d (.sc .nilFunc))]⟩ := TIok.mk' (by kernel_rfl) (by kernel_rfl) rfl ⟨_, Tryz.underlying96, trivial⟩
theorem ok97 : TIok Tryz.prog 97 ⟨.sc, 1, 8, [(.d (.sc .nilFunc))]⟩ := TIok.mk' (by kernel_rfl) (by kernel_rfl) rfl ⟨_, Tryz.underlying97, trivial⟩
theorem ok99 : TIok Tryz.prog 99 ⟨(.st [(0, 54)]), 1, 24, [(.nil 62)]⟩ := TIok.mk' (by kernel_rfl) (by kernel_rfl) rfl ⟨_, Tryz.underlying99, rfl⟩
theorem ok101 : TIok Tryz.prog 101 ⟨(.st [(0, 99), (1, 75), (2, 25)]), 3, 56, [(.nil 62), (.d (.sc (.pointer none))), (.nil 3)]⟩ := TIok.mk' (by kernel_rfl) (by kernel_rfl) rfl ⟨_, Tryz.underlying101, rfl⟩
theorem ok102 : TIok Tryz.prog 102 ⟨.sc, 1, 8, [(.d (.sc .nilFunc))]⟩ := TIok.mk' (by kernel_rfl) (by kernel_rfl) rfl ⟨_, Tryz.underlying102, trivial⟩
theorem ok103 : TIok Tryz.prog 103 ⟨.sc, 1, 8, [(.d (.sc .nilFunc))]⟩ := TIok.mk' (by kernel_rfl) (by kernel_rfl) rfl ⟨_, Tryz.underlying103, trivial⟩
theorem ok104 : TIok Tryz.prog 104 ⟨.sc, 1, 8, [(.d (.sc .nilFunc))]⟩ := TIok.mk' (by kernel_rfl) (by kernel_rfl) rfl ⟨_, Tryz.underlying104, trivial⟩
theorem ok106 : TIok Tryz.prog 106 ⟨.sc, 1, 8, [(.d (.sc .nilFunc))]⟩ := TIok.mk' (by kernel_rfl) (by kernel_rfl) rfl ⟨_, Tryz.underlying106, trivial⟩
theorem ok107 : TIok Tryz.prog 107 ⟨(.pt 109), 1, 8, [(.d (.sc (.pointer none)))]⟩ := TIok.mk' (by kernel_rfl) (by kernel_rfl) rfl Tryz.underlying107
theorem ok109 : TIok Tryz.prog 109 ⟨(.st [(0, 24), (2, 40)]), 4, 80, [(.d (.sc (.int .i64 0))), (.nil 51), (.nil 73), (.nil 37)]⟩ := TIok.mk' (by kernel_rfl) (by kernel_rfl) rfl ⟨_, Tryz.underlying109, rfl⟩
theorem ok110 : TIok Tryz.prog 110 ⟨.sc, 1, 8, [(.d (.sc .nilFunc))]⟩ := TIok.mk' (by kernel_rfl) (by kernel_rfl) rfl ⟨_, Tryz.underlying110, trivial⟩
theorem ok112 : TIok Tryz.prog 112 ⟨(.st [(0, 24), (2, 26), (3, 26)]), 4, 80, [(.d (.sc (.int .i64 0))), (.nil 51), (.nil 25), (.nil 25)]⟩ := TIok.mk' (by kernel_rfl) (by kernel_rfl) rfl ⟨_, Tryz.underlying112, rfl⟩
theorem ok113 : TIok Tryz.prog 113 ⟨.sc, 1, 8, [(.d (.sc .nilFunc))]⟩ := TIok.mk' (by kernel_rfl) (by kernel_rfl) rfl ⟨_, Tryz.underlying113, trivial⟩
theorem ok114 : TIok Tryz.prog 114 ⟨.sc, 1, 8, [(.d (.sc .nilFunc))]⟩ := TIok.mk' (by kernel_rfl) (by kernel_rfl) rfl ⟨_, Tryz.underlying114, trivial⟩
theorem ok115 : TIok Tryz.prog 115 ⟨.sc, 1, 8, [(.d (.sc .nilFunc))]⟩ := TIok.mk' (by kernel_rfl) (by kernel_rfl) rfl ⟨_, Tryz.underlying115, trivial⟩
theorem ok116 : TIok Tryz.prog 116 ⟨.sc, 1, 8, [(.d (.sc .nilFunc))]⟩ := TIok.mk' (by kernel_rfl) (by kernel_rfl) rfl ⟨_, Tryz.underlying116, trivial⟩
theorem ok117 : TIok Tryz.prog 117 ⟨(.int .u64), 1, 8, [(.d (.sc (.int .u64 0)))]⟩ := TIok.mk' (by kernel_rfl) (by kernel_rfl) rfl Tryz.underlying117
theorem ok118 : TIok Tryz.prog 118 ⟨.sc, 1, 8, [(.d (.sc .nilFunc))]⟩ := TIok.mk' (by kernel_rfl) (by kernel_rfl) rfl ⟨_, Tryz.underlying118, trivial⟩
theorem ok119 : TIok Tryz.prog 119 ⟨.sc, 1, 8, [(.d (.sc .nilFunc))]⟩ := TIok.mk' (by kernel_rfl) (by kernel_rfl) rfl ⟨_, Tryz.underlying119, trivial⟩
theorem ok120 : TIok Tryz.prog 120 ⟨.sc, 1, 8, [(.d (.sc .nilFunc))]⟩ := TIok.mk' (by kernel_rfl) (by kernel_rfl) rfl ⟨_, Tryz.underlying120, trivial⟩
theorem ok121 : TIok Tryz.prog 121 ⟨.sc, 1, 8, [(.d (.sc .nilFunc))]⟩ := TIok.mk' (by kernel_rfl) (by kernel_rfl) rfl ⟨_, Tryz.underlying121, trivial⟩
theorem ok122 : TIok Tryz.prog 122 ⟨.sc, 1, 8, [(.d (.sc .nilFunc))]⟩ := TIok.mk' (by kernel_rfl) (by kernel_rfl) rfl ⟨_, Tryz.underlying122, trivial⟩
theorem ok123 : TIok Tryz.prog 123 ⟨.sc, 1, 8, [(.d (.sc .nilFunc))]⟩ := TIok.mk' (by kernel_rfl) (by kernel_rfl) rfl ⟨_, Tryz.underlying123, trivial⟩
theorem ok124 : TIok Tryz.prog 124 ⟨.sc, 1, 8, [(.d (.sc .nilFunc))]⟩ := TIok.mk' (by kernel_rfl) (by kernel_rfl) rfl ⟨_, Tryz.underlying124, trivial⟩
theorem ok125 : TIok Tryz.prog 125 ⟨.sc, 1, 8, [(.d (.sc .nilFunc))]⟩ := TIok.mk' (by kernel_rfl) (by kernel_rfl) rfl ⟨_, Tryz.underlying125, trivial⟩
theorem ok126 : TIok Tryz.prog 126 ⟨.sc, 1, 8, [(.d (.sc .nilFunc))]⟩ := TIok.mk' (by kernel_rfl) (by kernel_rfl) rfl ⟨_, Tryz.underlying126, trivial⟩
theorem ok128 : TIok Tryz.prog 128 ⟨.sc, 1, 8, [(.d (.sc .nilFunc))]⟩ := TIok.mk' (by kernel_rfl) (by kernel_rfl) rfl ⟨_, Tryz.underlying128, trivial⟩
theorem ok129 : TIok Tryz.prog 129 ⟨.sc, 1, 8, [(.d (.sc .nilFunc))]⟩ := TIok.mk' (by kernel_rfl) (by kernel_rfl) rfl ⟨_, Tryz.underlying129, trivial⟩
theorem ok130 : TIok Tryz.prog 130 ⟨.sc, 1, 8, [(.d (.sc .nilFunc))]⟩ := TIok.mk' (by kernel_rfl) (by kernel_rfl) rfl ⟨_, Tryz.underlying130, trivial⟩
theorem ok131 : TIok Tryz.prog 131 ⟨(.pt 99), 1, 8, [(.d (.sc (.pointer none)))]⟩ := TIok.mk' (by kernel_rfl) (by kernel_rfl) rfl Tryz.underlying131
theorem ok132 : TIok Tryz.prog 132 ⟨.sc, 1, 8, [(.d (.sc .nilFunc))]⟩ := TIok.mk' (by kernel_rfl) (by kernel_rfl) rfl ⟨_, Tryz.underlying132, trivial⟩
theorem ok133 : TIok Tryz.prog 133 ⟨.sc, 1, 8, [(.d (.sc .nilFunc))]⟩ := TIok.mk' (by kernel_rfl) (by kernel_rfl) rfl ⟨_, Tryz.underlying133, trivial⟩
theorem ok134 : TIok Tryz.prog 134 ⟨.sc, 1, 8, [(.d (.sc .nilFunc))]⟩ := TIok.mk' (by kernel_rfl) (by kernel_rfl) rfl ⟨_, Tryz.underlying134, trivial⟩
theorem ok135 : TIok Tryz.prog 135 ⟨.sc, 1, 8, [(.d (.sc .nilFunc))]⟩ := TIok.mk' (by kernel_rfl) (by kernel_rfl) rfl ⟨_, Tryz.underlying135, trivial⟩
theorem ok136 : TIok Tryz.prog 136 ⟨.sc, 1, 8, [(.d (.sc .nilFunc))]⟩ := TIok.mk' (by kernel_rfl) (by kernel_rfl) rfl ⟨_, Tryz.underlying136, trivial⟩
theorem ok137 : TIok Tryz.prog 137 ⟨.sc, 1, 8, [(.d (.sc .nilFunc))]⟩ := TIok.mk' (by kernel_rfl) (by kernel_rfl) rfl ⟨_, Tryz.underlying137, trivial⟩
theorem ok138 : TIok Tryz.prog 138 ⟨.sc, 1, 8, [(.d (.sc .nilFunc))]⟩ := TIok.mk' (by kernel_rfl) (by kernel_rfl) rfl ⟨_, Tryz.underlying138, trivial⟩
theorem ok139 : TIok Tryz.prog 139 ⟨.sc, 1, 8, [(.d (.sc .nilFunc))]⟩ := TIok.mk' (by kernel_rfl) (by kernel_rfl) rfl ⟨_, Tryz.underlying139, trivial⟩
theorem ok140 : TIok Tryz.prog 140 ⟨.sc, 1, 8, [(.d (.sc .nilFunc))]⟩ := TIok.mk' (by kernel_rfl) (by kernel_rfl) rfl ⟨_, Tryz.underlying140, trivial⟩
theorem ok141 : TIok Tryz.prog 141 ⟨(.sl 143), 1, 24, [(.nil 143)]⟩ := TIok.mk' (by kernel_rfl) (by kernel_rfl) rfl Tryz.underlying141
theorem ok143 : TIok Tryz.prog 143 ⟨(.st [(0, 73), (2, 73)]), 4, 32, [(.d (.sc (.int .i64 0))), (.d (.sc (.int .i64 0))), (.d (.sc (.int .i64 0))), (.d (.sc (.int .i64 0)))]⟩ := TIok.mk' (by kernel_rfl) (by kernel_rfl) rfl ⟨_, Tryz.underlying143, rfl⟩
theorem ok144 : TIok Tryz.prog 144 ⟨.sc, 1, 8, [(.d (.sc .nilFunc))]⟩ := TIok.mk' (by kernel_rfl) (by kernel_rfl) rfl ⟨_, Tryz.underlying144, trivial⟩
theorem ok145 : TIok Tryz.prog 145 ⟨.sc, 1, 8, [(.d (.sc .nilFunc))]⟩ := TIok.mk' (by kernel_rfl) (by kernel_rfl) rfl ⟨_, Tryz.underlying145, trivial⟩
theorem ok146 : TIok Tryz.prog 146 ⟨.sc, 1, 8, [(.d (.sc .nilFunc))]⟩ := TIok.mk' (by kernel_rfl) (by kernel_rfl) rfl ⟨_, Tryz.underlying146, trivial⟩
theorem ok147 : TIok Tryz.prog 147 ⟨.sc, 1, 8, [(.d (.sc .nilFunc))]⟩ := TIok.mk' (by kernel_rfl) (by kernel_rfl) rfl ⟨_, Tryz.underlying147, trivial⟩
theorem ok148 : TIok Tryz.prog 148 ⟨.sc, 1, 8, [(.d (.sc .nilFunc))]⟩ := TIok.mk' (by kernel_rfl) (by kernel_rfl) rfl ⟨_, Tryz.underlying148, trivial⟩
theorem ok149 : TIok Tryz.prog 149 ⟨.sc, 1, 8, [(.d (.sc .nilFunc))]⟩ := TIok.mk' (by kernel_rfl) (by kernel_rfl) rfl ⟨_, Tryz.underlying149, trivial⟩
theorem ok150 : TIok Tryz.prog 150 ⟨(.int .i64), 1, 8, [(.d (.sc (.int .i64 0)))]⟩ := TIok.mk' (by kernel_rfl) (by kernel_rfl) rfl Tryz.underlying150
theorem ok152 : TIok Tryz.prog 152 ⟨.sc, 1, 8, [(.d (.sc .nilFunc))]⟩ := TIok.mk' (by kernel_rfl) (by kernel_rfl) rfl ⟨_, Tryz.underlying152, trivial⟩
theorem ok153 : TIok Tryz.prog 153 ⟨.sc, 1, 8, [(.d (.sc .nilFunc))]⟩ := TIok.mk' (by kernel_rfl) (by kernel_rfl) rfl ⟨_, Tryz.underlying153, trivial⟩
theorem ok154 : TIok Tryz.prog 154 ⟨.sc, 1, 8, [(.d (.sc .nilFunc))]⟩ := TIok.mk' (by kernel_rfl) (by kernel_rfl) rfl ⟨_, Tryz.underlying154, trivial⟩
theorem ok156 : TIok Tryz.prog 156 ⟨.sc, 1, 8, [(.d (.sc .nilFunc))]⟩ := TIok.mk' (by kernel_rfl) (by kernel_rfl) rfl ⟨_, Tryz.underlying156, trivial⟩
theorem ok157 : TIok Tryz.prog 157 ⟨.sc, 1, 8, [(.d (.sc .nilFunc))]⟩ := TIok.mk' (by kernel_rfl) (by kernel_rfl) rfl ⟨_, Tryz.underlying157, trivial⟩
theorem ok158 : TIok Tryz.prog 158 ⟨(.int .u32), 1, 4, [(.d (.sc (.int .u32 0)))]⟩ := TIok.mk' (by kernel_rfl) (by kernel_rfl) rfl Tryz.underlying158
theorem ok159 : TIok Tryz.prog 159 ⟨.sc, 1, 8, [(.d (.sc .nilFunc))]⟩ := TIok.mk' (by kernel_rfl) (by kernel_rfl) rfl ⟨_, Tryz.underlying159, trivial⟩
theorem ok160 : TIok Tryz.prog 160 ⟨(.int .u64), 1, 8, [(.d (.sc (.int .u64 0)))]⟩ := TIok.mk' (by kernel_rfl) (by kernel_rfl) rfl Tryz.underlying160
theorem ok161 : TIok Tryz.prog 161 ⟨.sc, 1, 8, [(.d (.sc .nilFunc))]⟩ := TIok.mk' (by kernel_rfl) (by kernel_rfl) rfl ⟨_, Tryz.underlying161, trivial⟩
theorem ok162 : TIok Tryz.prog 162 ⟨.sc, 1, 8, [(.d (.sc .nilFunc))]⟩ := TIok.mk' (by kernel_rfl) (by kernel_rfl) rfl ⟨_, Tryz.underlying162, trivial⟩
theorem ok163 : TIok Tryz.prog 163 ⟨.sc, 1, 8, [(.d (.sc .nilFunc))]⟩ := TIok.mk' (by kernel_rfl) (by kernel_rfl) rfl ⟨_, Tryz.underlying163, trivial⟩
theorem ok165 : TIok Tryz.prog 165 ⟨.sc, 1, 8, [(.d (.sc .nilFunc))]⟩ := TIok.mk' (by kernel_rfl) (by kernel_rfl) rfl ⟨_, Tryz.underlying165, trivial⟩
theorem ok166 : TIok Tryz.prog 166 ⟨.sc, 1, 8, [(.d (.sc .nilFunc))]⟩ := TIok.mk' (by kernel_rfl) (by kernel_rfl) rfl ⟨_, Tryz.underlying166, trivial⟩
theorem ok167 : TIok Tryz.prog 167 ⟨.sc, 1, 8, [(.d (.sc .nilFunc))]⟩ := TIok.mk' (by kernel_rfl) (by kernel_rfl) rfl ⟨_, Tryz.underlying167, trivial⟩
theorem ok168 : TIok Tryz.prog 168 ⟨.sc, 1, 8, [(.d (.sc .nilFunc))]⟩ := TIok.mk' (by kernel_rfl) (by kernel_rfl) rfl ⟨_, Tryz.underlying168, trivial⟩
theorem ok169 : TIok Tryz.prog 169 ⟨.sc, 1, 8, [(.d (.sc .nilFunc))]⟩ := TIok.mk' (by kernel_rfl) (by kernel_rfl) rfl ⟨_, Tryz.underlying169, trivial⟩
theorem ok170 : TIok Tryz.prog 170 ⟨.sc, 1, 8, [(.d (.sc .nilFunc))]⟩ := TIok.mk' (by kernel_rfl) (by kernel_rfl) rfl ⟨_, Tryz.underlying170, trivial⟩
theorem ok171 : TIok Tryz.prog 171 ⟨.sc, 1, 8, [(.d (.sc .nilFunc))]⟩ := TIok.mk' (by kernel_rfl) (by kernel_rfl) rfl ⟨_, Tryz.underlying171, trivial⟩
theorem ok172 : TIok Tryz.prog 172 ⟨.sc, 1, 8, [(.d (.sc .nilFunc))]⟩ := TIok.mk' (by kernel_rfl) (by kernel_rfl) rfl ⟨_, Tryz.underlying172, trivial⟩
theorem ok173 : TIok Tryz.prog 173 ⟨(.ar 2 3), 2, 16, [(.d (.sc (.int .i64 0))), (.d (.sc (.int .i64 0)))]⟩ := TIok.mk' (by kernel_rfl) (by kernel_rfl) rfl Tryz.underlying173
theorem ok174 : TIok Tryz.prog 174 ⟨(.mp 73 3), 1, 8, [(.d (.sc (.map none)))]⟩ := TIok.mk' (by kernel_rfl) (by kernel_rfl) rfl ⟨Tryz.underlying174, ⟨_, Tryz.underlying73⟩, fun w => by kernel_rfl⟩
theorem ok175 : TIok Tryz.prog 175 ⟨(.ar 2 73), 4, 32, [(.d (.sc (.int .i64 0))), (.d (.sc (.int .i64 0))), (.d (.sc (.int .i64 0))), (.d (.sc (.int .i64 0)))]⟩ := TIok.mk' (by kernel_rfl) (by kernel_rfl) rfl Tryz.underlying175
theorem ok176 : TIok Tryz.prog 176 ⟨.sc, 1, 8, [(.d (.sc .nilFunc))]⟩ := TIok.mk' (by kernel_rfl) (by kernel_rfl) rfl ⟨_, Tryz.underlying176, trivial⟩
theorem ok177 : TIok Tryz.prog 177 ⟨(.int .u64), 1, 8, [(.d (.sc (.int .u64 0)))]⟩ := TIok.mk' (by kernel_rfl) (by kernel_rfl) rfl Tryz.underlying177
theorem ok178 : TIok Tryz.prog 178 ⟨.sc, 1, 8, [(.d (.sc .nilFunc))]⟩ := TIok.mk' (by kernel_rfl) (by kernel_rfl) rfl ⟨_, Tryz.underlying178, trivial⟩
theorem ok179 : TIok Tryz.prog 179 ⟨.sc, 1, 8, [(.d (.sc .nilFunc))]⟩ := TIok.mk' (by kernel_rfl) (by kernel_rfl) rfl ⟨_, Tryz.underlying179, trivial⟩
theorem ok180 : TIok Tryz.prog 180 ⟨.sc, 1, 8, [(.d (.sc .nilFunc))]⟩ := TIok.mk' (by kernel_rfl) (by kernel_rfl) rfl ⟨_, Tryz.underlying180, trivial⟩
theorem ok181 : TIok Tryz.prog 181 ⟨(.pt 3), 1, 8, [(.d (.sc (.pointer none)))]⟩ := TIok.mk' (by kernel_rfl) (by kernel_rfl) rfl Tryz.underlying181
theorem ok182 : TIok Tryz.prog 182 ⟨.sc, 1, 8, [(.d (.sc .nilFunc))]⟩ := TIok.mk' (by kernel_rfl) (by kernel_rfl) rfl ⟨_, Tryz.underlying182, trivial⟩
theorem ok183 : TIok Tryz.prog 183 ⟨.sc, 1, 8, [(.d (.sc .nilFunc))]⟩ := TIok.mk' (by kernel_rfl) (by kernel_rfl) rfl ⟨_, Tryz.underlying183, trivial⟩
theorem ok184 : TIok Tryz.prog 184 ⟨.sc, 1, 8, [(.d (.sc .nilFunc))]⟩ := TIok.mk' (by kernel_rfl) (by kernel_rfl) rfl ⟨_, Tryz.underlying184, trivial⟩
theorem ok185 : TIok Tryz.prog 185 ⟨.sc, 1, 8, [(.d (.sc .nilFunc))]⟩ := TIok.mk' (by kernel_rfl) (by kernel_rfl) rfl ⟨_, Tryz.underlying185, trivial⟩
theorem ok186 : TIok Tryz.prog 186 ⟨.sc, 1, 8, [(.d (.sc .nilFunc))]⟩ := TIok.mk' (by kernel_rfl) (by kernel_rfl) rfl ⟨_, Tryz.underlying186, trivial⟩
theorem ok187 : TIok Tryz.prog 187 ⟨.sc, 1, 8, [(.d (.sc .nilFunc))]⟩ := TIok.mk' (by kernel_rfl) (by kernel_rfl) rfl ⟨_, Tryz.underlying187, trivial⟩
theorem ok188 : TIok Tryz.prog 188 ⟨.sc, 1, 8, [(.d (.sc .nilFunc))]⟩ := TIok.mk' (by kernel_rfl) (by kernel_rfl) rfl ⟨_, Tryz.underlying188, trivial⟩
theorem ok189 : TIok Tryz.prog 189 ⟨(.pt 177), 1, 8, [(.d (.sc (.pointer none)))]⟩ := TIok.mk' (by kernel_rfl) (by kernel_rfl) rfl Tryz.underlying189
theorem ok190 : TIok Tryz.prog 190 ⟨.sc, 1, 8, [(.d (.sc .nilFunc))]⟩ := TIok.mk' (by kernel_rfl) (by kernel_rfl) rfl ⟨_, Tryz.underlying190, trivial⟩
theorem ok191 : TIok Tryz.prog 191 ⟨.sc, 1, 8, [(.d (.sc .nilFunc))]⟩ := TIok.mk' (by kernel_rfl) (by kernel_rfl) rfl ⟨_, Tryz.underlying191, trivial⟩
theorem ok192 : TIok Tryz.prog 192 ⟨.sc, 1, 8, [(.d (.sc .nilFunc))]⟩ := TIok.mk' (by kernel_rfl) (by kernel_rfl) rfl ⟨_, Tryz.underlying192, trivial⟩
theorem ok193 : TIok Tryz.prog 193 ⟨.sc, 1, 8, [(.d (.sc .nilFunc))]⟩ := TIok.mk' (by kernel_rfl) (by kernel_rfl) rfl ⟨_, Tryz.underlying193, trivial⟩
theorem ok194 : TIok Tryz.prog 194 ⟨.sc, 1, 8, [(.d (.sc .nilFunc))]⟩ := TIok.mk' (by kernel_rfl) (by kernel_rfl) rfl ⟨_, Tryz.underlying194, trivial⟩
theorem ok195 : TIok Tryz.prog 195 ⟨.sc, 1, 8, [(.d (.sc .nilFunc))]⟩ := TIok.mk' (by kernel_rfl) (by kernel_rfl) rfl ⟨_, Tryz.underlying195, trivial⟩
theorem ok196 : TIok Tryz.prog 196 ⟨.sc, 1, 8, [(.d (.sc .nilFunc))]⟩ := TIok.mk' (by kernel_rfl) (by kernel_rfl) rfl ⟨_, Tryz.underlying196, trivial⟩
theorem ok197 : TIok Tryz.prog 197 ⟨.sc, 1, 8, [(.d (.sc .nilFunc))]⟩ := TIok.mk' (by kernel_rfl) (by kernel_rfl) rfl ⟨_, Tryz.underlying197, trivial⟩
theorem ok198 : TIok Tryz.prog 198 ⟨.sc, 1, 8, [(.d (.sc .nilFunc))]⟩ := TIok.mk' (by kernel_rfl) (by kernel_rfl) rfl ⟨_, Tryz.underlying198, trivial⟩
theorem ok199 : TIok Tryz.prog 199 ⟨.sc, 1, 8, [(.d (.sc .nilFunc))]⟩ := TIok.mk' (by kernel_rfl) (by kernel_rfl) rfl ⟨_, Tryz.underlying199, trivial⟩
theorem ok200 : TIok Tryz.prog 200 ⟨.sc, 1, 8, [(.d (.sc .nilFunc))]⟩ := TIok.mk' (by kernel_rfl) (by kernel_rfl) rfl ⟨_, Tryz.underlying200, trivial⟩
theorem ok201 : TIok Tryz.prog 201 ⟨.sc, 1, 8, [(.d (.sc .nilFunc))]⟩ := TIok.mk' (by kernel_rfl) (by kernel_rfl) rfl ⟨_, Tryz.underlying201, trivial⟩
theorem ok207 : TIok Tryz.prog 207 ⟨.sc, 1, 8, [(.d (.sc .nilFunc))]⟩ := TIok.mk' (by kernel_rfl) (by kernel_rfl) rfl ⟨_, Tryz.underlying207, trivial⟩
theorem ok211 : TIok Tryz.prog 211 ⟨(.pt 5), 1, 8, [(.d (.sc (.pointer none)))]⟩ := TIok.mk' (by kernel_rfl) (by kernel_rfl) rfl Tryz.underlying211
theorem eq51 : EqOk Tryz.prog 51 2 := EqOk.two (by kernel_rfl) (by kernel_rfl) Tryz.underlying51 (by decide) rfl Tryz.underlying3 (by decide) rfl Tryz.underlying3
theorem eq62 : EqOk Tryz.prog 62 3 := EqOk.three (by kernel_rfl) (by kernel_rfl) Tryz.underlying62 (by decide) rfl Tryz.underlying3 (by decide) rfl Tryz.underlying3 (by decide) rfl Tryz.underlying3
theorem eq73 : EqOk Tryz.prog 73 2 := EqOk.two (by kernel_rfl) (by kernel_rfl) Tryz.underlying73 (by decide) rfl Tryz.underlying3 (by decide) rfl Tryz.underlying3
theorem okT : ∀ t ti, T t = some ti → TIok Tryz.prog t ti := by
 intro t ti h
 unfold T at h
 split at h
 ·cases h; exact ok1
 ·cases h; exact ok2
 ·cases h; exact ok3
 ·cases h; exact ok4
 ·cases h; exact ok5
 ·cases h; exact ok9
 ·cases h; exact ok12
 ·cases h; exact ok21
 ·cases h; exact ok22
 ·cases h; exact ok24
 ·cases h; exact ok25
 ·cases h; exact ok26
 ·cases h; exact ok28
 ·cases h; exact ok29
 ·cases h; exact ok30
 ·cases h; exact ok31
 ·cases h; exact ok33
 ·cases h; exact ok34
 ·cases h; exact ok35
 ·cases h; exact ok36
 ·cases h; exact ok37
 ·cases h; exact ok38
 ·cases h; exact ok40
 ·cases h; exact ok41
 ·cases h; exact ok43
 ·cases h; exact ok45
 ·cases h; exact ok46
 ·cases h; exact ok47
 ·cases h; exact ok48
 ·cases h; exact ok49
 ·cases h; exact ok51
 ·cases h; exact ok52
 ·cases h; exact ok53
 ·cases h; exact ok54
 ·cases h; exact ok56
 ·cases h; exact ok58
 ·cases h; exact ok59
 ·cases h; exact ok60
 ·cases h; exact ok62
 ·cases h; exact ok63
 ·cases h; exact ok65
 ·cases h; exact ok66
 ·cases h; exact ok68
 ·cases h; exact ok69
 ·cases h; exact ok71
 ·cases h; exact ok73
 ·cases h; exact ok74
 ·cases h; exact ok75
 ·cases h; exact ok76
 ·cases h; exact ok77
 ·cases h; exact ok78
 ·cases h; exact ok79
 ·cases h; exact ok80
 ·cases h; exact ok81
 ·cases h; exact ok82
 ·cases h; exact ok83
 ·cases h; exact ok84
 ·cases h; exact ok85
 ·cases h; exact ok86
 ·cases h; exact ok87
 ·cases h; exact ok88
 ·cases h; exact ok89
 ·cases h; exact ok90
 ·cases h; exact ok91
 ·cases h; exact ok93
 ·cases h; exact ok94
 ·cases h; exact ok96
 ·cases h; exact ok97
 ·cases h; exact ok99
 ·cases h; exact ok101
 ·cases h; exact ok102
 ·cases h; exact ok103
 ·cases h; exact ok104
 ·cases h; exact ok106
 ·cases h; exact ok107
 ·cases h; exact ok109
 ·cases h; exact ok110
 ·cases h; exact ok112
 ·cases h; exact ok113
 ·cases h; exact ok114
 ·cases h; exact ok115
 ·cases h; exact ok116
 ·cases h; exact ok117
 ·cases h; exact ok118
 ·cases h; exact ok119
 ·cases h; exact ok120
 ·cases h; exact ok121
 ·cases h; exact ok122
 ·cases h; exact ok123
 ·cases h; exact ok124
 ·cases h; exact ok125
 ·cases h; exact ok126
 ·cases h; exact ok128
 ·cases h; exact ok129
 ·cases h; exact ok130
 ·cases h; exact ok131
 ·cases h; exact ok132
 ·cases h; exact ok133
 ·cases h; exact ok134
 ·cases h; exact ok135
 ·cases h; exact ok136
 ·cases h; exact ok137
 ·cases h; exact ok138
 ·cases h; exact ok139
 ·cases h; exact ok140
 ·cases h; exact ok141
 ·cases h; exact ok143
 ·cases h; exact ok144
 ·cases h; exact ok145
 ·cases h; exact ok146
 ·cases h; exact ok147
 ·cases h; exact ok148
 ·cases h; exact ok149
 ·cases h; exact ok150
 ·cases h; exact ok152
 ·cases h; exact ok153
 ·cases h; exact ok154
 ·cases h; exact ok156
 ·cases h; exact ok157
 ·cases h; exact ok158
 ·cases h; exact ok159
 ·cases h; exact ok160
 ·cases h; exact ok161
 ·cases h; exact ok162
 ·cases h; exact ok163
 ·cases h; exact ok165
 ·cases h; exact ok166
 ·cases h; exact ok167
 ·cases h; exact ok168
 ·cases h; exact ok169
 ·cases h; exact ok170
 ·cases h; exact ok171
 ·cases h; exact ok172
 ·cases h; exact ok173
 ·cases h; exact ok174
 ·cases h; exact ok175
 ·cases h; exact ok176
 ·cases h; exact ok177
 ·cases h; exact ok178
 ·cases h; exact ok179
 ·cases h; exact ok180
 ·cases h; exact ok181
 ·cases h; exact ok182
 ·cases h; exact ok183
 ·cases h; exact ok184
 ·cases h; exact ok185
 ·cases h; exact ok186
 ·cases h; exact ok187
 ·cases h; exact ok188
 ·cases h; exact ok189
 ·cases h; exact ok190
 ·cases h; exact ok191
 ·cases h; exact ok192
 ·cases h; exact ok193
 ·cases h; exact ok194
 ·cases h; exact ok195
 ·cases h; exact ok196
 ·cases h; exact ok197
 ·cases h; exact ok198
 ·cases h; exact ok199
 ·cases h; exact ok200
 ·cases h; exact ok201
 ·cases h; exact ok207
 ·cases h; exact ok211
 ·cases h
theorem okE : ∀ t n, eqn t = some n → EqOk Tryz.prog t n := by
 intro t n h
 unfold eqn at h
 split at h
 ·cases h; exact eq51
 ·cases h; exact eq62
 ·cases h; exact eq73
 ·cases h
def cfg (own nst : List Nat) : Cfg := ⟨T, own, eqn, nst⟩
theorem cfg_T (own nst : List Nat) : (cfg own nst).T = T := rfl
theorem cfg_own (own nst : List Nat) : (cfg own nst).own = own := rfl
theorem cfg_nst (own nst : List Nat) : (cfg own nst).nst = nst := rfl
theorem cfg_eqn (own nst : List Nat) : (cfg own nst).eqn = eqn := rfl
theorem cfg_ok (own nst : List Nat) : (cfg own nst).Ok Tryz.prog := ⟨okT, okE⟩
theorem mixed : Tryz.prog.follows .mixedOrders = true := by kernel_rfl
attribute [go_sem] T1 T2 T3 T4 T5 T9 T12 T21 T22 T24 T25 T26 T28 T29 T30 T31 T33 T34 T35 T36 T37 T38 T40 T41 T43 T45 T46 T47 T48 T49 T51 T52 T53 T54 T56 T58 T59 T60 T62 T63 T65 T66 T68 T69 T71 T73 T74 T75 T76 T77 T78 T79 T80 T81 T82 T83 T84 T85 T86 T87 T88 T89 T90 T91 T93 T94 T96 T97 T99 T101 T102 T103 T104 T106 T107 T109 T110 T112 T113 T114 T115 T116 T117 T118 T119 T120 T121 T122 T123 T124 T125 T126 T128 T129 T130 T131 T132 T133 T134 T135 T136 T137 T138 T139 T140 T141 T143 T144 T145 T146 T147 T148 T149 T150 T152 T153 T154 T156 T157 T158 T159 T160 T161 T162 T163 T165 T166 T167 T168 T169 T170 T171 T172 T173 T174 T175 T176 T177 T178 T179 T180 T181 T182 T183 T184 T185 T186 T187 T188 T189 T190 T191 T192 T193 T194 T195 T196 T197 T198 T199 T200 T201 T207 T211 eqn51 eqn62 eqn73 cfg_T cfg_own cfg_nst cfg_eqn
end Go.Ab.T
end
section
namespace Go.Ab
open Go.Proofs
attribute [local congr] ACall.congr
set_option maxRecDepth 10000
def eN (n : Int) : AV := .d (.sc (.int .i64 n))
def eB (b : Bool) : AV := .d (.sc (.bool b))
abbrev Edge := Int × Int
structure Gr where
 n : Int
 es : List Edge
def rE (e : Edge) : List D := [.sc (.int .i64 e.1), .sc (.int .i64 e.2)]
def rI (n : Int) : List D := [.sc (.int .i64 n)]
def eE (e : Edge) : AV := .agg [.d (.sc (.int .i64 e.1)), .d (.sc (.int .i64 e.2))]
def sE (es : List Edge) : D := .sl 2 (es.map rE)
def sI (l : List Int) : D := .sl 1 (l.map rI)
def eG (g : Gr) : AV := .agg [eN g.n, .d (sE g.es)]
attribute [go_sem] eN eB eE sE sI eG Args AVrs
theorem getD_rE (ps : List Edge) (i : Nat) : (ps.map rE).getD i [.sc (.int .i64 0), .sc (.int .i64 0)] = [.sc (.int .i64 (ps.getD i (0, 0)).1), .sc (.int .i64 (ps.getD i (0, 0)).2)] := by
 simp only [List.getD_eq_getElem?_getD, List.getElem?_map]
 cases ps[i]? <;> rfl
theorem getD_rI (ps : List Int) (i : Nat) : (ps.map rI).getD i [.sc (.int .i64 0)] = [.sc (.int .i64 (ps.getD i 0))] := by
 simp only [List.getD_eq_getElem?_getD, List.getElem?_map]
 cases ps[i]? <;> rfl
theorem set_rI (l : List Int) (k : Nat) (v : Int) : (l.map rI).set k [.sc (.int .i64 v)] = (l.set k v).map rI := by
 rw [List.map_set]; rfl
attribute [go_sem] getD_rE getD_rI Int.toNat_natCast List.length_set
def I64 (n : Int) : Prop := -9223372036854775808 ≤ n ∧ n ≤ 9223372036854775807
def Len (n : Nat) : Prop := n ≤ 9223372036854775807
end Go.Ab
end
section
namespace Go.Ab
open Go.Proofs
attribute [local congr] ACall.congr
set_option maxRecDepth 10000
def findI {α : Type} (g : α → Bool) (ps : List α) : Int := match ps.findIdx? g with | some i => i | none => -1
theorem findI_none {α : Type} {g : α → Bool} {ps : List α} (d : α) (h : ∀ j, j < ps.length → g (ps.getD j d) = false) : findI g ps = -1 := by
 have : ps.findIdx? g = none := by
  rw [List.findIdx?_eq_none_iff]
  intro x hx
  obtain ⟨j, hj, rfl⟩ := List.getElem_of_mem hx
  simpa [List.getD_eq_getElem?_getD, List.getElem?_eq_getElem hj] using h j hj
 simp [findI, this]
theorem findI_at {α : Type} {g : α → Bool} {ps : List α} {d : α} {k : Nat} (hk : k < ps.length) (h : ∀ j, j < k → g (ps.getD j d) = false) (hg : g (ps.getD k d) = true) : findI g ps = k := by
 have : ps.findIdx? g = some k := by
  rw [List.findIdx?_eq_some_iff_getElem]
  refine ⟨hk, by simpa [List.getD_eq_getElem?_getD, List.getElem?_eq_getElem hk] using hg, fun j hj => ?_⟩
  have := h j hj
  simpa [List.getD_eq_getElem?_getD, List.getElem?_eq_getElem (Nat.lt_trans hj hk)] using this
 simp [findI, this]
theorem findI_any {α : Type} (g : α → Bool) (ps : List α) : decide (0 ≤ findI g ps) = ps.any g := by
 cases h : ps.findIdx? g with
 | none =>
  have : findI g ps = -1 := by simp [findI, h]
  rw [this]
  rw [List.findIdx?_eq_none_iff] at h
  symm
  simpa using h
 | some i =>
  have : findI g ps = i := by simp [findI, h]
  rw [this]
  obtain ⟨hi, hg, _⟩ := List.findIdx?_eq_some_iff_getElem.1 h
  have : ps.any g = true := List.any_eq_true.2 ⟨_, List.getElem_mem hi, hg⟩
  rw [this]; simp
theorem findI_range {α : Type} (g : α → Bool) (ps : List α) : findI g ps = -1 ∨ (0 ≤ findI g ps ∧ findI g ps < ps.length) := by
 cases h : ps.findIdx? g with
 | none => exact .inl (by simp [findI, h])
 | some i =>
  obtain ⟨hi, hg, _⟩ := List.findIdx?_eq_some_iff_getElem.1 h
  exact .inr (by simp [findI, h]; omega)
theorem leR_self (rn : List (Nat × Nat)) (h0 : rn = []) {m : List (Nat × AObj)} : ∀ {r : List (Nat × AObj)}, (∀ p ∈ r, look m p.1 = some p.2) → leR m rn r
 | [], _ => trivial
 | p :: r, h => by
  subst h0
  have h1 := h p List.mem_cons_self
  refine ⟨?_, leR_self [] rfl fun q hq => h q (List.mem_cons_of_mem _ hq)⟩
  have e : renO [] p.2 = p.2 := rfl
  show look m p.1 = some (renO [] p.2)
  rw [e]; exact h1
theorem leR_robs {m : List (Nat × AObj)} (h : Robs m) : leR m [] m := leR_self [] rfl fun _ hp => mem_look h.nd hp
theorem indexFuncE_spec {m : List (Nat × AObj)} (hR : Robs m) (f : Nat) (caps : List AV) (g : Edge → Bool) (hf : ∀ p, Spec Tryz.prog f (Args (eE p :: caps)) m (eB (g p)) m) (ps : List Edge) (hl : ps.length ≤ 9223372036854775807) :
  Spec Tryz.prog 91 (Args [.d (sE ps), .fn f [] caps]) m (eN (findI g ps)) m := by
 (refine Spec.intro (C := T.cfg [] []) (rs := [.t 4]) (T.cfg_ok _ _) Tryz.func91 rfl rfl Tryz.ntmps91 Tryz.results91 (fun p hp => ⟨(Robs.low hR p hp).1, Robs.nest hR p hp⟩) (fun p hp => ⟨(Robs.low hR p hp).2, Robs.nest hR p hp⟩) (by kernel_rfl) ?_; intro X hX hP hC hXn hXm vals hA; refine ⟨_, by simp, hA, ?_⟩; have hmix : X.P.follows .mixedOrders = true := (by rw [hP]; exact T.mixed); clear hXn hXm)
 repeat' (first | fail | ((first | ((with_reducible (first | apply oA | apply oB)); exact rfl; intro K hK) | (refine hK _ ?_; clear hK K) | ((with_reducible (first | apply oG | apply oH)); iterate 3 exact rfl) | ((with_reducible apply oI); (iterate 2 exact rfl); intro K hK) | (with_reducible (first | apply wI | apply wJ | apply wK))); try simp only [go_sem, simprocAttr]) | fail | (with_reducible (first | apply oC | apply oJ | exact oK | apply wA | apply wB | apply wC hX hC | apply wD hX hC | apply wE hX hC hmix | apply wF hX hC hmix | apply wG | apply wH | apply And.intro)) | ((with_reducible refine oD ?_ ?_); first | fail | kernel_rfl) | ((with_reducible (first | apply oE | apply oF)); (iterate 3 exact rfl); all_goals (intro h; first | (exact absurd h (by decide)) | ((try simp only [go_sem, simprocAttr] at h); (try with_reducible intro K hK); simp only [go_sem, simprocAttr]))) | ((first | ((with_reducible apply wL); exact rfl) | ((with_reducible apply wM); exact rfl)); all_goals (try ((with_reducible intro h); first | (exact absurd h (by decide)) | (try simp only [go_sem, simprocAttr] at h)))) | omega | ((first | (first | (refine acall_same hX hC hP hR (hf _) rfl rfl rfl ?_ ?_ rfl rfl ?_; (focus (simp only [go_sem, simprocAttr]; done)); (focus (first | (intro p hp; exact mem_look (Robs.nd hR) hp) | (simp [go_sem, simprocAttr]; done)))) | (refine acall_same hX hC hP hR (hf _) rfl rfl rfl ?_ ?_ ?_ rfl ?_; (focus (simp only [go_sem, simprocAttr]; done)); (focus (first | (intro p hp; exact mem_look (Robs.nd hR) hp) | (simp [go_sem, simprocAttr]; done))); (focus (simp [go_sem, simprocAttr]; done))))); try simp only [go_sem, simprocAttr]) | (intro h))
 refine awp_loopP (fun k : Nat => k ≤ ps.length ∧ ∀ j, j < k → g (ps.getD j (0, 0)) = false) (fun k => ⟨[(0, .d (sE ps)), (1, .fn f [] caps), (7, eN ps.length), (8, eN k)], m⟩) (fun k => ps.length - k) 0 (by simp) ?_ ?_
 ·(refine ⟨leT_spec ?_, fun _ _ h => h⟩; simp [go_sem, simprocAttr])
 rintro k ⟨hk, hg⟩
 repeat' (first | fail | ((first | ((with_reducible (first | apply oA | apply oB)); exact rfl; intro K hK) | (refine hK _ ?_; clear hK K) | ((with_reducible (first | apply oG | apply oH)); iterate 3 exact rfl) | ((with_reducible apply oI); (iterate 2 exact rfl); intro K hK) | (with_reducible (first | apply wI | apply wJ | apply wK))); try simp only [go_sem, simprocAttr]) | fail | (with_reducible (first | apply oC | apply oJ | exact oK | apply wA | apply wB | apply wC hX hC | apply wD hX hC | apply wE hX hC hmix | apply wF hX hC hmix | apply wG | apply wH | apply And.intro)) | ((with_reducible refine oD ?_ ?_); first | fail | kernel_rfl) | ((with_reducible (first | apply oE | apply oF)); (iterate 3 exact rfl); all_goals (intro h; first | (exact absurd h (by decide)) | ((try simp only [go_sem, simprocAttr] at h); (try with_reducible intro K hK); simp only [go_sem, simprocAttr]))) | ((first | ((with_reducible apply wL); exact rfl) | ((with_reducible apply wM); exact rfl)); all_goals (try ((with_reducible intro h); first | (exact absurd h (by decide)) | (try simp only [go_sem, simprocAttr] at h)))) | omega | ((first | (first | (refine acall_same hX hC hP hR (hf _) rfl rfl rfl ?_ ?_ rfl rfl ?_; (focus (simp only [go_sem, simprocAttr]; done)); (focus (first | (intro p hp; exact mem_look (Robs.nd hR) hp) | (simp [go_sem, simprocAttr]; done)))) | (refine acall_same hX hC hP hR (hf _) rfl rfl rfl ?_ ?_ ?_ rfl ?_; (focus (simp only [go_sem, simprocAttr]; done)); (focus (first | (intro p hp; exact mem_look (Robs.nd hR) hp) | (simp [go_sem, simprocAttr]; done))); (focus (simp [go_sem, simprocAttr]; done))))); try simp only [go_sem, simprocAttr]) | (intro h))
 ·exact (findI_at (by omega) hg h).symm
 ·exact leR_robs hR
 ·refine ⟨k + 1, ⟨by omega, fun j hj => ?_⟩, ?_, by omega⟩
  ·by_cases hjk : j = k
   ·subst hjk; exact h
   ·exact hg j (by omega)
  ·(refine ⟨leT_spec ?_, fun _ _ h => h⟩; simp [go_sem, simprocAttr])
 ·exact (findI_none (0, 0) fun j hj => hg j (by omega)).symm
 ·exact leR_robs hR
theorem indexFuncI_spec {m : List (Nat × AObj)} (hR : Robs m) (f : Nat) (caps : List AV) (g : Int → Bool) (hf : ∀ p, Spec Tryz.prog f (Args (eN p :: caps)) m (eB (g p)) m) (ps : List Int) (hl : ps.length ≤ 9223372036854775807) :
  Spec Tryz.prog 136 (Args [.d (sI ps), .fn f [] caps]) m (eN (findI g ps)) m := by
 (refine Spec.intro (C := T.cfg [] []) (rs := [.t 4]) (T.cfg_ok _ _) Tryz.func136 rfl rfl Tryz.ntmps136 Tryz.results136 (fun p hp => ⟨(Robs.low hR p hp).1, Robs.nest hR p hp⟩) (fun p hp => ⟨(Robs.low hR p hp).2, Robs.nest hR p hp⟩) (by kernel_rfl) ?_; intro X hX hP hC hXn hXm vals hA; refine ⟨_, by simp, hA, ?_⟩; have hmix : X.P.follows .mixedOrders = true := (by rw [hP]; exact T.mixed); clear hXn hXm)
 repeat' (first | fail | ((first | ((with_reducible (first | apply oA | apply oB)); exact rfl; intro K hK) | (refine hK _ ?_; clear hK K) | ((with_reducible (first | apply oG | apply oH)); iterate 3 exact rfl) | ((with_reducible apply oI); (iterate 2 exact rfl); intro K hK) | (with_reducible (first | apply wI | apply wJ | apply wK))); try simp only [go_sem, simprocAttr]) | fail | (with_reducible (first | apply oC | apply oJ | exact oK | apply wA | apply wB | apply wC hX hC | apply wD hX hC | apply wE hX hC hmix | apply wF hX hC hmix | apply wG | apply wH | apply And.intro)) | ((with_reducible refine oD ?_ ?_); first | fail | kernel_rfl) | ((with_reducible (first | apply oE | apply oF)); (iterate 3 exact rfl); all_goals (intro h; first | (exact absurd h (by decide)) | ((try simp only [go_sem, simprocAttr] at h); (try with_reducible intro K hK); simp only [go_sem, simprocAttr]))) | ((first | ((with_reducible apply wL); exact rfl) | ((with_reducible apply wM); exact rfl)); all_goals (try ((with_reducible intro h); first | (exact absurd h (by decide)) | (try simp only [go_sem, simprocAttr] at h)))) | omega | ((first | (first | (refine acall_same hX hC hP hR (hf _) rfl rfl rfl ?_ ?_ rfl rfl ?_; (focus (simp only [go_sem, simprocAttr]; done)); (focus (first | (intro p hp; exact mem_look (Robs.nd hR) hp) | (simp [go_sem, simprocAttr]; done)))) | (refine acall_same hX hC hP hR (hf _) rfl rfl rfl ?_ ?_ ?_ rfl ?_; (focus (simp only [go_sem, simprocAttr]; done)); (focus (first | (intro p hp; exact mem_look (Robs.nd hR) hp) | (simp [go_sem, simprocAttr]; done))); (focus (simp [go_sem, simprocAttr]; done))))); try simp only [go_sem, simprocAttr]) | (intro h))
 refine awp_loopP (fun k : Nat => k ≤ ps.length ∧ ∀ j, j < k → g (ps.getD j 0) = false) (fun k => ⟨[(0, .d (sI ps)), (1, .fn f [] caps), (7, eN ps.length), (8, eN k)], m⟩) (fun k => ps.length - k) 0 (by simp) ?_ ?_
 ·(refine ⟨leT_spec ?_, fun _ _ h => h⟩; simp [go_sem, simprocAttr])
 rintro k ⟨hk, hg⟩
 repeat' (first | fail | ((first | ((with_reducible (first | apply oA | apply oB)); exact rfl; intro K hK) | (refine hK _ ?_; clear hK K) | ((with_reducible (first | apply oG | apply oH)); iterate 3 exact rfl) | ((with_reducible apply oI); (iterate 2 exact rfl); intro K hK) | (with_reducible (first | apply wI | apply wJ | apply wK))); try simp only [go_sem, simprocAttr]) | fail | (with_reducible (first | apply oC | apply oJ | exact oK | apply wA | apply wB | apply wC hX hC | apply wD hX hC | apply wE hX hC hmix | apply wF hX hC hmix | apply wG | apply wH | apply And.intro)) | ((with_reducible refine oD ?_ ?_); first | fail | kernel_rfl) | ((with_reducible (first | apply oE | apply oF)); (iterate 3 exact rfl); all_goals (intro h; first | (exact absurd h (by decide)) | ((try simp only [go_sem, simprocAttr] at h); (try with_reducible intro K hK); simp only [go_sem, simprocAttr]))) | ((first | ((with_reducible apply wL); exact rfl) | ((with_reducible apply wM); exact rfl)); all_goals (try ((with_reducible intro h); first | (exact absurd h (by decide)) | (try simp only [go_sem, simprocAttr] at h)))) | omega | ((first | (first | (refine acall_same hX hC hP hR (hf _) rfl rfl rfl ?_ ?_ rfl rfl ?_; (focus (simp only [go_sem, simprocAttr]; done)); (focus (first | (intro p hp; exact mem_look (Robs.nd hR) hp) | (simp [go_sem, simprocAttr]; done)))) | (refine acall_same hX hC hP hR (hf _) rfl rfl rfl ?_ ?_ ?_ rfl ?_; (focus (simp only [go_sem, simprocAttr]; done)); (focus (first | (intro p hp; exact mem_look (Robs.nd hR) hp) | (simp [go_sem, simprocAttr]; done))); (focus (simp [go_sem, simprocAttr]; done))))); try simp only [go_sem, simprocAttr]) | (intro h))
 ·exact (findI_at (by omega) hg h).symm
 ·exact leR_robs hR
 ·refine ⟨k + 1, ⟨by omega, fun j hj => ?_⟩, ?_, by omega⟩
  ·by_cases hjk : j = k
   ·subst hjk; exact h
   ·exact hg j (by omega)
  ·(refine ⟨leT_spec ?_, fun _ _ h => h⟩; simp [go_sem, simprocAttr])
 ·exact (findI_none 0 fun j hj => hg j (by omega)).symm
 ·exact leR_robs hR
theorem containsFuncE_spec {m : List (Nat × AObj)} (hR : Robs m) (f : Nat) (caps : List AV) (g : Edge → Bool) (hf : ∀ p, Spec Tryz.prog f (Args (eE p :: caps)) m (eB (g p)) m) (ps : List Edge) (hl : ps.length ≤ 9223372036854775807) :
  Spec Tryz.prog 113 (Args [.d (sE ps), .fn f [] caps]) m (eB (ps.any g)) m := by
 (refine Spec.intro (C := T.cfg [] []) (rs := [.t 4]) (T.cfg_ok _ _) Tryz.func113 rfl rfl Tryz.ntmps113 Tryz.results113 (fun p hp => ⟨(Robs.low hR p hp).1, Robs.nest hR p hp⟩) (fun p hp => ⟨(Robs.low hR p hp).2, Robs.nest hR p hp⟩) (by kernel_rfl) ?_; intro X hX hP hC hXn hXm vals hA; refine ⟨_, by simp, hA, ?_⟩; have hmix : X.P.follows .mixedOrders = true := (by rw [hP]; exact T.mixed); clear hXn hXm)
 repeat' (first | fail | ((first | ((with_reducible (first | apply oA | apply oB)); exact rfl; intro K hK) | (refine hK _ ?_; clear hK K) | ((with_reducible (first | apply oG | apply oH)); iterate 3 exact rfl) | ((with_reducible apply oI); (iterate 2 exact rfl); intro K hK) | (with_reducible (first | apply wI | apply wJ | apply wK))); try simp only [go_sem, simprocAttr]) | fail | (with_reducible (first | apply oC | apply oJ | exact oK | apply wA | apply wB | apply wC hX hC | apply wD hX hC | apply wE hX hC hmix | apply wF hX hC hmix | apply wG | apply wH | apply And.intro)) | ((with_reducible refine oD ?_ ?_); first | fail | kernel_rfl) | ((with_reducible (first | apply oE | apply oF)); (iterate 3 exact rfl); all_goals (intro h; first | (exact absurd h (by decide)) | ((try simp only [go_sem, simprocAttr] at h); (try with_reducible intro K hK); simp only [go_sem, simprocAttr]))) | ((first | ((with_reducible apply wL); exact rfl) | ((with_reducible apply wM); exact rfl)); all_goals (try ((with_reducible intro h); first | (exact absurd h (by decide)) | (try simp only [go_sem, simprocAttr] at h)))) | omega | ((first | (first | (refine acall_same hX hC hP hR (indexFuncE_spec hR _ _ g hf ps hl) rfl rfl rfl ?_ ?_ rfl rfl ?_; (focus (simp only [go_sem, simprocAttr]; done)); (focus (first | (intro p hp; exact mem_look (Robs.nd hR) hp) | (simp [go_sem, simprocAttr]; done)))) | (refine acall_same hX hC hP hR (indexFuncE_spec hR _ _ g hf ps hl) rfl rfl rfl ?_ ?_ ?_ rfl ?_; (focus (simp only [go_sem, simprocAttr]; done)); (focus (first | (intro p hp; exact mem_look (Robs.nd hR) hp) | (simp [go_sem, simprocAttr]; done))); (focus (simp [go_sem, simprocAttr]; done))))); try simp only [go_sem, simprocAttr]) | (intro h))
 ·exact findI_any g ps
 ·exact leR_robs hR
def outB (g : Gr) (x : Int) : Bool := decide (x < 0) || decide (g.n ≤ x)
def outE (g : Gr) (e : Edge) : Bool := outB g e.1 || outB g e.2
def mayB (g : Gr) : Bool := decide (0 < g.n) && decide (g.n ≤ 64) && decide ((g.es.length : Int) ≤ 128) && !g.es.any (outE g)
def rG (g : Gr) : AObj := .rob [eN g.n, .d (sE g.es)]
theorem may1_spec (g : Gr) (x : Int) : Spec Tryz.prog 112 (Args [eN x, .ptr 10000 0]) [(10000, rG g)] (eB (outB g x)) [(10000, rG g)] := by
 unfold rG
 (refine Spec.intro (C := T.cfg [] []) (rs := [.t 3]) (T.cfg_ok _ _) Tryz.func112 rfl rfl Tryz.ntmps112 Tryz.results112 (by simp [AObj.isNest]) (by simp [AObj.isNest]) (by kernel_rfl) ?_; intro X hX hP hC hXn hXm vals hA; refine ⟨_, by simp, hA, ?_⟩; have hmix : X.P.follows .mixedOrders = true := (by rw [hP]; exact T.mixed); clear hXn hXm)
 repeat' (first | fail | ((first | ((with_reducible (first | apply oA | apply oB)); exact rfl; intro K hK) | (refine hK _ ?_; clear hK K) | ((with_reducible (first | apply oG | apply oH)); iterate 3 exact rfl) | ((with_reducible apply oI); (iterate 2 exact rfl); intro K hK) | (with_reducible (first | apply wI | apply wJ | apply wK))); try simp only [go_sem, simprocAttr]) | fail | (with_reducible (first | apply oC | apply oJ | exact oK | apply wA | apply wB | apply wC hX hC | apply wD hX hC | apply wE hX hC hmix | apply wF hX hC hmix | apply wG | apply wH | apply And.intro)) | ((with_reducible refine oD ?_ ?_); first | fail | kernel_rfl) | ((with_reducible (first | apply oE | apply oF)); (iterate 3 exact rfl); all_goals (intro h; first | (exact absurd h (by decide)) | ((try simp only [go_sem, simprocAttr] at h); (try with_reducible intro K hK); simp only [go_sem, simprocAttr]))) | ((first | ((with_reducible apply wL); exact rfl) | ((with_reducible apply wM); exact rfl)); all_goals (try ((with_reducible intro h); first | (exact absurd h (by decide)) | (try simp only [go_sem, simprocAttr] at h)))) | omega | ((first | (first | (refine acall_same hX hC hP hR (indexFuncE_spec hR _ _ g hf ps hl) rfl rfl rfl ?_ ?_ rfl rfl ?_; (focus (simp only [go_sem, simprocAttr]; done)); (focus (first | (intro p hp; exact mem_look (Robs.nd hR) hp) | (simp [go_sem, simprocAttr]; done)))) | (refine acall_same hX hC hP hR (indexFuncE_spec hR _ _ g hf ps hl) rfl rfl rfl ?_ ?_ ?_ rfl ?_; (focus (simp only [go_sem, simprocAttr]; done)); (focus (first | (intro p hp; exact mem_look (Robs.nd hR) hp) | (simp [go_sem, simprocAttr]; done))); (focus (simp [go_sem, simprocAttr]; done))))); try simp only [go_sem, simprocAttr]) | (intro h))
 ·simp [outB, *]
 ·simp [outB, *]
theorem robG (g : Gr) : Robs [(10000, rG g)] := ⟨by simp [rG, AObj.ro], by simp [nodupM, look], by simp, by simp [rG, AObj.ids, AV.ids, AV.idss, eN]⟩
def rF : AObj := .rob [.fn 112 [] [.ptr 10000 0]]
attribute [go_sem] rG rF
theorem may2_spec (g : Gr) (e : Edge) : Spec Tryz.prog 114 (Args [eE e, .ptr 10001 0]) [(10001, rF), (10000, rG g)] (eB (outE g e)) [(10001, rF), (10000, rG g)] := by
 unfold rF rG
 (refine Spec.intro (C := T.cfg [] []) (rs := [.t 3]) (T.cfg_ok _ _) Tryz.func114 rfl rfl Tryz.ntmps114 Tryz.results114 (by simp [AObj.isNest]) (by simp [AObj.isNest]) (by kernel_rfl) ?_; intro X hX hP hC hXn hXm vals hA; refine ⟨_, by simp, hA, ?_⟩; have hmix : X.P.follows .mixedOrders = true := (by rw [hP]; exact T.mixed); clear hXn hXm)
 repeat' (first | fail | ((first | ((with_reducible (first | apply oA | apply oB)); exact rfl; intro K hK) | (refine hK _ ?_; clear hK K) | ((with_reducible (first | apply oG | apply oH)); iterate 3 exact rfl) | ((with_reducible apply oI); (iterate 2 exact rfl); intro K hK) | (with_reducible (first | apply wI | apply wJ | apply wK))); try simp only [go_sem, simprocAttr]) | fail | (with_reducible (first | apply oC | apply oJ | exact oK | apply wA | apply wB | apply wC hX hC | apply wD hX hC | apply wE hX hC hmix | apply wF hX hC hmix | apply wG | apply wH | apply And.intro)) | ((with_reducible refine oD ?_ ?_); first | fail | kernel_rfl) | ((with_reducible (first | apply oE | apply oF)); (iterate 3 exact rfl); all_goals (intro h; first | (exact absurd h (by decide)) | ((try simp only [go_sem, simprocAttr] at h); (try with_reducible intro K hK); simp only [go_sem, simprocAttr]))) | ((first | ((with_reducible apply wL); exact rfl) | ((with_reducible apply wM); exact rfl)); all_goals (try ((with_reducible intro h); first | (exact absurd h (by decide)) | (try simp only [go_sem, simprocAttr] at h)))) | omega | ((first | (first | (refine acall_same hX hC hP (robG g) (may1_spec g _) rfl rfl rfl ?_ ?_ rfl rfl ?_; (focus (simp only [go_sem, simprocAttr]; done)); (focus (first | (intro p hp; exact mem_look (Robs.nd (robG g)) hp) | (simp [go_sem, simprocAttr]; done)))) | (refine acall_same hX hC hP (robG g) (may1_spec g _) rfl rfl rfl ?_ ?_ ?_ rfl ?_; (focus (simp only [go_sem, simprocAttr]; done)); (focus (first | (intro p hp; exact mem_look (Robs.nd (robG g)) hp) | (simp [go_sem, simprocAttr]; done))); (focus (simp [go_sem, simprocAttr]; done))))); try simp only [go_sem, simprocAttr]) | (intro h))
 ·simp [outE, *]
 ·simp [outE, *]
theorem robF (g : Gr) : Robs [(10001, rF), (10000, rG g)] := ⟨by simp [rG, rF, AObj.ro], by simp [nodupM, look], by simp, by simp [rG, rF, AObj.ids, AV.ids, AV.idss, eN, look]⟩
theorem may_spec (g : Gr) (hl : g.es.length ≤ 9223372036854775807) : Spec Tryz.prog 70 (Args [eG g]) [] (eB (mayB g)) [] := by
 (refine Spec.intro (C := T.cfg [] []) (rs := [.t 2]) (T.cfg_ok _ _) Tryz.func70 rfl rfl Tryz.ntmps70 Tryz.results70 (by simp [AObj.isNest]) (by simp [AObj.isNest]) (by kernel_rfl) ?_; intro X hX hP hC hXn hXm vals hA; refine ⟨_, by simp, hA, ?_⟩; have hmix : X.P.follows .mixedOrders = true := (by rw [hP]; exact T.mixed); clear hXn hXm)
 repeat' (first | fail | ((first | ((with_reducible (first | apply oA | apply oB)); exact rfl; intro K hK) | (refine hK _ ?_; clear hK K) | ((with_reducible (first | apply oG | apply oH)); iterate 3 exact rfl) | ((with_reducible apply oI); (iterate 2 exact rfl); intro K hK) | (with_reducible (first | apply wI | apply wJ | apply wK))); try simp only [go_sem, simprocAttr]) | fail | (with_reducible (first | apply oC | apply oJ | exact oK | apply wA | apply wB | apply wC hX hC | apply wD hX hC | apply wE hX hC hmix | apply wF hX hC hmix | apply wG | apply wH | apply And.intro)) | ((with_reducible refine oD ?_ ?_); first | fail | kernel_rfl) | ((with_reducible (first | apply oE | apply oF)); (iterate 3 exact rfl); all_goals (intro h; first | (exact absurd h (by decide)) | ((try simp only [go_sem, simprocAttr] at h); (try with_reducible intro K hK); simp only [go_sem, simprocAttr]))) | ((first | ((with_reducible apply wL); exact rfl) | ((with_reducible apply wM); exact rfl)); all_goals (try ((with_reducible intro h); first | (exact absurd h (by decide)) | (try simp only [go_sem, simprocAttr] at h)))) | omega | ((first | (refine acall_rob hX hC hP [(10000, 1), (10001, 3)] (containsFuncE_spec (robF g) _ _ (outE g) (may2_spec g) g.es hl) rfl rfl rfl ?_ ?_ ?_ ?_ ?_ ?_ rfl rfl ?_ ?_; (focus (simp only [go_sem, simprocAttr]; done)); (iterate 6 (focus (simp [go_sem, simprocAttr]; done))); simp only [go_sem, simprocAttr, List.map_cons, List.map_nil])); try simp only [go_sem, simprocAttr]) | (intro h))
 all_goals simp [mayB, *]
end Go.Ab
end
section
namespace Go.Ab
open Go.Proofs
attribute [local congr] ACall.congr
set_option maxRecDepth 10000
def idxI (l : List Int) (x : Int) : Int := findI (fun y => decide (x = y)) l
def idxE (l : List Edge) (x : Edge) : Int := findI (fun y => decide (x = y)) l
theorem idxI_has (l : List Int) (x : Int) : decide (0 ≤ idxI l x) = decide (x ∈ l) := by
 unfold idxI; rw [findI_any, Bool.eq_iff_iff]; simp
theorem idxE_has (l : List Edge) (x : Edge) : decide (0 ≤ idxE l x) = decide (x ∈ l) := by
 unfold idxE; rw [findI_any, Bool.eq_iff_iff]; simp [-Prod.exists, -Prod.forall]
theorem beqE (x y : Edge) : (decide (x.1 = y.1) && decide (x.2 = y.2)) = decide (x = y) := by
 obtain ⟨a, b⟩ := x; obtain ⟨c, d⟩ := y
 rw [Bool.eq_iff_iff]; simp
theorem indexI_spec (ps : List Int) (x : Int) (hl : ps.length ≤ 9223372036854775807) :
  Spec Tryz.prog 138 (Args [.d (sI ps), eN x]) [] (eN (idxI ps x)) [] := by
 (refine Spec.intro (C := T.cfg [] []) (rs := [.t 4]) (T.cfg_ok _ _) Tryz.func138 rfl rfl Tryz.ntmps138 Tryz.results138 (by simp [AObj.isNest]) (by simp [AObj.isNest]) (by kernel_rfl) ?_; intro X hX hP hC hXn hXm vals hA; refine ⟨_, by simp, hA, ?_⟩; have hmix : X.P.follows .mixedOrders = true := (by rw [hP]; exact T.mixed); clear hXn hXm)
 repeat' (first | fail | ((first | ((with_reducible (first | apply oA | apply oB)); exact rfl; intro K hK) | (refine hK _ ?_; clear hK K) | ((with_reducible (first | apply oG | apply oH)); iterate 3 exact rfl) | ((with_reducible apply oI); (iterate 2 exact rfl); intro K hK) | (with_reducible (first | apply wI | apply wJ | apply wK))); try simp only [go_sem, simprocAttr]) | fail | (with_reducible (first | apply oC | apply oJ | exact oK | apply wA | apply wB | apply wC hX hC | apply wD hX hC | apply wE hX hC hmix | apply wF hX hC hmix | apply wG | apply wH | apply And.intro)) | ((with_reducible refine oD ?_ ?_); first | fail | kernel_rfl) | ((with_reducible (first | apply oE | apply oF)); (iterate 3 exact rfl); all_goals (intro h; first | (exact absurd h (by decide)) | ((try simp only [go_sem, simprocAttr] at h); (try with_reducible intro K hK); simp only [go_sem, simprocAttr]))) | ((first | ((with_reducible apply wL); exact rfl) | ((with_reducible apply wM); exact rfl)); all_goals (try ((with_reducible intro h); first | (exact absurd h (by decide)) | (try simp only [go_sem, simprocAttr] at h)))) | omega | ((first | fail); try simp only [go_sem, simprocAttr]) | (intro h))
 refine awp_loopP (fun k : Nat => k ≤ ps.length ∧ ∀ j, j < k → decide (x = ps.getD j 0) = false) (fun k => ⟨[(0, .d (sI ps)), (1, eN x), (7, eN ps.length), (8, eN k)], []⟩) (fun k => ps.length - k) 0 (by simp) ?_ ?_
 ·(refine ⟨leT_spec ?_, fun _ _ h => h⟩; simp [go_sem, simprocAttr])
 rintro k ⟨hk, hg⟩
 repeat' (first | fail | ((first | ((with_reducible (first | apply oA | apply oB)); exact rfl; intro K hK) | (refine hK _ ?_; clear hK K) | ((with_reducible (first | apply oG | apply oH)); iterate 3 exact rfl) | ((with_reducible apply oI); (iterate 2 exact rfl); intro K hK) | (with_reducible (first | apply wI | apply wJ | apply wK))); try simp only [go_sem, simprocAttr]) | fail | (with_reducible (first | apply oC | apply oJ | exact oK | apply wA | apply wB | apply wC hX hC | apply wD hX hC | apply wE hX hC hmix | apply wF hX hC hmix | apply wG | apply wH | apply And.intro)) | ((with_reducible refine oD ?_ ?_); first | fail | kernel_rfl) | ((with_reducible (first | apply oE | apply oF)); (iterate 3 exact rfl); all_goals (intro h; first | (exact absurd h (by decide)) | ((try simp only [go_sem, simprocAttr] at h); (try with_reducible intro K hK); simp only [go_sem, simprocAttr]))) | ((first | ((with_reducible apply wL); exact rfl) | ((with_reducible apply wM); exact rfl)); all_goals (try ((with_reducible intro h); first | (exact absurd h (by decide)) | (try simp only [go_sem, simprocAttr] at h)))) | omega | ((first | fail); try simp only [go_sem, simprocAttr]) | (intro h))
 ·exact (findI_at (by omega) hg (by simpa using h)).symm
 ·refine ⟨k + 1, ⟨by omega, fun j hj => ?_⟩, ?_, by omega⟩
  ·by_cases hjk : j = k
   ·subst hjk; simpa using h
   ·simpa using hg j (by omega)
  ·(refine ⟨leT_spec ?_, fun _ _ h => h⟩; simp [go_sem, simprocAttr])
 ·exact (findI_none 0 fun j hj => hg j (by omega)).symm
theorem containsI_spec (ps : List Int) (x : Int) (hl : ps.length ≤ 9223372036854775807) :
  Spec Tryz.prog 97 (Args [.d (sI ps), eN x]) [] (eB (decide (x ∈ ps))) [] := by
 rw [← idxI_has]
 (refine Spec.intro (C := T.cfg [] []) (rs := [.t 4]) (T.cfg_ok _ _) Tryz.func97 rfl rfl Tryz.ntmps97 Tryz.results97 (by simp [AObj.isNest]) (by simp [AObj.isNest]) (by kernel_rfl) ?_; intro X hX hP hC hXn hXm vals hA; refine ⟨_, by simp, hA, ?_⟩; have hmix : X.P.follows .mixedOrders = true := (by rw [hP]; exact T.mixed); clear hXn hXm)
 repeat' (first | fail | ((first | ((with_reducible (first | apply oA | apply oB)); exact rfl; intro K hK) | (refine hK _ ?_; clear hK K) | ((with_reducible (first | apply oG | apply oH)); iterate 3 exact rfl) | ((with_reducible apply oI); (iterate 2 exact rfl); intro K hK) | (with_reducible (first | apply wI | apply wJ | apply wK))); try simp only [go_sem, simprocAttr]) | fail | (with_reducible (first | apply oC | apply oJ | exact oK | apply wA | apply wB | apply wC hX hC | apply wD hX hC | apply wE hX hC hmix | apply wF hX hC hmix | apply wG | apply wH | apply And.intro)) | ((with_reducible refine oD ?_ ?_); first | fail | kernel_rfl) | ((with_reducible (first | apply oE | apply oF)); (iterate 3 exact rfl); all_goals (intro h; first | (exact absurd h (by decide)) | ((try simp only [go_sem, simprocAttr] at h); (try with_reducible intro K hK); simp only [go_sem, simprocAttr]))) | ((first | ((with_reducible apply wL); exact rfl) | ((with_reducible apply wM); exact rfl)); all_goals (try ((with_reducible intro h); first | (exact absurd h (by decide)) | (try simp only [go_sem, simprocAttr] at h)))) | omega | ((first | refine acall_simple hX hC hP (indexI_spec ps x hl) rfl rfl rfl (by simp only [go_sem, simprocAttr]) rfl ?_); try simp only [go_sem, simprocAttr]) | (intro h))
theorem indexE_spec (ps : List Edge) (x : Edge) (hl : ps.length ≤ 9223372036854775807) :
  Spec Tryz.prog 134 (Args [.d (sE ps), eE x]) [] (eN (idxE ps x)) [] := by
 (refine Spec.intro (C := T.cfg [] []) (rs := [.t 4]) (T.cfg_ok _ _) Tryz.func134 rfl rfl Tryz.ntmps134 Tryz.results134 (by simp [AObj.isNest]) (by simp [AObj.isNest]) (by kernel_rfl) ?_; intro X hX hP hC hXn hXm vals hA; refine ⟨_, by simp, hA, ?_⟩; have hmix : X.P.follows .mixedOrders = true := (by rw [hP]; exact T.mixed); clear hXn hXm)
 repeat' (first | fail | ((first | ((with_reducible (first | apply oA | apply oB)); exact rfl; intro K hK) | (refine hK _ ?_; clear hK K) | ((with_reducible (first | apply oG | apply oH)); iterate 3 exact rfl) | ((with_reducible apply oI); (iterate 2 exact rfl); intro K hK) | (with_reducible (first | apply wI | apply wJ | apply wK))); try simp only [go_sem, simprocAttr]) | fail | (with_reducible (first | apply oC | apply oJ | exact oK | apply wA | apply wB | apply wC hX hC | apply wD hX hC | apply wE hX hC hmix | apply wF hX hC hmix | apply wG | apply wH | apply And.intro)) | ((with_reducible refine oD ?_ ?_); first | fail | kernel_rfl) | ((with_reducible (first | apply oE | apply oF)); (iterate 3 exact rfl); all_goals (intro h; first | (exact absurd h (by decide)) | ((try simp only [go_sem, simprocAttr] at h); (try with_reducible intro K hK); simp only [go_sem, simprocAttr]))) | ((first | ((with_reducible apply wL); exact rfl) | ((with_reducible apply wM); exact rfl)); all_goals (try ((with_reducible intro h); first | (exact absurd h (by decide)) | (try simp only [go_sem, simprocAttr] at h)))) | omega | ((first | fail); try simp only [go_sem, simprocAttr]) | (intro h))
 refine awp_loopP (fun k : Nat => k ≤ ps.length ∧ ∀ j, j < k → decide (x = ps.getD j (0, 0)) = false) (fun k => ⟨[(0, .d (sE ps)), (3, .ptr 3 0), (7, eN ps.length), (8, eN k)], [(3, .box [eN x.1, eN x.2])]⟩) (fun k => ps.length - k) 0 (by simp) ?_ ?_
 ·(refine Le.of ?_ ?_ <;> simp [go_sem, simprocAttr])
 rintro k ⟨hk, hg⟩
 repeat' (first | fail | ((first | ((with_reducible (first | apply oA | apply oB)); exact rfl; intro K hK) | (refine hK _ ?_; clear hK K) | ((with_reducible (first | apply oG | apply oH)); iterate 3 exact rfl) | ((with_reducible apply oI); (iterate 2 exact rfl); intro K hK) | (with_reducible (first | apply wI | apply wJ | apply wK))); try simp only [go_sem, simprocAttr, beqE]) | fail | (with_reducible (first | apply oC | apply oJ | exact oK | apply wA | apply wB | apply wC hX hC | apply wD hX hC | apply wE hX hC hmix | apply wF hX hC hmix | apply wG | apply wH | apply And.intro)) | ((with_reducible refine oD ?_ ?_); first | fail | kernel_rfl) | ((with_reducible (first | apply oE | apply oF)); (iterate 3 exact rfl); all_goals (intro h; first | (exact absurd h (by decide)) | ((try simp only [go_sem, simprocAttr, beqE] at h); (try with_reducible intro K hK); simp only [go_sem, simprocAttr, beqE]))) | ((first | ((with_reducible apply wL); exact rfl) | ((with_reducible apply wM); exact rfl)); all_goals (try ((with_reducible intro h); first | (exact absurd h (by decide)) | (try simp only [go_sem, simprocAttr, beqE] at h)))) | omega | ((first | fail); try simp only [go_sem, simprocAttr, beqE]) | (intro h))
 ·exact (findI_at (d := (0, 0)) (by omega) hg (by simpa using h)).symm
 ·refine ⟨k + 1, ⟨by omega, fun j hj => ?_⟩, ?_, by omega⟩
  ·by_cases hjk : j = k
   ·subst hjk; exact h
   ·simpa using hg j (by omega)
  ·(refine Le.of ?_ ?_ <;> simp [go_sem, simprocAttr, beqE])
 ·exact (findI_none (0, 0) fun j hj => hg j (by omega)).symm
theorem containsE_spec (ps : List Edge) (x : Edge) (hl : ps.length ≤ 9223372036854775807) :
  Spec Tryz.prog 93 (Args [.d (sE ps), eE x]) [] (eB (decide (x ∈ ps))) [] := by
 rw [← idxE_has]
 (refine Spec.intro (C := T.cfg [] []) (rs := [.t 4]) (T.cfg_ok _ _) Tryz.func93 rfl rfl Tryz.ntmps93 Tryz.results93 (by simp [AObj.isNest]) (by simp [AObj.isNest]) (by kernel_rfl) ?_; intro X hX hP hC hXn hXm vals hA; refine ⟨_, by simp, hA, ?_⟩; have hmix : X.P.follows .mixedOrders = true := (by rw [hP]; exact T.mixed); clear hXn hXm)
 repeat' (first | fail | ((first | ((with_reducible (first | apply oA | apply oB)); exact rfl; intro K hK) | (refine hK _ ?_; clear hK K) | ((with_reducible (first | apply oG | apply oH)); iterate 3 exact rfl) | ((with_reducible apply oI); (iterate 2 exact rfl); intro K hK) | (with_reducible (first | apply wI | apply wJ | apply wK))); try simp only [go_sem, simprocAttr, beqE]) | fail | (with_reducible (first | apply oC | apply oJ | exact oK | apply wA | apply wB | apply wC hX hC | apply wD hX hC | apply wE hX hC hmix | apply wF hX hC hmix | apply wG | apply wH | apply And.intro)) | ((with_reducible refine oD ?_ ?_); first | fail | kernel_rfl) | ((with_reducible (first | apply oE | apply oF)); (iterate 3 exact rfl); all_goals (intro h; first | (exact absurd h (by decide)) | ((try simp only [go_sem, simprocAttr, beqE] at h); (try with_reducible intro K hK); simp only [go_sem, simprocAttr, beqE]))) | ((first | ((with_reducible apply wL); exact rfl) | ((with_reducible apply wM); exact rfl)); all_goals (try ((with_reducible intro h); first | (exact absurd h (by decide)) | (try simp only [go_sem, simprocAttr, beqE] at h)))) | omega | ((first | refine acall_simple hX hC hP (indexE_spec ps x hl) rfl rfl rfl (by simp only [go_sem, simprocAttr, beqE]) rfl ?_); try simp only [go_sem, simprocAttr, beqE]) | (intro h))
theorem cloneE_spec (ps : List Edge) (hl : ps.length ≤ 1000000) :
  Spec Tryz.prog 71 (Args [.d (sE ps)]) [] (.d (sE ps)) [] := by
 (refine Spec.intro (C := T.cfg [] []) (rs := [.t 2]) (T.cfg_ok _ _) Tryz.func71 rfl rfl Tryz.ntmps71 Tryz.results71 (by simp [AObj.isNest]) (by simp [AObj.isNest]) (by kernel_rfl) ?_; intro X hX hP hC hXn hXm vals hA; refine ⟨_, by simp, hA, ?_⟩; have hmix : X.P.follows .mixedOrders = true := (by rw [hP]; exact T.mixed); clear hXn hXm)
 repeat' (first | fail | ((first | ((with_reducible (first | apply oA | apply oB)); exact rfl; intro K hK) | (refine hK _ ?_; clear hK K) | ((with_reducible (first | apply oG | apply oH)); iterate 3 exact rfl) | ((with_reducible apply oI); (iterate 2 exact rfl); intro K hK) | (with_reducible (first | apply wI | apply wJ | apply wK))); try simp only [go_sem, simprocAttr]) | fail | (with_reducible (first | apply oC | apply oJ | exact oK | apply wA | apply wB | apply wC hX hC | apply wD hX hC | apply wE hX hC hmix | apply wF hX hC hmix | apply wG | apply wH | apply And.intro)) | ((with_reducible refine oD ?_ ?_); first | fail | kernel_rfl) | ((with_reducible (first | apply oE | apply oF)); (iterate 3 exact rfl); all_goals (intro h; first | (exact absurd h (by decide)) | ((try simp only [go_sem, simprocAttr] at h); (try with_reducible intro K hK); simp only [go_sem, simprocAttr]))) | ((first | ((with_reducible apply wL); exact rfl) | ((with_reducible apply wM); exact rfl)); all_goals (try ((with_reducible intro h); first | (exact absurd h (by decide)) | (try simp only [go_sem, simprocAttr] at h)))) | omega | ((first | fail); try simp only [go_sem, simprocAttr]) | (intro h))
 exact h.symm
theorem cloneI_spec (ps : List Int) (hl : ps.length ≤ 1000000) :
  Spec Tryz.prog 47 (Args [.d (sI ps)]) [] (.d (sI ps)) [] := by
 (refine Spec.intro (C := T.cfg [] []) (rs := [.t 2]) (T.cfg_ok _ _) Tryz.func47 rfl rfl Tryz.ntmps47 Tryz.results47 (by simp [AObj.isNest]) (by simp [AObj.isNest]) (by kernel_rfl) ?_; intro X hX hP hC hXn hXm vals hA; refine ⟨_, by simp, hA, ?_⟩; have hmix : X.P.follows .mixedOrders = true := (by rw [hP]; exact T.mixed); clear hXn hXm)
 repeat' (first | fail | ((first | ((with_reducible (first | apply oA | apply oB)); exact rfl; intro K hK) | (refine hK _ ?_; clear hK K) | ((with_reducible (first | apply oG | apply oH)); iterate 3 exact rfl) | ((with_reducible apply oI); (iterate 2 exact rfl); intro K hK) | (with_reducible (first | apply wI | apply wJ | apply wK))); try simp only [go_sem, simprocAttr]) | fail | (with_reducible (first | apply oC | apply oJ | exact oK | apply wA | apply wB | apply wC hX hC | apply wD hX hC | apply wE hX hC hmix | apply wF hX hC hmix | apply wG | apply wH | apply And.intro)) | ((with_reducible refine oD ?_ ?_); first | fail | kernel_rfl) | ((with_reducible (first | apply oE | apply oF)); (iterate 3 exact rfl); all_goals (intro h; first | (exact absurd h (by decide)) | ((try simp only [go_sem, simprocAttr] at h); (try with_reducible intro K hK); simp only [go_sem, simprocAttr]))) | ((first | ((with_reducible apply wL); exact rfl) | ((with_reducible apply wM); exact rfl)); all_goals (try ((with_reducible intro h); first | (exact absurd h (by decide)) | (try simp only [go_sem, simprocAttr] at h)))) | omega | ((first | fail); try simp only [go_sem, simprocAttr]) | (intro h))
 exact h.symm
theorem take_next {α : Type} {xs ys : List α} (d : α) {k : Nat} (h1 : k < xs.length) (h2 : k < ys.length) (h : xs.take k = ys.take k) (he : xs.getD k d = ys.getD k d) : xs.take (k + 1) = ys.take (k + 1) := by
 rw [List.take_add_one, List.take_add_one, h, List.getElem?_eq_getElem h1, List.getElem?_eq_getElem h2]
 simp only [List.getD_eq_getElem?_getD, List.getElem?_eq_getElem h1, List.getElem?_eq_getElem h2, Option.getD_some] at he
 rw [he]
theorem sameInts_spec (xs ys : List Int) (hlen : xs.length ≤ 9223372036854775807) : Spec Tryz.prog 12 (Args [.d (sI xs), .d (sI ys)]) [] (eB (decide (xs = ys))) [] := by
 (refine Spec.intro (C := T.cfg [] []) (rs := [.t 4]) (T.cfg_ok _ _) Tryz.func12 rfl rfl Tryz.ntmps12 Tryz.results12 (by simp [AObj.isNest]) (by simp [AObj.isNest]) (by kernel_rfl) ?_; intro X hX hP hC hXn hXm vals hA; refine ⟨_, by simp, hA, ?_⟩; have hmix : X.P.follows .mixedOrders = true := (by rw [hP]; exact T.mixed); clear hXn hXm)
 repeat' (first | fail | ((first | ((with_reducible (first | apply oA | apply oB)); exact rfl; intro K hK) | (refine hK _ ?_; clear hK K) | ((with_reducible (first | apply oG | apply oH)); iterate 3 exact rfl) | ((with_reducible apply oI); (iterate 2 exact rfl); intro K hK) | (with_reducible (first | apply wI | apply wJ | apply wK))); try simp only [go_sem, simprocAttr]) | fail | (with_reducible (first | apply oC | apply oJ | exact oK | apply wA | apply wB | apply wC hX hC | apply wD hX hC | apply wE hX hC hmix | apply wF hX hC hmix | apply wG | apply wH | apply And.intro)) | ((with_reducible refine oD ?_ ?_); first | fail | kernel_rfl) | ((with_reducible (first | apply oE | apply oF)); (iterate 3 exact rfl); all_goals (intro h; first | (exact absurd h (by decide)) | ((try simp only [go_sem, simprocAttr] at h); (try with_reducible intro K hK); simp only [go_sem, simprocAttr]))) | ((first | ((with_reducible apply wL); exact rfl) | ((with_reducible apply wM); exact rfl)); all_goals (try ((with_reducible intro h); first | (exact absurd h (by decide)) | (try simp only [go_sem, simprocAttr] at h)))) | omega | ((first | fail); try simp only [go_sem, simprocAttr]) | (intro h))
 ·have : xs ≠ ys := fun e => h (by rw [e])
  simp [this]
 refine awp_loopP (fun k : Nat => k ≤ xs.length ∧ xs.take k = ys.take k) (fun k => ⟨[(0, .d (sI xs)), (1, .d (sI ys)), (5, eN k)], []⟩) (fun k => xs.length - k) 0 (by simp) ?_ ?_
 ·(refine ⟨leT_spec ?_, fun _ _ h => h⟩; simp [go_sem, simprocAttr])
 rintro k ⟨hk, hp⟩
 have hlq : xs.length = ys.length := by omega
 repeat' (first | fail | ((first | ((with_reducible (first | apply oA | apply oB)); exact rfl; intro K hK) | (refine hK _ ?_; clear hK K) | ((with_reducible (first | apply oG | apply oH)); iterate 3 exact rfl) | ((with_reducible apply oI); (iterate 2 exact rfl); intro K hK) | (with_reducible (first | apply wI | apply wJ | apply wK))); try simp only [go_sem, simprocAttr]) | fail | (with_reducible (first | apply oC | apply oJ | exact oK | apply wA | apply wB | apply wC hX hC | apply wD hX hC | apply wE hX hC hmix | apply wF hX hC hmix | apply wG | apply wH | apply And.intro)) | ((with_reducible refine oD ?_ ?_); first | fail | kernel_rfl) | ((with_reducible (first | apply oE | apply oF)); (iterate 3 exact rfl); all_goals (intro h; first | (exact absurd h (by decide)) | ((try simp only [go_sem, simprocAttr] at h); (try with_reducible intro K hK); simp only [go_sem, simprocAttr]))) | ((first | ((with_reducible apply wL); exact rfl) | ((with_reducible apply wM); exact rfl)); all_goals (try ((with_reducible intro h); first | (exact absurd h (by decide)) | (try simp only [go_sem, simprocAttr] at h)))) | omega | ((first | fail); try simp only [go_sem, simprocAttr]) | (intro h))
 ·have : xs ≠ ys := fun e => h (by rw [e])
  simp [this]
 ·refine ⟨k + 1, ⟨by omega, take_next 0 (by omega) (by omega) hp h⟩, ?_, by omega⟩
  (refine ⟨leT_spec ?_, fun _ _ h => h⟩; simp [go_sem, simprocAttr])
 ·have : k = xs.length := by omega
  subst this
  rw [List.take_of_length_le (Nat.le_refl _), List.take_of_length_le (by omega)] at hp
  simp [hp]
theorem any_next {α : Type} {f : α → Bool} {xs : List α} (d : α) {k : Nat} (h1 : k < xs.length) (h : (xs.take k).any f = false) (he : f (xs.getD k d) = false) : (xs.take (k + 1)).any f = false := by
 rw [List.take_add_one, List.any_append, h, List.getElem?_eq_getElem h1]
 simp only [List.getD_eq_getElem?_getD, List.getElem?_eq_getElem h1, Option.getD_some] at he
 simp [he]
theorem any_at {α : Type} {f : α → Bool} {xs : List α} {d : α} {k : Nat} (h1 : k < xs.length) (he : f (xs.getD k d) = true) : xs.any f = true := by
 rw [List.any_eq_true]
 refine ⟨_, List.getElem_mem h1, ?_⟩
 simpa only [List.getD_eq_getElem?_getD, List.getElem?_eq_getElem h1, Option.getD_some] using he
theorem mayB_out {g : Gr} {k : Nat} (h1 : k < g.es.length) (he : outE g (g.es.getD k (0, 0)) = true) : false = mayB g := by
 simp [mayB, any_at h1 he]
theorem refMay_spec (g : Gr) (hl : g.es.length ≤ 9223372036854775807) : Spec Tryz.prog 98 (Args [eG g]) [] (eB (mayB g)) [] := by
 (refine Spec.intro (C := T.cfg [] []) (rs := [.t 2]) (T.cfg_ok _ _) Tryz.func98 rfl rfl Tryz.ntmps98 Tryz.results98 (by simp [AObj.isNest]) (by simp [AObj.isNest]) (by kernel_rfl) ?_; intro X hX hP hC hXn hXm vals hA; refine ⟨_, by simp, hA, ?_⟩; have hmix : X.P.follows .mixedOrders = true := (by rw [hP]; exact T.mixed); clear hXn hXm)
 repeat' (first | fail | ((first | ((with_reducible (first | apply oA | apply oB)); exact rfl; intro K hK) | (refine hK _ ?_; clear hK K) | ((with_reducible (first | apply oG | apply oH)); iterate 3 exact rfl) | ((with_reducible apply oI); (iterate 2 exact rfl); intro K hK) | (with_reducible (first | apply wI | apply wJ | apply wK))); try simp only [go_sem, simprocAttr]) | fail | (with_reducible (first | apply oC | apply oJ | exact oK | apply wA | apply wB | apply wC hX hC | apply wD hX hC | apply wE hX hC hmix | apply wF hX hC hmix | apply wG | apply wH | apply And.intro)) | ((with_reducible refine oD ?_ ?_); first | fail | kernel_rfl) | ((with_reducible (first | apply oE | apply oF)); (iterate 3 exact rfl); all_goals (intro h; first | (exact absurd h (by decide)) | ((try simp only [go_sem, simprocAttr] at h); (try with_reducible intro K hK); simp only [go_sem, simprocAttr]))) | ((first | ((with_reducible apply wL); exact rfl) | ((with_reducible apply wM); exact rfl)); all_goals (try ((with_reducible intro h); first | (exact absurd h (by decide)) | (try simp only [go_sem, simprocAttr] at h)))) | omega | ((first | fail); try simp only [go_sem, simprocAttr]) | (intro h))
 any_goals (simp [mayB]; omega)
 refine awp_loopP (fun k : Nat => k ≤ g.es.length ∧ (g.es.take k).any (outE g) = false) (fun k => ⟨[(1, .ptr 1 0), (3, eN k)], [(1, .box [eN g.n, .d (sE g.es)])]⟩) (fun k => g.es.length - k) 0 (by simp) ?_ ?_
 ·(refine Le.of ?_ ?_ <;> simp [go_sem, simprocAttr])
 rintro k ⟨hk, hp⟩
 repeat' (first | fail | ((first | ((with_reducible (first | apply oA | apply oB)); exact rfl; intro K hK) | (refine hK _ ?_; clear hK K) | ((with_reducible (first | apply oG | apply oH)); iterate 3 exact rfl) | ((with_reducible apply oI); (iterate 2 exact rfl); intro K hK) | (with_reducible (first | apply wI | apply wJ | apply wK))); try simp only [go_sem, simprocAttr]) | fail | (with_reducible (first | apply oC | apply oJ | exact oK | apply wA | apply wB | apply wC hX hC | apply wD hX hC | apply wE hX hC hmix | apply wF hX hC hmix | apply wG | apply wH | apply And.intro)) | ((with_reducible refine oD ?_ ?_); first | fail | kernel_rfl) | ((with_reducible (first | apply oE | apply oF)); (iterate 3 exact rfl); all_goals (intro h; first | (exact absurd h (by decide)) | ((try simp only [go_sem, simprocAttr] at h); (try with_reducible intro K hK); simp only [go_sem, simprocAttr]))) | ((first | ((with_reducible apply wL); exact rfl) | ((with_reducible apply wM); exact rfl)); all_goals (try ((with_reducible intro h); first | (exact absurd h (by decide)) | (try simp only [go_sem, simprocAttr] at h)))) | omega | ((first | fail); try simp only [go_sem, simprocAttr]) | (intro h))
 any_goals (refine mayB_out (k := k) (by omega) ?_; simp only [outE, outB, Bool.or_eq_true, decide_eq_true_eq]; omega)
 ·refine ⟨k + 1, ⟨by omega, any_next (0, 0) (by omega) hp ?_⟩, ?_, by omega⟩
  ·simp only [outE, outB, Bool.or_eq_false_iff, decide_eq_false_iff_not]; omega
  ·(refine Le.of ?_ ?_ <;> simp [go_sem, simprocAttr])
 ·rw [List.take_of_length_le (by omega)] at hp
  simp [mayB, hp]; omega
end Go.Ab
end
