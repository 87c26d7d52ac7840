/- A part of the proof. -/
import Derived.Test.YtilamojcledkaaaProg
import Derived.Test.YtilamojcledkaaaL7P8
set_option linter.unusedSimpArgs false
set_option linter.unusedVariables false
section
namespace Go.Ab.T
open Go.Proofs
def T : Nat → Option TI
 | 1 => some ⟨.sc, 1, 8, [(.d (.sc .nilFunc))]⟩
 | 2 => some ⟨(.int .i64), 1, 8, [(.d (.sc (.int .i64 0)))]⟩
 | 3 => some ⟨(.int .i64), 1, 8, [(.d (.sc (.int .i64 0)))]⟩
 | 4 => some ⟨.bool, 1, 1, [(.d (.sc (.bool false)))]⟩
 | 5 => some ⟨(.int .u8), 1, 1, [(.d (.sc (.int .u8 0)))]⟩
 | 9 => some ⟨.sc, 1, 16, [(.d (.sc (.string ⟨#[]⟩)))]⟩
 | 12 => some ⟨(.int .u64), 1, 8, [(.d (.sc (.int .u64 0)))]⟩
 | 21 => some ⟨(.int .i32), 1, 4, [(.d (.sc (.int .i32 0)))]⟩
 | 22 => some ⟨(.sl 53), 1, 24, [(.nil 53)]⟩
 | 24 => some ⟨(.st [(0, 3), (1, 22)]), 2, 32, [(.d (.sc (.int .i64 0))), (.nil 53)]⟩
 | 25 => some ⟨(.sl 39), 1, 24, [(.nil 39)]⟩
 | 26 => some ⟨(.sl 25), 1, 24, [(.nil 25)]⟩
 | 28 => some ⟨(.st [(0, 25), (1, 26)]), 2, 48, [(.nil 39), (.nil 25)]⟩
 | 29 => some ⟨.sc, 1, 8, [(.d (.sc .nilFunc))]⟩
 | 30 => some ⟨.sc, 1, 8, [(.d (.sc .nilFunc))]⟩
 | 31 => some ⟨(.int .i64), 1, 8, [(.d (.sc (.int .i64 0)))]⟩
 | 32 => some ⟨(.sl 3), 1, 24, [(.nil 3)]⟩
 | 34 => some ⟨(.st [(0, 31), (1, 3), (2, 32)]), 3, 40, [(.d (.sc (.int .i64 0))), (.d (.sc (.int .i64 0))), (.nil 3)]⟩
 | 35 => some ⟨.sc, 1, 8, [(.d (.sc .nilFunc))]⟩
 | 37 => some ⟨.sc, 1, 8, [(.d (.sc .nilFunc))]⟩
 | 39 => some ⟨(.st [(0, 3), (1, 3)]), 2, 16, [(.d (.sc (.int .i64 0))), (.d (.sc (.int .i64 0)))]⟩
 | 40 => some ⟨.sc, 1, 8, [(.d (.sc .nilFunc))]⟩
 | 41 => some ⟨(.sl 32), 1, 24, [(.nil 32)]⟩
 | 43 => some ⟨(.st [(0, 32), (1, 41)]), 2, 48, [(.nil 3), (.nil 32)]⟩
 | 44 => some ⟨.sc, 1, 8, [(.d (.sc .nilFunc))]⟩
 | 46 => some ⟨.sc, 1, 8, [(.d (.sc .nilFunc))]⟩
 | 48 => some ⟨.sc, 1, 8, [(.d (.sc .nilFunc))]⟩
 | 49 => some ⟨.sc, 1, 8, [(.d (.sc .nilFunc))]⟩
 | 50 => some ⟨.sc, 1, 8, [(.d (.sc .nilFunc))]⟩
 | 51 => some ⟨.sc, 1, 8, [(.d (.sc .nilFunc))]⟩
 | 53 => some ⟨(.st [(0, 3), (1, 3)]), 2, 16, [(.d (.sc (.int .i64 0))), (.d (.sc (.int .i64 0)))]⟩
 | 54 => some ⟨(.sl 55), 1, 24, [(.nil 55)]⟩
 | 55 => some ⟨(.sl 71), 1, 24, [(.nil 71)]⟩
 | 57 => some ⟨.sc, 1, 8, [(.d (.sc .nilFunc))]⟩
 | 58 => some ⟨.sc, 1, 8, [(.d (.sc .nilFunc))]⟩
 | 59 => some ⟨(.pt 69), 1, 8, [(.d (.sc (.pointer none)))]⟩
 | 61 => some ⟨.sc, 1, 8, [(.d (.sc .nilFunc))]⟩
 | 63 => some ⟨.sc, 1, 8, [(.d (.sc .nilFunc))]⟩
 | 64 => some ⟨.sc, 1, 8, [(.d (.sc .nilFunc))]⟩
 | 66 => some ⟨(.st [(0, 55)]), 1, 24, [(.nil 71)]⟩
 | 67 => some ⟨(.pt 113), 1, 8, [(.d (.sc (.pointer none)))]⟩
 | 69 => some ⟨(.st [(0, 66), (1, 67), (2, 32)]), 3, 56, [(.nil 71), (.d (.sc (.pointer none))), (.nil 3)]⟩
 | 71 => some ⟨(.st [(0, 3), (1, 3), (2, 3)]), 3, 24, [(.d (.sc (.int .i64 0))), (.d (.sc (.int .i64 0))), (.d (.sc (.int .i64 0)))]⟩
 | 72 => some ⟨.sc, 1, 8, [(.d (.sc .nilFunc))]⟩
 | 73 => some ⟨(.sl 32), 1, 24, [(.nil 32)]⟩
 | 75 => some ⟨.sc, 1, 8, [(.d (.sc .nilFunc))]⟩
 | 76 => some ⟨.sc, 1, 8, [(.d (.sc .nilFunc))]⟩
 | 77 => some ⟨(.pt 79), 1, 8, [(.d (.sc (.pointer none)))]⟩
 | 79 => some ⟨(.st [(0, 24), (2, 28)]), 4, 80, [(.d (.sc (.int .i64 0))), (.nil 53), (.nil 39), (.nil 25)]⟩
 | 80 => some ⟨.sc, 1, 8, [(.d (.sc .nilFunc))]⟩
 | 81 => some ⟨.sc, 1, 8, [(.d (.sc .nilFunc))]⟩
 | 82 => some ⟨.sc, 1, 8, [(.d (.sc .nilFunc))]⟩
 | 83 => some ⟨.sc, 1, 8, [(.d (.sc .nilFunc))]⟩
 | 84 => some ⟨.sc, 1, 8, [(.d (.sc .nilFunc))]⟩
 | 85 => some ⟨(.pt 89), 1, 8, [(.d (.sc (.pointer none)))]⟩
 | 86 => some ⟨.sc, 1, 8, [(.d (.sc .nilFunc))]⟩
 | 87 => some ⟨.sc, 1, 8, [(.d (.sc .nilFunc))]⟩
 | 89 => some ⟨(.st [(0, 24), (2, 43)]), 4, 80, [(.d (.sc (.int .i64 0))), (.nil 53), (.nil 3), (.nil 32)]⟩
 | 90 => some ⟨.sc, 1, 8, [(.d (.sc .nilFunc))]⟩
 | 92 => some ⟨.sc, 1, 8, [(.d (.sc .nilFunc))]⟩
 | 93 => some ⟨.sc, 1, 8, [(.d (.sc .nilFunc))]⟩
 | 94 => some ⟨.sc, 1, 8, [(.d (.sc .nilFunc))]⟩
 | 95 => some ⟨.sc, 1, 8, [(.d (.sc .nilFunc))]⟩
 | 96 => some ⟨.sc, 1, 8, [(.d (.sc .nilFunc))]⟩
 | 98 => some ⟨.sc, 1, 8, [(.d (.sc .nilFunc))]⟩
 | 99 => some ⟨.sc, 1, 8, [(.d (.sc .nilFunc))]⟩
 | 100 => some ⟨.sc, 1, 8, [(.d (.sc .nilFunc))]⟩
 | 101 => some ⟨.sc, 1, 8, [(.d (.sc .nilFunc))]⟩
 | 102 => some ⟨.sc, 1, 8, [(.d (.sc .nilFunc))]⟩
 | 103 => some ⟨.sc, 1, 8, [(.d (.sc .nilFunc))]⟩
 | 104 => some ⟨.sc, 1, 8, [(.d (.sc .nilFunc))]⟩
 | 105 => some ⟨.sc, 1, 8, [(.d (.sc .nilFunc))]⟩
 | 107 => some ⟨.sc, 1, 8, [(.d (.sc .nilFunc))]⟩
 | 108 => some ⟨.sc, 1, 8, [(.d (.sc .nilFunc))]⟩
 | 109 => some ⟨.sc, 1, 8, [(.d (.sc .nilFunc))]⟩
 | 110 => some ⟨(.pt 66), 1, 8, [(.d (.sc (.pointer none)))]⟩
 | 111 => some ⟨.sc, 1, 8, [(.d (.sc .nilFunc))]⟩
 | 113 => some ⟨(.st [(0, 24), (2, 41), (3, 41)]), 4, 80, [(.d (.sc (.int .i64 0))), (.nil 53), (.nil 32), (.nil 32)]⟩
 | 115 => some ⟨.sc, 1, 8, [(.d (.sc .nilFunc))]⟩
 | 116 => some ⟨.sc, 1, 8, [(.d (.sc .nilFunc))]⟩
 | 117 => some ⟨.sc, 1, 8, [(.d (.sc .nilFunc))]⟩
 | 118 => some ⟨.sc, 1, 8, [(.d (.sc .nilFunc))]⟩
 | 119 => some ⟨.sc, 1, 8, [(.d (.sc .nilFunc))]⟩
 | 120 => some ⟨.sc, 1, 8, [(.d (.sc .nilFunc))]⟩
 | 121 => some ⟨.sc, 1, 8, [(.d (.sc .nilFunc))]⟩
 | 122 => some ⟨.sc, 1, 8, [(.d (.sc .nilFunc))]⟩
 | 123 => some ⟨.sc, 1, 8, [(.d (.sc .nilFunc))]⟩
 | 124 => some ⟨.sc, 1, 8, [(.d (.sc .nilFunc))]⟩
 | 125 => some ⟨.sc, 1, 8, [(.d (.sc .nilFunc))]⟩
 | 126 => some ⟨.sc, 1, 8, [(.d (.sc .nilFunc))]⟩
 | 127 => some ⟨(.sl 129), 1, 24, [(.nil 129)]⟩
 | 129 => some ⟨(.st [(0, 39), (2, 39)]), 4, 32, [(.d (.sc (.int .i64 0))), (.d (.sc (.int .i64 0))), (.d (.sc (.int .i64 0))), (.d (.sc (.int .i64 0)))]⟩
 | 130 => some ⟨.sc, 1, 8, [(.d (.sc .nilFunc))]⟩
 | 131 => some ⟨.sc, 1, 8, [(.d (.sc .nilFunc))]⟩
 | 132 => some ⟨.sc, 1, 8, [(.d (.sc .nilFunc))]⟩
 | 133 => some ⟨.sc, 1, 8, [(.d (.sc .nilFunc))]⟩
 | 134 => some ⟨.sc, 1, 8, [(.d (.sc .nilFunc))]⟩
 | 135 => some ⟨.sc, 1, 8, [(.d (.sc .nilFunc))]⟩
 | 136 => some ⟨.sc, 1, 8, [(.d (.sc .nilFunc))]⟩
 | 137 => some ⟨(.pt 139), 1, 8, [(.d (.sc (.pointer none)))]⟩
 | 139 => some ⟨(.st [(0, 24), (2, 55), (3, 32)]), 4, 80, [(.d (.sc (.int .i64 0))), (.nil 53), (.nil 71), (.nil 3)]⟩
 | 141 => some ⟨.sc, 1, 8, [(.d (.sc .nilFunc))]⟩
 | 142 => some ⟨.sc, 1, 8, [(.d (.sc .nilFunc))]⟩
 | 143 => some ⟨.sc, 1, 8, [(.d (.sc .nilFunc))]⟩
 | 144 => some ⟨.sc, 1, 8, [(.d (.sc .nilFunc))]⟩
 | 145 => some ⟨.sc, 1, 8, [(.d (.sc .nilFunc))]⟩
 | 146 => some ⟨.sc, 1, 8, [(.d (.sc .nilFunc))]⟩
 | 147 => some ⟨.sc, 1, 8, [(.d (.sc .nilFunc))]⟩
 | 148 => some ⟨.sc, 1, 8, [(.d (.sc .nilFunc))]⟩
 | 149 => some ⟨.sc, 1, 8, [(.d (.sc .nilFunc))]⟩
 | 150 => some ⟨.sc, 1, 8, [(.d (.sc .nilFunc))]⟩
 | 151 => some ⟨.sc, 1, 8, [(.d (.sc .nilFunc))]⟩
 | 152 => some ⟨.sc, 1, 8, [(.d (.sc .nilFunc))]⟩
 | 153 => some ⟨.sc, 1, 8, [(.d (.sc .nilFunc))]⟩
 | 154 => some ⟨.sc, 1, 8, [(.d (.sc .nilFunc))]⟩
 | 156 => some ⟨.sc, 1, 8, [(.d (.sc .nilFunc))]⟩
 | 157 => some ⟨.sc, 1, 8, [(.d (.sc .nilFunc))]⟩
 | 158 => some ⟨.sc, 1, 8, [(.d (.sc .nilFunc))]⟩
 | 159 => some ⟨.sc, 1, 8, [(.d (.sc .nilFunc))]⟩
 | 160 => some ⟨.sc, 1, 8, [(.d (.sc .nilFunc))]⟩
 | 161 => some ⟨.sc, 1, 8, [(.d (.sc .nilFunc))]⟩
 | 162 => some ⟨.sc, 1, 8, [(.d (.sc .nilFunc))]⟩
 | 163 => some ⟨(.ar 2 3), 2, 16, [(.d (.sc (.int .i64 0))), (.d (.sc (.int .i64 0)))]⟩
 | 164 => some ⟨(.mp 39 3), 1, 8, [(.d (.sc (.map none)))]⟩
 | 165 => some ⟨(.ar 2 39), 4, 32, [(.d (.sc (.int .i64 0))), (.d (.sc (.int .i64 0))), (.d (.sc (.int .i64 0))), (.d (.sc (.int .i64 0)))]⟩
 | 166 => some ⟨.sc, 1, 8, [(.d (.sc .nilFunc))]⟩
 | 167 => some ⟨.sc, 1, 8, [(.d (.sc .nilFunc))]⟩
 | 168 => some ⟨.sc, 1, 8, [(.d (.sc .nilFunc))]⟩
 | 169 => some ⟨(.sl 4), 1, 24, [(.nil 4)]⟩
 | 170 => some ⟨.sc, 1, 8, [(.d (.sc .nilFunc))]⟩
 | 171 => some ⟨.sc, 1, 8, [(.d (.sc .nilFunc))]⟩
 | 172 => some ⟨.sc, 1, 8, [(.d (.sc .nilFunc))]⟩
 | 173 => some ⟨.sc, 1, 8, [(.d (.sc .nilFunc))]⟩
 | 174 => some ⟨.sc, 1, 8, [(.d (.sc .nilFunc))]⟩
 | 175 => some ⟨.sc, 1, 8, [(.d (.sc .nilFunc))]⟩
 | 176 => some ⟨(.int .u64), 1, 8, [(.d (.sc (.int .u64 0)))]⟩
 | 177 => some ⟨.sc, 1, 8, [(.d (.sc .nilFunc))]⟩
 | 178 => some ⟨.sc, 1, 8, [(.d (.sc .nilFunc))]⟩
 | 179 => some ⟨.sc, 1, 8, [(.d (.sc .nilFunc))]⟩
 | 180 => some ⟨.sc, 1, 8, [(.d (.sc .nilFunc))]⟩
 | 181 => some ⟨.sc, 1, 8, [(.d (.sc .nilFunc))]⟩
 | 182 => some ⟨.sc, 1, 8, [(.d (.sc .nilFunc))]⟩
 | 183 => some ⟨(.int .i64), 1, 8, [(.d (.sc (.int .i64 0)))]⟩
 | 185 => some ⟨.sc, 1, 8, [(.d (.sc .nilFunc))]⟩
 | 186 => some ⟨.sc, 1, 8, [(.d (.sc .nilFunc))]⟩
 | 187 => some ⟨.sc, 1, 8, [(.d (.sc .nilFunc))]⟩
 | 188 => some ⟨.sc, 1, 8, [(.d (.sc .nilFunc))]⟩
 | 190 => some ⟨.sc, 1, 8, [(.d (.sc .nilFunc))]⟩
 | 191 => some ⟨.sc, 1, 8, [(.d (.sc .nilFunc))]⟩
 | 192 => some ⟨(.int .u32), 1, 4, [(.d (.sc (.int .u32 0)))]⟩
 | 193 => some ⟨.sc, 1, 8, [(.d (.sc .nilFunc))]⟩
 | 194 => some ⟨(.int .u64), 1, 8, [(.d (.sc (.int .u64 0)))]⟩
 | 195 => some ⟨(.int .u64), 1, 8, [(.d (.sc (.int .u64 0)))]⟩
 | 196 => some ⟨.sc, 1, 8, [(.d (.sc .nilFunc))]⟩
 | 197 => some ⟨.sc, 1, 8, [(.d (.sc .nilFunc))]⟩
 | 198 => some ⟨.sc, 1, 8, [(.d (.sc .nilFunc))]⟩
 | 199 => some ⟨(.pt 3), 1, 8, [(.d (.sc (.pointer none)))]⟩
 | 200 => some ⟨.sc, 1, 8, [(.d (.sc .nilFunc))]⟩
 | 201 => some ⟨(.pt 195), 1, 8, [(.d (.sc (.pointer none)))]⟩
 | 202 => some ⟨.sc, 1, 8, [(.d (.sc .nilFunc))]⟩
 | 203 => some ⟨.sc, 1, 8, [(.d (.sc .nilFunc))]⟩
 | 209 => some ⟨.sc, 1, 8, [(.d (.sc .nilFunc))]⟩
 | 213 => some ⟨(.pt 5), 1, 8, [(.d (.sc (.pointer none)))]⟩
 | _ => none
theorem T1 : T 1 = some ⟨.sc, 1, 8, [(.d (.sc .nilFunc))]⟩ := rfl
theorem T2 : T 2 = some ⟨(.int .i64), 1, 8, [(.d (.sc (.int .i64 0)))]⟩ := rfl
theorem T3 : T 3 = some ⟨(.int .i64), 1, 8, [(.d (.sc (.int .i64 0)))]⟩ := rfl
theorem T4 : T 4 = some ⟨.bool, 1, 1, [(.d (.sc (.bool false)))]⟩ := rfl
theorem T5 : T 5 = some ⟨(.int .u8), 1, 1, [(.d (.sc (.int .u8 0)))]⟩ := rfl
theorem T9 : T 9 = some ⟨.sc, 1, 16, [(.d (.sc (.string ⟨#[]⟩)))]⟩ := rfl
theorem T12 : T 12 = some ⟨(.int .u64), 1, 8, [(.d (.sc (.int .u64 0)))]⟩ := rfl
theorem T21 : T 21 = some ⟨(.int .i32), 1, 4, [(.d (.sc (.int .i32 0)))]⟩ := rfl
theorem T22 : T 22 = some ⟨(.sl 53), 1, 24, [(.nil 53)]⟩ := rfl
theorem T24 : T 24 = some ⟨(.st [(0, 3), (1, 22)]), 2, 32, [(.d (.sc (.int .i64 0))), (.nil 53)]⟩ := rfl
theorem T25 : T 25 = some ⟨(.sl 39), 1, 24, [(.nil 39)]⟩ := rfl
theorem T26 : T 26 = some ⟨(.sl 25), 1, 24, [(.nil 25)]⟩ := rfl
theorem T28 : T 28 = some ⟨(.st [(0, 25), (1, 26)]), 2, 48, [(.nil 39), (.nil 25)]⟩ := rfl
theorem T29 : T 29 = some ⟨.sc, 1, 8, [(.d (.sc .nilFunc))]⟩ := rfl
theorem T30 : T 30 = some ⟨.sc, 1, 8, [(.d (.sc .nilFunc))]⟩ := rfl
theorem T31 : T 31 = some ⟨(.int .i64), 1, 8, [(.d (.sc (.int .i64 0)))]⟩ := rfl
theorem T32 : T 32 = some ⟨(.sl 3), 1, 24, [(.nil 3)]⟩ := rfl
theorem T34 : T 34 = some ⟨(.st [(0, 31), (1, 3), (2, 32)]), 3, 40, [(.d (.sc (.int .i64 0))), (.d (.sc (.int .i64 0))), (.nil 3)]⟩ := rfl
theorem T35 : T 35 = some ⟨.sc, 1, 8, [(.d (.sc .nilFunc))]⟩ := rfl
theorem T37 : T 37 = some ⟨.sc, 1, 8, [(.d (.sc .nilFunc))]⟩ := rfl
theorem T39 : T 39 = some ⟨(.st [(0, 3), (1, 3)]), 2, 16, [(.d (.sc (.int .i64 0))), (.d (.sc (.int .i64 0)))]⟩ := rfl
theorem T40 : T 40 = some ⟨.sc, 1, 8, [(.d (.sc .nilFunc))]⟩ := rfl
theorem T41 : T 41 = some ⟨(.sl 32), 1, 24, [(.nil 32)]⟩ := rfl
theorem T43 : T 43 = some ⟨(.st [(0, 32), (1, 41)]), 2, 48, [(.nil 3), (.nil 32)]⟩ := rfl
theorem T44 : T 44 = some ⟨.sc, 1, 8, [(.d (.sc .nilFunc))]⟩ := rfl
theorem T46 : T 46 = some ⟨.sc, 1, 8, [(.d (.sc .nilFunc))]⟩ := rfl
theorem T48 : T 48 = some ⟨.sc, 1, 8, [(.d (.sc .nilFunc))]⟩ := rfl
theorem T49 : T 49 = some ⟨.sc, 1, 8, [(.d (.sc .nilFunc))]⟩ := rfl
theorem T50 : T 50 = some ⟨.sc, 1, 8, [(.d (.sc .nilFunc))]⟩ := rfl
theorem T51 : T 51 = some ⟨.sc, 1, 8, [(.d (.sc .nilFunc))]⟩ := rfl
theorem T53 : T 53 = some ⟨(.st [(0, 3), (1, 3)]), 2, 16, [(.d (.sc (.int .i64 0))), (.d (.sc (.int .i64 0)))]⟩ := rfl
theorem T54 : T 54 = some ⟨(.sl 55), 1, 24, [(.nil 55)]⟩ := rfl
theorem T55 : T 55 = some ⟨(.sl 71), 1, 24, [(.nil 71)]⟩ := rfl
theorem T57 : T 57 = some ⟨.sc, 1, 8, [(.d (.sc .nilFunc))]⟩ := rfl
theorem T58 : T 58 = some ⟨.sc, 1, 8, [(.d (.sc .nilFunc))]⟩ := rfl
theorem T59 : T 59 = some ⟨(.pt 69), 1, 8, [(.d (.sc (.pointer none)))]⟩ := rfl
theorem T61 : T 61 = some ⟨.sc, 1, 8, [(.d (.sc .nilFunc))]⟩ := rfl
theorem T63 : T 63 = some ⟨.sc, 1, 8, [(.d (.sc .nilFunc))]⟩ := rfl
theorem T64 : T 64 = some ⟨.sc, 1, 8, [(.d (.sc .nilFunc))]⟩ := rfl
theorem T66 : T 66 = some ⟨(.st [(0, 55)]), 1, 24, [(.nil 71)]⟩ := rfl
theorem T67 : T 67 = some ⟨(.pt 113), 1, 8, [(.d (.sc (.pointer none)))]⟩ := rfl
theorem T69 : T 69 = some ⟨(.st [(0, 66), (1, 67), (2, 32)]), 3, 56, [(.nil 71), (.d (.sc (.pointer none))), (.nil 3)]⟩ := rfl
theorem T71 : T 71 = some ⟨(.st [(0, 3), (1, 3), (2, 3)]), 3, 24, [(.d (.sc (.int .i64 0))), (.d (.sc (.int .i64 0))), (.d (.sc (.int .i64 0)))]⟩ := rfl
theorem T72 : T 72 = some ⟨.sc, 1, 8, [(.d (.sc .nilFunc))]⟩ := rfl
theorem T73 : T 73 = some ⟨(.sl 32), 1, 24, [(.nil 32)]⟩ := rfl
theorem T75 : T 75 = some ⟨.sc, 1, 8, [(.d (.sc .nilFunc))]⟩ := rfl
theorem T76 : T 76 = some ⟨.sc, 1, 8, [(.d (.sc .nilFunc))]⟩ := rfl
theorem T77 : T 77 = some ⟨(.pt 79), 1, 8, [(.d (.sc (.pointer none)))]⟩ := rfl
theorem T79 : T 79 = some ⟨(.st [(0, 24), (2, 28)]), 4, 80, [(.d (.sc (.int .i64 0))), (.nil 53), (.nil 39), (.nil 25)]⟩ := rfl
theorem T80 : T 80 = some ⟨.sc, 1, 8, [(.d (.sc .nilFunc))]⟩ := rfl
theorem T81 : T 81 = some ⟨.sc, 1, 8, [(.d (.sc .nilFunc))]⟩ := rfl
theorem T82 : T 82 = some ⟨.sc, 1, 8, [(.d (.sc .nilFunc))]⟩ := rfl
theorem T83 : T 83 = some ⟨.sc, 1, 8, [(.d (.sc .nilFunc))]⟩ := rfl
theorem T84 : T 84 = some ⟨.sc, 1, 8, [(.d (.sc .nilFunc))]⟩ := rfl
theorem T85 : T 85 = some ⟨(.pt 89), 1, 8, [(.d (.sc (.pointer none)))]⟩ := rfl
theorem T86 : T 86 = some ⟨.sc, 1, 8, [(.d (.sc .nilFunc))]⟩ := rfl
theorem T87 : T 87 = some ⟨.sc, 1, 8, [(.d (.sc .nilFunc))]⟩ := rfl
theorem T89 : T 89 = some ⟨(.st [(0, 24), (2, 43)]), 4, 80, [(.d (.sc (.int .i64 0))), (.nil 53), (.nil 3), (.nil 32)]⟩ := rfl
theorem T90 : T 90 = some ⟨.sc, 1, 8, [(.d (.sc .nilFunc))]⟩ := rfl
theorem T92 : T 92 = some ⟨.sc, 1, 8, [(.d (.sc .nilFunc))]⟩ := rfl
theorem T93 : T 93 = some ⟨.sc, 1, 8, [(.d (.sc .nilFunc))]⟩ := rfl
theorem T94 : T 94 = some ⟨.sc, 1, 8, [(.d (.sc .nilFunc))]⟩ := rfl
theorem T95 : T 95 = some ⟨.sc, 1, 8, [(.d (.sc .nilFunc))]⟩ := rfl
theorem T96 : T 96 = some ⟨.sc, 1, 8, [(.d (.sc .nilFunc))]⟩ := rfl
theorem T98 : T 98 = some ⟨.sc, 1, 8, [(.d (.sc .nilFunc))]⟩ := rfl
theorem T99 : T 99 = some ⟨.sc, 1, 8, [(.d (.sc .nilFunc))]⟩ := rfl
theorem T100 : T 100 = some ⟨.sc, 1, 8, [(.d (.sc .nilFunc))]⟩ := rfl
theorem T101 : T 101 = some ⟨.sc, 1, 8, [(.d (.sc .nilFunc))]⟩ := rfl
theorem T102 : T 102 = some ⟨.sc, 1, 8, [(.d (.sc .nilFunc))]⟩ := rfl
theorem T103 : T 103 = some ⟨.sc, 1, 8, [(.d (.sc .nilFunc))]⟩ := rfl
theorem T104 : T 104 = some ⟨.sc, 1, 8, [(.d (.sc .nilFunc))]⟩ := rfl
theorem T105 : T 105 = some ⟨.sc, 1, 8, [(.d (.sc .nilFunc))]⟩ := rfl
theorem T107 : T 107 = some ⟨.sc, 1, 8, [(.d (.sc .nilFunc))]⟩ := rfl
theorem T108 : T 108 = some ⟨.sc, 1, 8, [(.d (.sc .nilFunc))]⟩ := rfl
theorem T109 : T 109 = some ⟨.sc, 1, 8, [(.d (.sc .nilFunc))]⟩ := rfl
theorem T110 : T 110 = some ⟨(.pt 66), 1, 8, [(.d (.sc (.pointer none)))]⟩ := rfl
theorem T111 : T 111 = some ⟨.sc, 1, 8, [(.d (.sc .nilFunc))]⟩ := rfl
theorem T113 : T 113 = some ⟨(.st [(0, 24), (2, 41), (3, 41)]), 4, 80, [(.d (.sc (.int .i64 0))), (.nil 53), (.nil 32), (.nil 32)]⟩ := rfl
theorem T115 : T 115 = some ⟨.sc, 1, 8, [(.d (.sc .nilFunc))]⟩ := rfl
theorem T116 : T 116 = some ⟨.sc, 1, 8, [(.d (.sc .nilFunc))]⟩ := rfl
theorem T117 : T 117 = some ⟨.sc, 1, 8, [(.d (.sc .nilFunc))]⟩ := rfl
theorem T118 : T 118 = some ⟨.sc, 1, 8, [(.d (.sc .nilFunc))]⟩ := rfl
theorem T119 : T 119 = some ⟨.sc, 1, 8, [(.d (.sc .nilFunc))]⟩ := rfl
theorem T120 : T 120 = some ⟨.sc, 1, 8, [(.d (.sc .nilFunc))]⟩ := rfl
theorem T121 : T 121 = some ⟨.sc, 1, 8, [(.d (.sc .nilFunc))]⟩ := rfl
theorem T122 : T 122 = some ⟨.sc, 1, 8, [(.d (.sc .nilFunc))]⟩ := rfl
theorem T123 : T 123 = some ⟨.sc, 1, 8, [(.d (.sc .nilFunc))]⟩ := rfl
theorem T124 : T 124 = some ⟨.sc, 1, 8, [(.d (.sc .nilFunc))]⟩ := rfl
theorem T125 : T 125 = some ⟨.sc, 1, 8, [(.d (.sc .nilFunc))]⟩ := rfl
theorem T126 : T 126 = some ⟨.sc, 1, 8, [(.d (.sc .nilFunc))]⟩ := rfl
theorem T127 : T 127 = some ⟨(.sl 129), 1, 24, [(.nil 129)]⟩ := rfl
theorem T129 : T 129 = some ⟨(.st [(0, 39), (2, 39)]), 4, 32, [(.d (.sc (.int .i64 0))), (.d (.sc (.int .i64 0))), (.d (.sc (.int .i64 0))), (.d (.sc (.int .i64 0)))]⟩ := rfl
theorem T130 : T 130 = some ⟨.sc, 1, 8, [(.d (.sc .nilFunc))]⟩ := rfl
theorem T131 : T 131 = some ⟨.sc, 1, 8, [(.d (.sc .nilFunc))]⟩ := rfl
theorem T132 : T 132 = some ⟨.sc, 1, 8, [(.d (.sc .nilFunc))]⟩ := rfl
theorem T133 : T 133 = some ⟨.sc, 1, 8, [(.d (.sc .nilFunc))]⟩ := rfl
theorem T134 : T 134 = some ⟨.sc, 1, 8, [(.d (.sc .nilFunc))]⟩ := rfl
theorem T135 : T 135 = some ⟨.sc, 1, 8, [(.d (.sc .nilFunc))]⟩ := rfl
theorem T136 : T 136 = some ⟨.sc, 1, 8, [(.d (.sc .nilFunc))]⟩ := rfl
theorem T137 : T 137 = some ⟨(.pt 139), 1, 8, [(.d (.sc (.pointer none)))]⟩ := rfl
theorem T139 : T 139 = some ⟨(.st [(0, 24), (2, 55), (3, 32)]), 4, 80, [(.d (.sc (.int .i64 0))), (.nil 53), (.nil 71), (.nil 3)]⟩ := rfl
theorem T141 : T 141 = some ⟨.sc, 1, 8, [(.d (.sc .nilFunc))]⟩ := rfl
theorem T142 : T 142 = some ⟨.sc, 1, 8, [(.d (.sc .nilFunc))]⟩ := rfl
theorem T143 : T 143 = some ⟨.sc, 1, 8, [(.d (.sc .nilFunc))]⟩ := rfl
theorem T144 : T 144 = some ⟨.sc, 1, 8, [(.d (.sc .nilFunc))]⟩ := rfl
theorem T145 : T 145 = some ⟨.sc, 1, 8, [(.d (.sc .nilFunc))]⟩ := rfl
theorem T146 : T 146 = some ⟨.sc, 1, 8, [(.d (.sc .nilFunc))]⟩ := rfl
theorem T147 : T 147 = some ⟨.sc, 1, 8, [(.d (.sc .nilFunc))]⟩ := rfl
theorem T148 : T 148 = some ⟨.sc, 1, 8, [(.d (.sc .nilFunc))]⟩ := rfl
theorem T149 : T 149 = some ⟨.sc, 1, 8, [(.d (.sc .nilFunc))]⟩ := rfl
theorem T150 : T 150 = some ⟨.sc, 1, 8, [(.d (.sc .nilFunc))]⟩ := rfl
theorem T151 : T 151 = some ⟨.sc, 1, 8, [(.d (.sc .nilFunc))]⟩ := rfl
theorem T152 : T 152 = some ⟨.sc, 1, 8, [(.d (.sc .nilFunc))]⟩ := rfl
theorem T153 : T 153 = some ⟨.sc, 1, 8, [(.d (.sc .nilFunc))]⟩ := rfl
theorem T154 : T 154 = some ⟨.sc, 1, 8, [(.d (.sc .nilFunc))]⟩ := rfl
theorem T156 : T 156 = some ⟨.sc, 1, 8, [(.d (.sc .nilFunc))]⟩ := rfl
theorem T157 : T 157 = some ⟨.sc, 1, 8, [(.d (.sc .nilFunc))]⟩ := rfl
theorem T158 : T 158 = some ⟨.sc, 1, 8, [(.d (.sc .nilFunc))]⟩ := rfl
theorem T159 : T 159 = some ⟨.sc, 1, 8, [(.d (.sc .nilFunc))]⟩ := rfl
theorem T160 : T 160 = some ⟨.sc, 1, 8, [(.d (.sc .nilFunc))]⟩ := rfl
theorem T161 : T 161 = some ⟨.sc, 1, 8, [(.d (.sc .nilFunc))]⟩ := rfl
theorem T162 : T 162 = some ⟨.sc, 1, 8, [(.d (.sc .nilFunc))]⟩ := rfl
theorem T163 : T 163 = some ⟨(.ar 2 3), 2, 16, [(.d (.sc (.int .i64 0))), (.d (.sc (.int .i64 0)))]⟩ := rfl
theorem T164 : T 164 = some ⟨(.mp 39 3), 1, 8, [(.d (.sc (.map none)))]⟩ := rfl
theorem T165 : T 165 = some ⟨(.ar 2 39), 4, 32, [(.d (.sc (.int .i64 0))), (.d (.sc (.int .i64 0))), (.d (.sc (.int .i64 0))), (.d (.sc (.int .i64 0)))]⟩ := rfl
theorem T166 : T 166 = some ⟨.sc, 1, 8, [(.d (.sc .nilFunc))]⟩ := rfl
theorem T167 : T 167 = some ⟨.sc, 1, 8, [(.d (.sc .nilFunc))]⟩ := rfl
theorem T168 : T 168 = some ⟨.sc, 1, 8, [(.d (.sc .nilFunc))]⟩ := rfl
theorem T169 : T 169 = some ⟨(.sl 4), 1, 24, [(.nil 4)]⟩ := rfl
theorem T170 : T 170 = some ⟨.sc, 1, 8, [(.d (.sc .nilFunc))]⟩ := rfl
theorem T171 : T 171 = some ⟨.sc, 1, 8, [(.d (.sc .nilFunc))]⟩ := rfl
theorem T172 : T 172 = some ⟨.sc, 1, 8, [(.d (.sc .nilFunc))]⟩ := rfl
theorem T173 : T 173 = some ⟨.sc, 1, 8, [(.d (.sc .nilFunc))]⟩ := rfl
theorem T174 : T 174 = some ⟨.sc, 1, 8, [(.d (.sc .nilFunc))]⟩ := rfl
theorem T175 : T 175 = some ⟨.sc, 1, 8, [(.d (.sc .nilFunc))]⟩ := rfl
theorem T176 : T 176 = some ⟨(.int .u64), 1, 8, [(.d (.sc (.int .u64 0)))]⟩ := rfl
theorem T177 : T 177 = some ⟨.sc, 1, 8, [(.d (.sc .nilFunc))]⟩ := rfl
theorem T178 : T 178 = some ⟨.sc, 1, 8, [(.d (.sc .nilFunc))]⟩ := rfl
theorem T179 : T 179 = some ⟨.sc, 1, 8, [(.d (.sc .nilFunc))]⟩ := rfl
theorem T180 : T 180 = some ⟨.sc, 1, 8, [(.d (.sc .nilFunc))]⟩ := rfl
theorem T181 : T 181 = some ⟨.sc, 1, 8, [(.d (.sc .nilFunc))]⟩ := rfl
theorem T182 : T 182 = some ⟨.sc, 1, 8, [(.d (.sc .nilFunc))]⟩ := rfl
theorem T183 : T 183 = some ⟨(.int .i64), 1, 8, [(.d (.sc (.int .i64 0)))]⟩ := rfl
theorem T185 : T 185 = some ⟨.sc, 1, 8, [(.d (.sc .nilFunc))]⟩ := rfl
theorem T186 : T 186 = some ⟨.sc, 1, 8, [(.d (.sc .nilFunc))]⟩ := rfl
theorem T187 : T 187 = some ⟨.sc, 1, 8, [(.d (.sc .nilFunc))]⟩ := rfl
theorem T188 : T 188 = some ⟨.sc, 1, 8, [(.d (.sc .nilFunc))]⟩ := rfl
theorem T190 : T 190 = some ⟨.sc, 1, 8, [(.d (.sc .nilFunc))]⟩ := rfl
theorem T191 : T 191 = some ⟨.sc, 1, 8, [(.d (.sc .nilFunc))]⟩ := rfl
theorem T192 : T 192 = some ⟨(.int .u32), 1, 4, [(.d (.sc (.int .u32 0)))]⟩ := rfl
theorem T193 : T 193 = some ⟨.sc, 1, 8, [(.d (.sc .nilFunc))]⟩ := rfl
theorem T194 : T 194 = some ⟨(.int .u64), 1, 8, [(.d (.sc (.int .u64 0)))]⟩ := rfl
theorem T195 : T 195 = some ⟨(.int .u64), 1, 8, [(.d (.sc (.int .u64 0)))]⟩ := rfl
theorem T196 : T 196 = some ⟨.sc, 1, 8, [(.d (.sc .nilFunc))]⟩ := rfl
theorem T197 : T 197 = some ⟨.sc, 1, 8, [(.d (.sc .nilFunc))]⟩ := rfl
theorem T198 : T 198 = some ⟨.sc, 1, 8, [(.d (.sc .nilFunc))]⟩ := rfl
theorem T199 : T 199 = some ⟨(.pt 3), 1, 8, [(.d (.sc (.pointer none)))]⟩ := rfl
theorem T200 : T 200 = some ⟨.sc, 1, 8, [(.d (.sc .nilFunc))]⟩ := rfl
theorem T201 : T 201 = some ⟨(.pt 195), 1, 8, [(.d (.sc (.pointer none)))]⟩ := rfl
theorem T202 : T 202 = some ⟨.sc, 1, 8, [(.d (.sc .nilFunc))]⟩ := rfl
theorem T203 : T 203 = some ⟨.sc, 1, 8, [(.d (.sc .nilFunc))]⟩ := rfl
theorem T209 : T 209 = some ⟨.sc, 1, 8, [(.d (.sc .nilFunc))]⟩ := rfl
theorem T213 : T 213 = some ⟨(.pt 5), 1, 8, [(.d (.sc (.pointer none)))]⟩ := rfl
def eqn : Nat → Option Nat
 | 39 => some 2
 | 53 => some 2
 | 71 => some 3
 | _ => none
theorem eqn39 : eqn 39 = some 2 := rfl
theorem eqn53 : eqn 53 = some 2 := rfl
theorem eqn71 : eqn 71 = some 3 := rfl
theorem ok1 : TIok Try.prog 1 ⟨.sc, 1, 8, [(.d (.sc .nilFunc))]⟩ := TIok.mk' (by kernel_rfl) (by kernel_rfl) rfl ⟨_, Try.underlying1, trivial⟩
theorem ok2 : TIok Try.prog 2 ⟨(.int .i64), 1, 8, [(.d (.sc (.int .i64 0)))]⟩ := TIok.mk' (by kernel_rfl) (by kernel_rfl) rfl Try.underlying2
theorem ok3 : TIok Try.prog 3 ⟨(.int .i64), 1, 8, [(.d (.sc (.int .i64 0)))]⟩ := TIok.mk' (by kernel_rfl) (by kernel_rfl) rfl Try.underlying3
theorem ok4 : TIok Try.prog 4 ⟨.bool, 1, 1, [(.d (.sc (.bool false)))]⟩ := TIok.mk' (by kernel_rfl) (by kernel_rfl) rfl Try.underlying4
theorem ok5 : TIok Try.prog 5 ⟨(.int .u8), 1, 1, [(.d (.sc (.int .u8 0)))]⟩ := TIok.mk' (by kernel_rfl) (by kernel_rfl) rfl Try.underlying5
theorem ok9 : TIok Try.prog 9 ⟨.sc, 1, 16, [(.d (.sc (.string ⟨#[]⟩)))]⟩ := TIok.mk' (by kernel_rfl) (by kernel_rfl) rfl ⟨_, Try.underlying9, trivial⟩
theorem ok12 : TIok Try.prog 12 ⟨(.int .u64), 1, 8, [(.d (.sc (.int .u64 0)))]⟩ := TIok.mk' (by kernel_rfl) (by kernel_rfl) rfl Try.underlying12
theorem ok21 : TIok Try.prog 21 ⟨(.int .i32), 1, 4, [(.d (.sc (.int .i32 0)))]⟩ := TIok.mk' (by kernel_rfl) (by kernel_rfl) rfl Try.underlying21
theorem ok22 : TIok Try.prog 22 ⟨(.sl 53), 1, 24, [(.nil 53)]⟩ := TIok.mk' (by kernel_rfl) (by kernel_rfl) rfl Try.underlying22
theorem ok24 : TIok Try.prog 24 ⟨(.st [(0, 3), (1, 22)]), 2, 32, [(.d (.sc (.int .i64 0))), (.nil 53)]⟩ := TIok.mk' (by kernel_rfl) (by kernel_rfl) rfl ⟨_, Try.underlying24, rfl⟩
theorem ok25 : TIok Try.prog 25 ⟨(.sl 39), 1, 24, [(.nil 39)]⟩ := TIok.mk' (by kernel_rfl) (by kernel_rfl) rfl Try.underlying25
theorem ok26 : TIok Try.prog 26 ⟨(.sl 25), 1, 24, [(.nil 25)]⟩ := TIok.mk' (by kernel_rfl) (by kernel_rfl) rfl Try.underlying26
theorem ok28 : TIok Try.prog 28 ⟨(.st [(0, 25), (1, 26)]), 2, 48, [(.nil 39), (.nil 25)]⟩ := TIok.mk' (by kernel_rfl) (by kernel_rfl) rfl ⟨_, Try.underlying28, rfl⟩
theorem ok29 : TIok Try.prog 29 ⟨.sc, 1, 8, [(.d (.sc .nilFunc))]⟩ := TIok.mk' (by kernel_rfl) (by kernel_rfl) rfl ⟨_, Try.underlying29, trivial⟩
theorem ok30 : TIok Try.prog 30 ⟨.sc, 1, 8, [(.d (.sc .nilFunc))]⟩ := TIok.mk' (by kernel_rfl) (by kernel_rfl) rfl ⟨_, Try.underlying30, trivial⟩
theorem ok31 : TIok Try.prog 31 ⟨(.int .i64), 1, 8, [(.d (.sc (.int .i64 0)))]⟩ := TIok.mk' (by kernel_rfl) (by kernel_rfl) rfl Try.underlying31
theorem ok32 : TIok Try.prog 32 ⟨(.sl 3), 1, 24, [(.nil 3)]⟩ := TIok.mk' (by kernel_rfl) (by kernel_rfl) rfl Try.underlying32
theorem ok34 : TIok Try.prog 34 ⟨(.st [(0, 31), (1, 3), (2, 32)]), 3, 40, [(.d (.sc (.int .i64 0))), (.d (.sc (.int .i64 0))), (.nil 3)]⟩ := TIok.mk' (by kernel_rfl) (by kernel_rfl) rfl ⟨_, Try.underlying34, rfl⟩
theorem ok35 : TIok Try.prog 35 ⟨.sc, 1, 8, [(.d (.sc .nilFunc))]⟩ := TIok.mk' (by kernel_rfl) (by kernel_rfl) rfl ⟨_, Try.underlying35, trivial⟩
theorem ok37 : TIok Try.prog 37 ⟨.sc, 1, 8, [(.d (.sc .nilFunc))]⟩ := TIok.mk' (by kernel_rfl) (by kernel_rfl) rfl ⟨_, Try.underlying37, trivial⟩
theorem ok39 : TIok Try.prog 39 ⟨(.st [(0, 3), (1, 3)]), 2, 16, [(.d (.sc (.int .i64 0))), (.d (.sc (.int .i64 0)))]⟩ := TIok.mk' (by kernel_rfl) (by kernel_rfl) rfl ⟨_, Try.underlying39, rfl⟩
theorem ok40 : TIok Try.prog 40 ⟨.sc, 1, 8, [(.d (.sc .nilFunc))]⟩ := TIok.mk' (by kernel_rfl) (by kernel_rfl) rfl ⟨_, Try.underlying40, trivial⟩
theorem ok41 : TIok Try.prog 41 ⟨(.sl 32), 1, 24, [(.nil 32)]⟩ := TIok.mk' (by kernel_rfl) (by kernel_rfl) rfl Try.underlying41
theorem ok43 : TIok Try.prog 43 ⟨(.st [(0, 32), (1, 41)]), 2, 48, [(.nil 3), (.nil 32)]⟩ := TIok.mk' (by kernel_rfl) (by kernel_rfl) rfl ⟨_, Try.underlying43, rfl⟩
theorem ok44 : TIok Try.prog 44 ⟨.sc, 1, 8, [(.d (.sc .nilFunc))]⟩ := TIok.mk' (by kernel_rfl) (by kernel_rfl) rfl ⟨_, Try.underlying44, trivial⟩
theorem ok46 : TIok Try.prog 46 ⟨.sc, 1, 8, [(.d (.sc .nilFunc))]⟩ := TIok.mk' (by kernel_rfl) (by kernel_rfl) rfl ⟨_, Try.underlying46, trivial⟩
theorem ok48 : TIok Try.prog 48 ⟨.sc, 1, 8, [(.d (.sc .nilFunc))]⟩ := TIok.mk' (by kernel_rfl) (by kernel_rfl) rfl ⟨_, Try.underlying48, trivial⟩
theorem ok49 : TIok Try.prog 49 ⟨.sc, 1, 8, [(.d (.sc .nilFunc))]⟩ := TIok.mk' (by kernel_rfl) (by kernel_rfl) rfl ⟨_, Try.underlying49, trivial⟩
theorem ok50 : TIok Try.prog 50 ⟨.sc, 1, 8, [(.d (.sc .nilFunc))]⟩ := TIok.mk' (by kernel_rfl) (by kernel_rfl) rfl ⟨_, Try.underlying50, trivial⟩
theorem ok51 : TIok Try.prog 51 ⟨.sc, 1, 8, [(.d (.sc .nilFunc))]⟩ := TIok.mk' (by kernel_rfl) (by kernel_rfl) rfl ⟨_, Try.underlying51, trivial⟩
theorem ok53 : TIok Try.prog 53 ⟨(.st [(0, 3), (1, 3)]), 2, 16, [(.d (.sc (.int .i64 0))), (.d (.sc (.int .i64 0)))]⟩ := TIok.mk' (by kernel_rfl) (by kernel_rfl) rfl ⟨_, Try.underlying53, rfl⟩
theorem ok54 : TIok Try.prog 54 ⟨(.sl 55), 1, 24, [(.nil 55)]⟩ := TIok.mk' (by kernel_rfl) (by kernel_rfl) rfl Try.underlying54
theorem ok55 : TIok Try.prog 55 ⟨(.sl 71), 1, 24, [(.nil 71)]⟩ := TIok.mk' (by kernel_rfl) (by kernel_rfl) rfl Try.underlying55
theorem ok57 : TIok Try.prog 57 ⟨.sc, 1, 8, [(.d (.sc .nilFunc))]⟩ := TIok.mk' (by kernel_rfl) (by kernel_rfl) rfl ⟨_, Try.underlying57, trivial⟩
theorem ok58 : TIok Try.prog 58 ⟨.sc, 1, 8, [(.d (.sc .nilFunc))]⟩ := TIok.mk' (by kernel_rfl) (by kernel_rfl) rfl ⟨_, Try.underlying58, trivial⟩
theorem ok59 : TIok Try.prog 59 ⟨(.pt 69), 1, 8, [(.d (.sc (.pointer none)))]⟩ := TIok.mk' (by kernel_rfl) (by kernel_rfl) rfl Try.underlying59
theorem ok61 : TIok Try.prog 61 ⟨.sc, 1, 8, [(.d (.sc .nilFunc))]⟩ := TIok.mk' (by kernel_rfl) (by kernel_rfl) rfl ⟨_, Try.underlying61, trivial⟩
theorem ok63 : TIok Try.prog 63 ⟨.sc, 1, 8, [(.d (.sc .nilFunc))]⟩ := TIok.mk' (by kernel_rfl) (by kernel_rfl) rfl ⟨_, Try.underlying63, trivial⟩
theorem ok64 : TIok Try.prog 64 ⟨.sc, 1, 8, [(.d (.sc .nilFunc))]⟩ := TIok.mk' (by kernel_rfl) (by kernel_rfl) rfl ⟨_, Try.underlying64, trivial⟩
theorem ok66 : TIok Try.prog 66 ⟨(.st [(0, 55)]), 1, 24, [(.nil 71)]⟩ := TIok.mk' (by kernel_rfl) (by kernel_rfl) rfl ⟨_, Try.underlying66, rfl⟩
theorem ok67 : TIok Try.prog 67 ⟨(.pt 113), 1, 8, [(.d (.sc (.pointer none)))]⟩ := TIok.mk' (by kernel_rfl) (by kernel_rfl) rfl Try.underlying67
theorem ok69 : TIok Try.prog 69 ⟨(.st [(0, 66), (1, 67), (2, 32)]), 3, 56, [(.nil 71), (.d (.sc (.pointer none))), (.nil 3)]⟩ := TIok.mk' (by kernel_rfl) (by kernel_rfl) rfl ⟨_, Try.underlying69, rfl⟩
theorem ok71 : TIok Try.prog 71 ⟨(.st [(0, 3), (1, 3), (2, 3)]), 3, 24, [(.d (.sc (.int .i64 0))), (.d (.sc (.int .i64 0))), (.d (.sc (.int .i64 0)))]⟩ := TIok.mk' (by kernel_rfl) (by kernel_rfl) rfl ⟨_, Try.underlying71, rfl⟩
theorem ok72 : TIok Try.prog 72 ⟨.sc, 1, 8, [(.d (.sc .nilFunc))]⟩ := TIok.mk' (by kernel_rfl) (by kernel_rfl) rfl ⟨_, Try.underlying72, trivial⟩
theorem ok73 : TIok Try.prog 73 ⟨(.sl 32), 1, 24, [(.nil 32)]⟩ := TIok.mk' (by kernel_rfl) (by kernel_rfl) rfl Try.underlying73
theorem ok75 : TIok Try.prog 75 ⟨.sc, 1, 8, [(.d (.sc .nilFunc))]⟩ := TIok.mk' (by kernel_rfl) (by kernel_rfl) rfl ⟨_, Try.underlying75, trivial⟩
theorem ok76 : TIok Try.prog 76 ⟨.sc, 1, 8, [(.d (.sc .nilFunc))]⟩ := TIok.mk' (by kernel_rfl) (by kernel_rfl) rfl ⟨_, Try.underlying76, trivial⟩
theorem ok77 : TIok Try.prog 77 ⟨(.pt 79), 1, 8, [(.d (.sc (.pointer none)))]⟩ := TIok.mk' (by kernel_rfl) (by kernel_rfl) rfl Try.underlying77
theorem ok79 : TIok Try.prog 79 ⟨(.st [(0, 24), (2, 28)]), 4, 80, [(.d (.sc (.int .i64 0))), (.nil 53), (.nil 39), (.nil 25)]⟩ := TIok.mk' (by kernel_rfl) (by kernel_rfl) rfl ⟨_, Try.underlying79, rfl⟩
theorem ok80 : TIok Try.prog 80 ⟨.sc, 1, 8, [(.d (.sc .nilFunc))]⟩ := TIok.mk' (by kernel_rfl) (by kernel_rfl) rfl ⟨_, Try.underlying80, trivial⟩
theorem ok81 : TIok Try.prog 81 ⟨.sc, 1, 8, [(.d (.sc .nilFunc))]⟩ := TIok.mk' (by kernel_rfl) (by kernel_rfl) rfl ⟨_, Try.underlying81, trivial⟩
theorem ok82 : TIok Try.prog 82 ⟨.sc, 1, 8, [(.d (.sc .nilFunc))]⟩ := TIok.mk' (by kernel_rfl) (by kernel_rfl) rfl ⟨_, Try.underlying82, trivial⟩
theorem ok83 : TIok Try.prog 83 ⟨.sc, 1, 8, [(.d (.sc .nilFunc))]⟩ := TIok.mk' (by kernel_rfl) (by kernel_rfl) rfl ⟨_, Try.underlying83, trivial⟩
theorem ok84 : TIok Try.prog 84 ⟨.sc, 1, 8, [(.d (.sc .nilFunc))]⟩ := TIok.mk' (by kernel_rfl) (by kernel_rfl) rfl ⟨_, Try.underlying84, trivial⟩
theorem ok85 : TIok Try.prog 85 ⟨(.pt 89), 1, 8, [(.d (.sc (.pointer none)))]⟩ := TIok.mk' (by kernel_rfl) (by kernel_rfl) rfl Try.underlying85
theorem ok86 : TIok Try.prog 86 ⟨.sc, 1, 8, [(.d (.sc .nilFunc))]⟩ := TIok.mk' (by kernel_rfl) (by kernel_rfl) rfl ⟨_, Try.underlying86, trivial⟩
theorem ok87 : TIok Try.prog 87 ⟨.sc, 1, 8, [(.d (.sc .nilFunc))]⟩ := TIok.mk' (by kernel_rfl) (by kernel_rfl) rfl ⟨_, Try.underlying87, trivial⟩
theorem ok89 : TIok Try.prog 89 ⟨(.st [(0, 24), (2, 43)]), 4, 80, [(.d (.sc (.int .i64 0))), (.nil 53), (.nil 3), (.nil 32)]⟩ := TIok.mk' (by kernel_rfl) (by kernel_rfl) rfl ⟨_, Try.underlying89, rfl⟩
theorem ok90 : TIok Try.prog 90 ⟨.sc, 1, 8, [(.d (.sc .nilFunc))]⟩ := TIok.mk' (by kernel_rfl) (by kernel_rfl) rfl ⟨_, Try.underlying90, trivial⟩
theorem ok92 : TIok Try.prog 92 ⟨.sc, 1, 8, [(.d (.sc .nilFunc))]⟩ := TIok.mk' (by kernel_rfl) (by kernel_rfl) rfl ⟨_, Try.underlying92, trivial⟩
theorem ok93 : TIok Try.prog 93 ⟨.sc, 1, 8, [(.d (.sc .nilFunc))]⟩ := TIok.mk' (by kernel_rfl) (by kernel_rfl) rfl ⟨_, Try.underlying93, trivial⟩
theorem ok94 : TIok Try.prog 94 ⟨.sc, 1, 8, [(.d (.sc .nilFunc))]⟩ := TIok.mk' (by kernel_rfl) (by kernel_rfl) rfl ⟨_, Try.underlying94, trivial⟩
theorem ok95 : TIok Try.prog 95 ⟨.sc, 1, 8, [(.d (.sc .nilFunc))]⟩ := TIok.mk' (by kernel_rfl) (by kernel_rfl) rfl ⟨_, Try.underlying95, trivial⟩
theorem ok96 : TIok Try.prog 96 ⟨.sc, 1, 8, [(.d (.sc .nilFunc))]⟩ := TIok.mk' (by kernel_rfl) (by kernel_rfl) rfl ⟨_, Try.underlying96, trivial⟩
theorem ok98 : TIok Try.prog 98 ⟨.sc, 1, 8, [(.d (.sc .nilFunc))]⟩ := TIok.mk' (by kernel_rfl) (by kernel_rfl) rfl ⟨_, Try.underlying98, trivial⟩
theorem ok99 : TIok Try.prog 99 ⟨.sc, 1, 8, [(.d (.sc .nilFunc))]⟩ := TIok.mk' (by kernel_rfl) (by kernel_rfl) rfl ⟨_, Try.underlying99, trivial⟩
theorem ok100 : TIok Try.prog 100 ⟨.sc, 1, 8, [(.d (.sc .nilFunc))]⟩ := TIok.mk' (by kernel_rfl) (by kernel_rfl) rfl ⟨_, Try.underlying100, trivial⟩
theorem ok101 : TIok Try.prog 101 ⟨.sc, 1, 8, [(.d (.sc .nilFunc))]⟩ := TIok.mk' (by kernel_rfl) (by kernel_rfl) rfl ⟨_, Try.underlying101, trivial⟩
theorem ok102 : TIok Try.prog 102 ⟨.sc, 1, 8, [(.d (.sc .nilFunc))]⟩ := TIok.mk' (by kernel_rfl) (by kernel_rfl) rfl ⟨_, Try.underlying102, trivial⟩
theorem ok103 : TIok Try.prog 103 ⟨.sc, 1, 8, [(.d (.sc .nilFunc))]⟩ := TIok.mk' (by kernel_rfl) (by kernel_rfl) rfl ⟨_, Try.underlying103, trivial⟩
theorem ok104 : TIok Try.prog 104 ⟨.sc, 1, 8, [(.d (.sc .nilFunc))]⟩ := TIok.mk' (by kernel_rfl) (by kernel_rfl) rfl ⟨_, Try.underlying104, trivial⟩
theorem ok105 : TIok Try.prog 105 ⟨.sc, 1, 8, [(.d (.sc .nilFunc))]⟩ := TIok.mk' (by kernel_rfl) (by kernel_rfl) rfl ⟨_, Try.underlying105, trivial⟩
theorem ok107 : TIok Try.prog 107 ⟨.sc, 1, 8, [(.d (.sc .nilFunc))]⟩ := TIok.mk' (by kernel_rfl) (by kernel_rfl) rfl ⟨_, Try.underlying107, trivial⟩
theorem ok108 : TIok Try.prog 108 ⟨.sc, 1, 8, [(.d (.sc .nilFunc))]⟩ := TIok.mk' (by kernel_rfl) (by kernel_rfl) rfl ⟨_, Try.underlying108, trivial⟩
theorem ok109 : TIok Try.prog 109 ⟨.sc, 1, 8, [(.d (.sc .nilFunc))]⟩ := TIok.mk' (by kernel_rfl) (by kernel_rfl) rfl ⟨_, Try.underlying109, trivial⟩
theorem ok110 : TIok Try.prog 110 ⟨(.pt 66), 1, 8, [(.d (.sc (.pointer none)))]⟩ := TIok.mk' (by kernel_rfl) (by kernel_rfl) rfl Try.underlying110
theorem ok111 : TIok Try.prog 111 ⟨.sc, 1, 8, [(.d (.sc .nilFunc))]⟩ := TIok.mk' (by kernel_rfl) (by kernel_rfl) rfl ⟨_, Try.underlying111, trivial⟩
theorem ok113 : TIok Try.prog 113 ⟨(.st [(0, 24), (2, 41), (3, 41)]), 4, 80, [(.d (.sc (.int .i64 0))), (.nil 53), (.nil 32), (.nil 32)]⟩ := TIok.mk' (by kernel_rfl) (by kernel_rfl) rfl ⟨_, Try.underlying113, rfl⟩
theorem ok115 : TIok Try.prog 115 ⟨.sc, 1, 8, [(.d (.sc .nilFunc))]⟩ := TIok.mk' (by kernel_rfl) (by kernel_rfl) rfl ⟨_, Try.underlying115, trivial⟩
theorem ok116 : TIok Try.prog 116 ⟨.sc, 1, 8, [(.d (.sc .nilFunc))]⟩ := TIok.mk' (by kernel_rfl) (by kernel_rfl) rfl ⟨_, Try.underlying116, trivial⟩
theorem ok117 : TIok Try.prog 117 ⟨.sc, 1, 8, [(.d (.sc .nilFunc))]⟩ := TIok.mk' (by kernel_rfl) (by kernel_rfl) rfl ⟨_, Try.underlying117, trivial⟩
theorem ok118 : TIok Try.prog 118 ⟨.sc, 1, 8, [(.d (.sc .nilFunc))]⟩ := TIok.mk' (by kernel_rfl) (by kernel_rfl) rfl ⟨_, Try.underlying118, trivial⟩
theorem ok119 : TIok Try.prog 119 ⟨.sc, 1, 8, [(.d (.sc .nilFunc))]⟩ := TIok.mk' (by kernel_rfl) (by kernel_rfl) rfl ⟨_, Try.underlying119, trivial⟩
theorem ok120 : TIok Try.prog 120 ⟨.sc, 1, 8, [(.d (.sc .nilFunc))]⟩ := TIok.mk' (by kernel_rfl) (by kernel_rfl) rfl ⟨_, Try.underlying120, trivial⟩
theorem ok121 : TIok Try.prog 121 ⟨.sc, 1, 8, [(.d (.sc .nilFunc))]⟩ := TIok.mk' (by kernel_rfl) (by kernel_rfl) rfl ⟨_, Try.underlying121, trivial⟩
theorem ok122 : TIok Try.prog 122 ⟨.sc, 1, 8, [(.d (.sc .nilFunc))]⟩ := TIok.mk' (by kernel_rfl) (by kernel_rfl) rfl ⟨_, Try.underlying122, trivial⟩
theorem ok123 : TIok Try.prog 123 ⟨.sc, 1, 8, [(.d (.sc .nilFunc))]⟩ := TIok.mk' (by kernel_rfl) (by kernel_rfl) rfl ⟨_, Try.underlying123, trivial⟩
theorem ok124 : TIok Try.prog 124 ⟨.sc, 1, 8, [(.d (.sc .nilFunc))]⟩ := TIok.mk' (by kernel_rfl) (by kernel_rfl) rfl ⟨_, Try.underlying124, trivial⟩
theorem ok125 : TIok Try.prog 125 ⟨.sc, 1, 8, [(.d (.sc .nilFunc))]⟩ := TIok.mk' (by kernel_rfl) (by kernel_rfl) rfl ⟨_, Try.underlying125, trivial⟩
theorem ok126 : TIok Try.prog 126 ⟨.sc, 1, 8, [(.d (.sc .nilFunc))]⟩ := TIok.mk' (by kernel_rfl) (by kernel_rfl) rfl ⟨_, Try.underlying126, trivial⟩
theorem ok127 : TIok Try.prog 127 ⟨(.sl 129), 1, 24, [(.nil 129)]⟩ := TIok.mk' (by kernel_rfl) (by kernel_rfl) rfl Try.underlying127
theorem ok129 : TIok Try.prog 129 ⟨(.st [(0, 39), (2, 39)]), 4, 32, [(.d (.sc (.int .i64 0))), (.d (.sc (.int .i64 0))), (.d (.sc (.int .i64 0))), (.d (.sc (.int .i64 0)))]⟩ := TIok.mk' (by kernel_rfl) (by kernel_rfl) rfl ⟨_, Try.underlying129, rfl⟩
theorem ok130 : TIok Try.prog 130 ⟨.sc, 1, 8, [(.d (.sc .nilFunc))]⟩ := TIok.mk' (by kernel_rfl) (by kernel_rfl) rfl ⟨_, Try.underlying130, trivial⟩
theorem ok131 : TIok Try.prog 131 ⟨.sc, 1, 8, [(.d (.sc .nilFunc))]⟩ := TIok.mk' (by kernel_rfl) (by kernel_rfl) rfl ⟨_, Try.underlying131, trivial⟩
theorem ok132 : TIok Try.prog 132 ⟨.sc, 1, 8, [(.d (.sc .nilFunc))]⟩ := TIok.mk' (by kernel_rfl) (by kernel_rfl) rfl ⟨_, Try.underlying132, trivial⟩
theorem ok133 : TIok Try.prog 133 ⟨.sc, 1, 8, [(.d (.sc .nilFunc))]⟩ := TIok.mk' (by kernel_rfl) (by kernel_rfl) rfl ⟨_, Try.underlying133, trivial⟩
theorem ok134 : TIok Try.prog 134 ⟨.sc, 1, 8, [(.d (.sc .nilFunc))]⟩ := TIok.mk' (by kernel_rfl) (by kernel_rfl) rfl ⟨_, Try.underlying134, trivial⟩
theorem ok135 : TIok Try.prog 135 ⟨.sc, 1, 8, [(.d (.sc .nilFunc))]⟩ := TIok.mk' (by kernel_rfl) (by kernel_rfl) rfl ⟨_, Try.underlying135, trivial⟩
theorem ok136 : TIok Try.prog 136 ⟨.sc, 1, 8, [(.d (.sc .nilFunc))]⟩ := TIok.mk' (by kernel_rfl) (by kernel_rfl) rfl ⟨_, Try.underlying136, trivial⟩
theorem ok137 : TIok Try.prog 137 ⟨(.pt 139), 1, 8, [(.d (.sc (.pointer none)))]⟩ := TIok.mk' (by kernel_rfl) (by kernel_rfl) rfl Try.underlying137
theorem ok139 : TIok Try.prog 139 ⟨(.st [(0, 24), (2, 55), (3, 32)]), 4, 80, [(.d (.sc (.int .i64 0))), (.nil 53), (.nil 71), (.nil 3)]⟩ := TIok.mk' (by kernel_rfl) (by kernel_rfl) rfl ⟨_, Try.underlying139, rfl⟩
theorem ok141 : TIok Try.prog 141 ⟨.sc, 1, 8, [(.d (.sc .nilFunc))]⟩ := TIok.mk' (by kernel_rfl) (by kernel_rfl) rfl ⟨_, Try.underlying141, trivial⟩
theorem ok142 : TIok Try.prog 142 ⟨.sc, 1, 8, [(.d (.sc .nilFunc))]⟩ := TIok.mk' (by kernel_rfl) (by kernel_rfl) rfl ⟨_, Try.underlying142, trivial⟩
theorem ok143 : TIok Try.prog 143 ⟨.sc, 1, 8, [(.d (.sc .nilFunc))]⟩ := TIok.mk' (by kernel_rfl) (by kernel_rfl) rfl ⟨_, Try.underlying143, trivial⟩
theorem ok144 : TIok Try.prog 144 ⟨.sc, 1, 8, [(.d (.sc .nilFunc))]⟩ := TIok.mk' (by kernel_rfl) (by kernel_rfl) rfl ⟨_, Try.underlying144, trivial⟩
theorem ok145 : TIok Try.prog 145 ⟨.sc, 1, 8, [(.d (.sc .nilFunc))]⟩ := TIok.mk' (by kernel_rfl) (by kernel_rfl) rfl ⟨_, Try.underlying145, trivial⟩
theorem ok146 : TIok Try.prog 146 ⟨.sc, 1, 8, [(.d (.sc .nilFunc))]⟩ := TIok.mk' (by kernel_rfl) (by kernel_rfl) rfl ⟨_, Try.underlying146, trivial⟩
theorem ok147 : TIok Try.prog 147 ⟨.sc, 1, 8, [(.d (.sc .nilFunc))]⟩ := TIok.mk' (by kernel_rfl) (by kernel_rfl) rfl ⟨_, Try.underlying147, trivial⟩
theorem ok148 : TIok Try.prog 148 ⟨.sc, 1, 8, [(.d (.sc .nilFunc))]⟩ := TIok.mk' (by kernel_rfl) (by kernel_rfl) rfl ⟨_, Try.underlying148, trivial⟩
theorem ok149 : TIok Try.prog 149 ⟨.sc, 1, 8, [(.d (.sc .nilFunc))]⟩ := TIok.mk' (by kernel_rfl) (by kernel_rfl) rfl ⟨_, Try.underlying149, trivial⟩
theorem ok150 : TIok Try.prog 150 ⟨.sc, 1, 8, [(.d (.sc .nilFunc))]⟩ := TIok.mk' (by kernel_rfl) (by kernel_rfl) rfl ⟨_, Try.underlying150, trivial⟩
theorem ok151 : TIok Try.prog 151 ⟨.sc, 1, 8, [(.d (.sc .nilFunc))]⟩ := TIok.mk' (by kernel_rfl) (by kernel_rfl) rfl ⟨_, Try.underlying151, trivial⟩
theorem ok152 : TIok Try.prog 152 ⟨.sc, 1, 8, [(.d (.sc .nilFunc))]⟩ := TIok.mk' (by kernel_rfl) (by kernel_rfl) rfl ⟨_, Try.underlying152, trivial⟩
theorem ok153 : TIok Try.prog 153 ⟨.sc, 1, 8, [(.d (.sc .nilFunc))]⟩ := TIok.mk' (by kernel_rfl) (by kernel_rfl) rfl ⟨_, Try.underlying153, trivial⟩
theorem ok154 : TIok Try.prog 154 ⟨.sc, 1, 8, [(.d (.sc .nilFunc))]⟩ := TIok.mk' (by kernel_rfl) (by kernel_rfl) rfl ⟨_, Try.underlying154, trivial⟩
theorem ok156 : TIok Try.prog 156 ⟨.sc, 1, 8, [(.d (.sc .nilFunc))]⟩ := TIok.mk' (by kernel_rfl) (by kernel_rfl) rfl ⟨_, Try.underlying156, trivial⟩
theorem ok157 : TIok Try.prog 157 ⟨.sc, 1, 8, [(.d (.sc .nilFunc))]⟩ := TIok.mk' (by kernel_rfl) (by kernel_rfl) rfl ⟨_, Try.underlying157, trivial⟩
theorem ok158 : TIok Try.prog 158 ⟨.sc, 1, 8, [(.d (.sc .nilFunc))]⟩ := TIok.mk' (by kernel_rfl) (by kernel_rfl) rfl ⟨_, Try.underlying158, trivial⟩
theorem ok159 : TIok Try.prog 159 ⟨.sc, 1, 8, [(.d (.sc .nilFunc))]⟩ := TIok.mk' (by kernel_rfl) (by kernel_rfl) rfl ⟨_, Try.underlying159, trivial⟩
theorem ok160 : TIok Try.prog 160 ⟨.sc, 1, 8, [(.d (.sc .nilFunc))]⟩ := TIok.mk' (by kernel_rfl) (by kernel_rfl) rfl ⟨_, Try.underlying160, trivial⟩
theorem ok161 : TIok Try.prog 161 ⟨.sc, 1, 8, [(.d (.sc .nilFunc))]⟩ := TIok.mk' (by kernel_rfl) (by kernel_rfl) rfl ⟨_, Try.underlying161, trivial⟩
theorem ok162 : TIok Try.prog 162 ⟨.sc, 1, 8, [(.d (.sc .nilFunc))]⟩ := TIok.mk' (by kernel_rfl) (by kernel_rfl) rfl ⟨_, Try.underlying162, trivial⟩
theorem ok163 : TIok Try.prog 163 ⟨(.ar 2 3), 2, 16, [(.d (.sc (.int .i64 0))), (.d (.sc (.int .i64 0)))]⟩ := TIok.mk' (by kernel_rfl) (by kernel_rfl) rfl Try.underlying163
theorem ok164 : TIok Try.prog 164 ⟨(.mp 39 3), 1, 8, [(.d (.sc (.map none)))]⟩ := TIok.mk' (by kernel_rfl) (by kernel_rfl) rfl ⟨Try.underlying164, ⟨_, Try.underlying39⟩, fun w => by kernel_rfl⟩
theorem ok165 : TIok Try.prog 165 ⟨(.ar 2 39), 4, 32, [(.d (.sc (.int .i64 0))), (.d (.sc (.int .i64 0))), (.d (.sc (.int .i64 0))), (.d (.sc (.int .i64 0)))]⟩ := TIok.mk' (by kernel_rfl) (by kernel_rfl) rfl Try.underlying165
theorem ok166 : TIok Try.prog 166 ⟨.sc, 1, 8, [(.d (.sc .nilFunc))]⟩ := TIok.mk' (by kernel_rfl) (by kernel_rfl) rfl ⟨_, Try.underlying166, trivial⟩
theorem ok167 : TIok Try.prog 167 ⟨.sc, 1, 8, [(.d (.sc .nilFunc))]⟩ := TIok.mk' (by kernel_rfl) (by kernel_rfl) rfl ⟨_, Try.underlying167, trivial⟩
theorem ok168 : TIok Try.prog 168 ⟨.sc, 1, 8, [(.d (.sc .nilFunc))]⟩ := TIok.mk' (by kernel_rfl) (by kernel_rfl) rfl ⟨_, Try.underlying168, trivial⟩
theorem ok169 : TIok Try.prog 169 ⟨(.sl 4), 1, 24, [(.nil 4)]⟩ := TIok.mk' (by kernel_rfl) (by kernel_rfl) rfl Try.underlying169
theorem ok170 : TIok Try.prog 170 ⟨.sc, 1, 8, [(.d (.sc .nilFunc))]⟩ := TIok.mk' (by kernel_rfl) (by kernel_rfl) rfl ⟨_, Try.underlying170, trivial⟩
theorem ok171 : TIok Try.prog 171 ⟨.sc, 1, 8, [(.d (.sc .nilFunc))]⟩ := TIok.mk' (by kernel_rfl) (by kernel_rfl) rfl ⟨_, Try.underlying171, trivial⟩
theorem ok172 : TIok Try.prog 172 ⟨.sc, 1, 8, [(.d (.sc .nilFunc))]⟩ := TIok.mk' (by kernel_rfl) (by kernel_rfl) rfl ⟨_, Try.underlying172, trivial⟩
theorem ok173 : TIok Try.prog 173 ⟨.sc, 1, 8, [(.d (.sc .nilFunc))]⟩ := TIok.mk' (by kernel_rfl) (by kernel_rfl) rfl ⟨_, Try.underlying173, trivial⟩
theorem ok174 : TIok Try.prog 174 ⟨.sc, 1, 8, [(.d (.sc .nilFunc))]⟩ := TIok.mk' (by kernel_rfl) (by kernel_rfl) rfl ⟨_, Try.underlying174, trivial⟩
theorem ok175 : TIok Try.prog 175 ⟨.sc, 1, 8, [(.d (.sc .nilFunc))]⟩ := TIok.mk' (by kernel_rfl) (by kernel_rfl) rfl ⟨_, Try.underlying175, trivial⟩
theorem ok176 : TIok Try.prog 176 ⟨(.int .u64), 1, 8, [(.d (.sc (.int .u64 0)))]⟩ := TIok.mk' (by kernel_rfl) (by kernel_rfl) rfl Try.underlying176
theorem ok177 : TIok Try.prog 177 ⟨.sc, 1, 8, [(.d (.sc .nilFunc))]⟩ := TIok.mk' (by kernel_rfl) (by kernel_rfl) rfl ⟨_, Try.underlying177, trivial⟩
theorem ok178 : TIok Try.prog 178 ⟨.sc, 1, 8, [(.d (.sc .nilFunc))]⟩ := TIok.mk' (by kernel_rfl) (by kernel_rfl) rfl ⟨_, Try.underlying178, trivial⟩
theorem ok179 : TIok Try.prog 179 ⟨.sc, 1, 8, [(.d (.sc .nilFunc))]⟩ := TIok.mk' (by kernel_rfl) (by kernel_rfl) rfl ⟨_, Try.underlying179, trivial⟩
theorem ok180 : TIok Try.prog 180 ⟨.sc, 1, 8, [(.d (.sc .nilFunc))]⟩ := TIok.mk' (by kernel_rfl) (by kernel_rfl) rfl ⟨_, Try.underlying180, trivial⟩
theorem ok181 : TIok Try.prog 181 ⟨.sc, 1, 8, [(.d (.sc .nilFunc))]⟩ := TIok.mk' (by kernel_rfl) (by kernel_rfl) rfl ⟨_, Try.underlying181, trivial⟩
theorem ok182 : TIok Try.prog 182 ⟨.sc, 1, 8, [(.d (.sc .nilFunc))]⟩ := TIok.mk' (by kernel_rfl) (by kernel_rfl) rfl ⟨_, Try.underlying182, trivial⟩
theorem ok183 : TIok Try.prog 183 ⟨(.int .i64), 1, 8, [(.d (.sc (.int .i64 0)))]⟩ := TIok.mk' (by kernel_rfl) (by kernel_rfl) rfl Try.underlying183
theorem ok185 : TIok Try.prog 185 ⟨.sc, 1, 8, [(.d (.sc .nilFunc))]⟩ := TIok.mk' (by kernel_rfl) (by kernel_rfl) rfl ⟨_, Try.underlying185, trivial⟩
theorem ok186 : TIok Try.prog 186 ⟨.sc, 1, 8, [(.d (.sc .nilFunc))]⟩ := TIok.mk' (by kernel_rfl) (by kernel_rfl) rfl ⟨_, Try.underlying186, trivial⟩
theorem ok187 : TIok Try.prog 187 ⟨.sc, 1, 8, [(.d (.sc .nilFunc))]⟩ := TIok.mk' (by kernel_rfl) (by kernel_rfl) rfl ⟨_, Try.underlying187, trivial⟩
theorem ok188 : TIok Try.prog 188 ⟨.sc, 1, 8, [(.d (.sc .nilFunc))]⟩ := TIok.mk' (by kernel_rfl) (by kernel_rfl) rfl ⟨_, Try.underlying188, trivial⟩
theorem ok190 : TIok Try.prog 190 ⟨.sc, 1, 8, [(.d (.sc .nilFunc))]⟩ := TIok.mk' (by kernel_rfl) (by kernel_rfl) rfl ⟨_, Try.underlying190, trivial⟩
theorem ok191 : TIok Try.prog 191 ⟨.sc, 1, 8, [(.d (.sc .nilFunc))]⟩ := TIok.mk' (by kernel_rfl) (by kernel_rfl) rfl ⟨_, Try.underlying191, trivial⟩
theorem ok192 : TIok Try.prog 192 ⟨(.int .u32), 1, 4, [(.d (.sc (.int .u32 0)))]⟩ := TIok.mk' (by kernel_rfl) (by kernel_rfl) rfl Try.underlying192
theorem ok193 : TIok Try.prog 193 ⟨.sc, 1, 8, [(.d (.sc .nilFunc))]⟩ := TIok.mk' (by kernel_rfl) (by kernel_rfl) rfl ⟨_, Try.underlying193, trivial⟩
theorem ok194 : TIok Try.prog 194 ⟨(.int .u64), 1, 8, [(.d (.sc (.int .u64 0)))]⟩ := TIok.mk' (by kernel_rfl) (by kernel_rfl) rfl Try.underlying194
theorem ok195 : TIok Try.prog 195 ⟨(.int .u64), 1, 8, [(.d (.sc (.int .u64 0)))]⟩ := TIok.mk' (by kernel_rfl) (by kernel_rfl) rfl Try.underlying195
theorem ok196 : TIok Try.prog 196 ⟨.sc, 1, 8, [(.d (.sc .nilFunc))]⟩ := TIok.mk' (by kernel_rfl) (by kernel_rfl) rfl ⟨_, Try.underlying196, trivial⟩
theorem ok197 : TIok Try.prog 197 ⟨.sc, 1, 8, [(.d (.sc .nilFunc))]⟩ := TIok.mk' (by kernel_rfl) (by kernel_rfl) rfl ⟨_, Try.underlying197, trivial⟩
theorem ok198 : TIok Try.prog 198 ⟨.sc, 1, 8, [(.d (.sc .nilFunc))]⟩ := TIok.mk' (by kernel_rfl) (by kernel_rfl) rfl ⟨_, Try.underlying198, trivial⟩
theorem ok199 : TIok Try.prog 199 ⟨(.pt 3), 1, 8, [(.d (.sc (.pointer none)))]⟩ := TIok.mk' (by kernel_rfl) (by kernel_rfl) rfl Try.underlying199
theorem ok200 : TIok Try.prog 200 ⟨.sc, 1, 8, [(.d (.sc .nilFunc))]⟩ := TIok.mk' (by kernel_rfl) (by kernel_rfl) rfl ⟨_, Try.underlying200, trivial⟩
theorem ok201 : TIok Try.prog 201 ⟨(.pt 195), 1, 8, [(.d (.sc (.pointer none)))]⟩ := TIok.mk' (by kernel_rfl) (by kernel_rfl) rfl Try.underlying201
theorem ok202 : TIok Try.prog 202 ⟨.sc, 1, 8, [(.d (.sc .nilFunc))]⟩ := TIok.mk' (by kernel_rfl) (by kernel_rfl) rfl ⟨_, Try.underlying202, trivial⟩
theorem ok203 : TIok Try.prog 203 ⟨.sc, 1, 8, [(.d (.sc .nilFunc))]⟩ := TIok.mk' (by kernel_rfl) (by kernel_rfl) rfl ⟨_, Try.underlying203, trivial⟩
theorem ok209 : TIok Try.prog 209 ⟨.sc, 1, 8, [(.d (.sc .nilFunc))]⟩ := TIok.mk' (by kernel_rfl) (by kernel_rfl) rfl ⟨_, Try.underlying209, trivial⟩
theorem ok213 : TIok Try.prog 213 ⟨(.pt 5), 1, 8, [(.d (.sc (.pointer none)))]⟩ := TIok.mk' (by kernel_rfl) (by kernel_rfl) rfl Try.underlying213
theorem eq39 : EqOk Try.prog 39 2 := EqOk.two (by kernel_rfl) (by kernel_rfl) Try.underlying39 (by decide) rfl Try.underlying3 (by decide) rfl Try.underlying3
theorem eq53 : EqOk Try.prog 53 2 := EqOk.two (by kernel_rfl) (by kernel_rfl) Try.underlying53 (by decide) rfl Try.underlying3 (by decide) rfl Try.underlying3
theorem eq71 : EqOk Try.prog 71 3 := EqOk.three (by kernel_rfl) (by kernel_rfl) Try.underlying71 (by decide) rfl Try.underlying3 (by decide) rfl Try.underlying3 (by decide) rfl Try.underlying3
theorem okT : ∀ t ti, T t = some ti → TIok Try.prog t ti := by
 intro t ti h
 unfold T at h
 split at h
 ·cases h; exact ok1
 ·cases h; exact ok2
 ·cases h; exact ok3
 ·cases h; exact ok4
 ·cases h; exact ok5
 ·cases h; exact ok9
 ·cases h; exact ok12
 ·cases h; exact ok21
 ·cases h; exact ok22
 ·cases h; exact ok24
 ·cases h; exact ok25
 ·cases h; exact ok26
 ·cases h; exact ok28
 ·cases h; exact ok29
 ·cases h; exact ok30
 ·cases h; exact ok31
 ·cases h; exact ok32
 ·cases h; exact ok34
 ·cases h; exact ok35
 ·cases h; exact ok37
 ·cases h; exact ok39
 ·cases h; exact ok40
 ·cases h; exact ok41
 ·cases h; exact ok43
 ·cases h; exact ok44
 ·cases h; exact ok46
 ·cases h; exact ok48
 ·cases h; exact ok49
 ·cases h; exact ok50
 ·cases h; exact ok51
 ·cases h; exact ok53
 ·cases h; exact ok54
 ·cases h; exact ok55
 ·cases h; exact ok57
 ·cases h; exact ok58
 ·cases h; exact ok59
 ·cases h; exact ok61
 ·cases h; exact ok63
 ·cases h; exact ok64
 ·cases h; exact ok66
 ·cases h; exact ok67
 ·cases h; exact ok69
 ·cases h; exact ok71
 ·cases h; exact ok72
 ·cases h; exact ok73
 ·cases h; exact ok75
 ·cases h; exact ok76
 ·cases h; exact ok77
 ·cases h; exact ok79
 ·cases h; exact ok80
 ·cases h; exact ok81
 ·cases h; exact ok82
 ·cases h; exact ok83
 ·cases h; exact ok84
 ·cases h; exact ok85
 ·cases h; exact ok86
 ·cases h; exact ok87
 ·cases h; exact ok89
 ·cases h; exact ok90
 ·cases h; exact ok92
 ·cases h; exact ok93
 ·cases h; exact ok94
 ·cases h; exact ok95
 ·cases h; exact ok96
 ·cases h; exact ok98
 ·cases h; exact ok99
 ·cases h; exact ok100
 ·cases h; exact ok101
 ·cases h; exact ok102
 ·cases h; exact ok103
 ·cases h; exact ok104
 ·cases h; exact ok105
 ·cases h; exact ok107
 ·cases h; exact ok108
 ·cases h; exact ok109
 ·cases h; exact ok110
 ·cases h; exact ok111
 ·cases h; exact ok113
 ·cases h; exact ok115
 ·cases h; exact ok116
 ·cases h; exact ok117
 ·cases h; exact ok118
 ·cases h; exact ok119
 ·cases h; exact ok120
 ·cases h; exact ok121
 ·cases h; exact ok122
 ·cases h; exact ok123
 ·cases h; exact ok124
 ·cases h; exact ok125
 ·cases h; exact ok126
 ·cases h; exact ok127
 ·cases h; exact ok129
 ·cases h; exact ok130
 ·cases h; exact ok131
 ·cases h; exact ok132
 ·cases h; exact ok133
 ·cases h; exact ok134
 ·cases h; exact ok135
 ·cases h; exact ok136
 ·cases h; exact ok137
 ·cases h; exact ok139
 ·cases h; exact ok141
 ·cases h; exact ok142
 ·cases h; exact ok143
 ·cases h; exact ok144
 ·cases h; exact ok145
 ·cases h; exact ok146
 ·cases h; exact ok147
 ·cases h; exact ok148
 ·cases h; exact ok149
 ·cases h; exact ok150
 ·cases h; exact ok151
 ·cases h; exact ok152
 ·cases h; exact ok153
 ·cases h; exact ok154
 ·cases h; exact ok156
 ·cases h; exact ok157
 ·cases h; exact ok158
 ·cases h; exact ok159
 ·cases h; exact ok160
 ·cases h; exact ok161
 ·cases h; exact ok162
 ·cases h; exact ok163
 ·cases h; exact ok164
 ·cases h; exact ok165
 ·cases h; exact ok166
 ·cases h; exact ok167
 ·cases h; exact ok168
 ·cases h; exact ok169
 ·cases h; exact ok170
 ·cases h; exact ok171
 ·cases h; exact ok172
 ·cases h; exact ok173
 ·cases h; exact ok174
 ·cases h; exact ok175
 ·cases h; exact ok176
 ·cases h; exact ok177
 ·cases h; exact ok178
 ·cases h; exact ok179
 ·cases h; exact ok180
 ·cases h; exact ok181
 ·cases h; exact ok182
 ·cases h; exact ok183
 ·cases h; exact ok185
 ·cases h; exact ok186
 ·cases h; exact ok187
 ·cases h; exact ok188
 ·cases h; exact ok190
 ·cases h; exact ok191
 ·cases h; exact ok192
 ·cases h; exact ok193
 ·cases h; exact ok194
 ·cases h; exact ok195
 ·cases h; exact ok196
 ·cases h; exact ok197
 ·cases h; exact ok198
 ·cases h; exact ok199
 ·cases h; exact ok200
 ·cases h; exact ok201
 ·cases h; exact ok202
 ·cases h; exact ok203
 ·cases h; exact ok209
 ·cases h; exact ok213
 ·cases h
theorem okE : ∀ t n, eqn t = some n → EqOk Try.prog t n := by
 intro t n h
 unfold eqn at h
 split at h
 ·cases h; exact eq39
 ·cases h; exact eq53
 ·cases h; exact eq71
 ·cases h
def cfg (own nst : List Nat) : Cfg := ⟨T, own, eqn, nst⟩
theorem cfg_T (own nst : List Nat) : (cfg own nst).T = T := rfl
theorem cfg_own (own nst : List Nat) : (cfg own nst).own = own := rfl
theorem cfg_nst (own nst : List Nat) : (cfg own nst).nst = nst := rfl
theorem cfg_eqn (own nst : List Nat) : (cfg own nst).eqn = eqn := rfl
theorem cfg_ok (own nst : List Nat) : (cfg own nst).Ok Try.prog := ⟨okT, okE⟩
theorem mixed : Try.prog.follows .mixedOrders = true := by kernel_rfl
attribute [go_sem] T1 T2 T3 T4 T5 T9 T12 T21 T22 T24 T25 T26 T28 T29 T30 T31 T32 T34 T35 T37 T39 T40 T41 T43 T44 T46 T48 T49 T50 T51 T53 T54 T55 T57 T58 T59 T61 T63 T64 T66 T67 T69 T71 T72 T73 T75 T76 T77 T79 T80 T81 T82 T83 T84 T85 T86 T87 T89 T90 T92 T93 T94 T95 T96 T98 T99 T100 T101 T102 T103 T104 T105 T107 T108 T109 T110 T111 T113 T115 T116 T117 T118 T119 T120 T121 T122 T123 T124 T125 T126 T127 T129 T130 T131 T132 T133 T134 T135 T136 T137 T139 T141 T142 T143 T144 T145 T146 T147 T148 T149 T150 T151 T152 T153 T154 T156 T157 T158 T159 T160 T161 T162 T163 T164 T165 T166 T167 T168 T169 T170 T171 T172 T173 T174 T175 T176 T177 T178 T179 T180 T181 T182 T183 T185 T186 T187 T188 T190 T191 T192 T193 T194 T195 T196 T197 T198 T199 T200 T201 T202 T203 T209 T213 eqn39 eqn53 eqn71 cfg_T cfg_own cfg_nst cfg_eqn
end Go.Ab.T
end
section
namespace Go.Ab
open Go.Proofs
attribute [local congr] ACall.congr
set_option maxRecDepth 10000
def eN (n : Int) : AV := .d (.sc (.int .i64 n))
def eB (b : Bool) : AV := .d (.sc (.bool b))
abbrev Edge := Int × Int
structure Gr where
 n : Int
 es : List Edge
def rE (e : Edge) : List D := [.sc (.int .i64 e.1), .sc (.int .i64 e.2)]
def rI (n : Int) : List D := [.sc (.int .i64 n)]
def eE (e : Edge) : AV := .agg [.d (.sc (.int .i64 e.1)), .d (.sc (.int .i64 e.2))]
def sE (es : List Edge) : D := .sl 2 (es.map rE)
def sI (l : List Int) : D := .sl 1 (l.map rI)
def eG (g : Gr) : AV := .agg [eN g.n, .d (sE g.es)]
attribute [go_sem] eN eB eE sE sI eG Args AVrs
theorem getD_rE (ps : List Edge) (i : Nat) : (ps.map rE).getD i [.sc (.int .i64 0), .sc (.int .i64 0)] = [.sc (.int .i64 (ps.getD i (0, 0)).1), .sc (.int .i64 (ps.getD i (0, 0)).2)] := by
 simp only [List.getD_eq_getElem?_getD, List.getElem?_map]
 cases ps[i]? <;> rfl
theorem getD_rI (ps : List Int) (i : Nat) : (ps.map rI).getD i [.sc (.int .i64 0)] = [.sc (.int .i64 (ps.getD i 0))] := by
 simp only [List.getD_eq_getElem?_getD, List.getElem?_map]
 cases ps[i]? <;> rfl
theorem set_rI (l : List Int) (k : Nat) (v : Int) : (l.map rI).set k [.sc (.int .i64 v)] = (l.set k v).map rI := by
 rw [List.map_set]; rfl
attribute [go_sem] getD_rE getD_rI Int.toNat_natCast List.length_set
def I64 (n : Int) : Prop := -9223372036854775808 ≤ n ∧ n ≤ 9223372036854775807
def Len (n : Nat) : Prop := n ≤ 9223372036854775807
end Go.Ab
end
section
namespace Go.Ab
open Go.Proofs
attribute [local congr] ACall.congr
set_option maxRecDepth 10000
def findI {α : Type} (g : α → Bool) (ps : List α) : Int := match ps.findIdx? g with | some i => i | none => -1
theorem findI_none {α : Type} {g : α → Bool} {ps : List α} (d : α) (h : ∀ j, j < ps.length → g (ps.getD j d) = false) : findI g ps = -1 := by
 have : ps.findIdx? g = none := by
  rw [List.findIdx?_eq_none_iff]
  intro x hx
  obtain ⟨j, hj, rfl⟩ := List.getElem_of_mem hx
  simpa [List.getD_eq_getElem?_getD, List.getElem?_eq_getElem hj] using h j hj
 simp [findI, this]
theorem findI_at {α : Type} {g : α → Bool} {ps : List α} {d : α} {k : Nat} (hk : k < ps.length) (h : ∀ j, j < k → g (ps.getD j d) = false) (hg : g (ps.getD k d) = true) : findI g ps = k := by
 have : ps.findIdx? g = some k := by
  rw [List.findIdx?_eq_some_iff_getElem]
  refine ⟨hk, by simpa [List.getD_eq_getElem?_getD, List.getElem?_eq_getElem hk] using hg, fun j hj => ?_⟩
  have := h j hj
  simpa [List.getD_eq_getElem?_getD, List.getElem?_eq_getElem (Nat.lt_trans hj hk)] using this
 simp [findI, this]
theorem findI_any {α : Type} (g : α → Bool) (ps : List α) : decide (0 ≤ findI g ps) = ps.any g := by
 cases h : ps.findIdx? g with
 | none =>
  have : findI g ps = -1 := by simp [findI, h]
  rw [this]
  rw [List.findIdx?_eq_none_iff] at h
  symm
  simpa using h
 | some i =>
  have : findI g ps = i := by simp [findI, h]
  rw [this]
  obtain ⟨hi, hg, _⟩ := List.findIdx?_eq_some_iff_getElem.1 h
  have : ps.any g = true := List.any_eq_true.2 ⟨_, List.getElem_mem hi, hg⟩
  rw [this]; simp
theorem findI_range {α : Type} (g : α → Bool) (ps : List α) : findI g ps = -1 ∨ (0 ≤ findI g ps ∧ findI g ps < ps.length) := by
 cases h : ps.findIdx? g with
 | none => exact .inl (by simp [findI, h])
 | some i =>
  obtain ⟨hi, hg, _⟩ := List.findIdx?_eq_some_iff_getElem.1 h
  exact .inr (by simp [findI, h]; omega)
theorem leR_self (rn : List (Nat × Nat)) (h0 : rn = []) {m : List (Nat × AObj)} : ∀ {r : List (Nat × AObj)}, (∀ p ∈ r, look m p.1 = some p.2) → leR m rn r
 | [], _ => trivial
 | p :: r, h => by
  subst h0
  have h1 := h p List.mem_cons_self
  refine ⟨?_, leR_self [] rfl fun q hq => h q (List.mem_cons_of_mem _ hq)⟩
  have e : renO [] p.2 = p.2 := rfl
  show look m p.1 = some (renO [] p.2)
  rw [e]; exact h1
theorem leR_robs {m : List (Nat × AObj)} (h : Robs m) : leR m [] m := leR_self [] rfl fun _ hp => mem_look h.nd hp
theorem indexFuncE_spec {m : List (Nat × AObj)} (hR : Robs m) (f : Nat) (caps : List AV) (g : Edge → Bool) (hf : ∀ p, Spec Try.prog f (Args (eE p :: caps)) m (eB (g p)) m) (ps : List Edge) (hl : ps.length ≤ 9223372036854775807) :
  Spec Try.prog 71 (Args [.d (sE ps), .fn f [] caps]) m (eN (findI g ps)) m := by
 (refine Spec.intro (C := T.cfg [] []) (rs := [.t 4]) (T.cfg_ok _ _) Try.func71 rfl rfl Try.ntmps71 Try.results71 (fun p hp => ⟨(Robs.low hR p hp).1, Robs.nest hR p hp⟩) (fun p hp => ⟨(Robs.low hR p hp).2, Robs.nest hR p hp⟩) (by kernel_rfl) ?_; intro X hX hP hC hXn hXm vals hA; refine ⟨_, by simp, hA, ?_⟩; have hmix : X.P.follows .mixedOrders = true := (by rw [hP]; exact T.mixed); clear hXn hXm)
 repeat' (first | fail | ((first | ((with_reducible (first | apply oA | apply oB)); exact rfl; intro K hK) | (refine hK _ ?_; clear hK K) | ((with_reducible (first | apply oG | apply oH)); iterate 3 exact rfl) | ((with_reducible apply oI); (iterate 2 exact rfl); intro K hK) | (with_reducible (first | apply wI | apply wJ | apply wK))); try simp only [go_sem, simprocAttr]) | fail | (with_reducible (first | apply oC | apply oJ | exact oK | apply wA | apply wB | apply wC hX hC | apply wD hX hC | apply wE hX hC hmix | apply wF hX hC hmix | apply wG | apply wH | apply And.intro)) | ((with_reducible refine oD ?_ ?_); first | fail | kernel_rfl) | ((with_reducible (first | apply oE | apply oF)); (iterate 3 exact rfl); all_goals (intro h; first | (exact absurd h (by decide)) | ((try simp only [go_sem, simprocAttr] at h); (try with_reducible intro K hK); simp only [go_sem, simprocAttr]))) | ((first | ((with_reducible apply wL); exact rfl) | ((with_reducible apply wM); exact rfl)); all_goals (try ((with_reducible intro h); first | (exact absurd h (by decide)) | (try simp only [go_sem, simprocAttr] at h)))) | omega | ((first | (first | (refine acall_same hX hC hP hR (hf _) rfl rfl rfl ?_ ?_ rfl rfl ?_; (focus (simp only [go_sem, simprocAttr]; done)); (focus (first | (intro p hp; exact mem_look (Robs.nd hR) hp) | (simp [go_sem, simprocAttr]; done)))) | (refine acall_same hX hC hP hR (hf _) rfl rfl rfl ?_ ?_ ?_ rfl ?_; (focus (simp only [go_sem, simprocAttr]; done)); (focus (first | (intro p hp; exact mem_look (Robs.nd hR) hp) | (simp [go_sem, simprocAttr]; done))); (focus (simp [go_sem, simprocAttr]; done))))); try simp only [go_sem, simprocAttr]) | (intro h))
 refine awp_loopP (fun k : Nat => k ≤ ps.length ∧ ∀ j, j < k → g (ps.getD j (0, 0)) = false) (fun k => ⟨[(0, .d (sE ps)), (1, .fn f [] caps), (7, eN ps.length), (8, eN k)], m⟩) (fun k => ps.length - k) 0 (by simp) ?_ ?_
 ·(refine ⟨leT_spec ?_, fun _ _ h => h⟩; simp [go_sem, simprocAttr])
 rintro k ⟨hk, hg⟩
 repeat' (first | fail | ((first | ((with_reducible (first | apply oA | apply oB)); exact rfl; intro K hK) | (refine hK _ ?_; clear hK K) | ((with_reducible (first | apply oG | apply oH)); iterate 3 exact rfl) | ((with_reducible apply oI); (iterate 2 exact rfl); intro K hK) | (with_reducible (first | apply wI | apply wJ | apply wK))); try simp only [go_sem, simprocAttr]) | fail | (with_reducible (first | apply oC | apply oJ | exact oK | apply wA | apply wB | apply wC hX hC | apply wD hX hC | apply wE hX hC hmix | apply wF hX hC hmix | apply wG | apply wH | apply And.intro)) | ((with_reducible refine oD ?_ ?_); first | fail | kernel_rfl) | ((with_reducible (first | apply oE | apply oF)); (iterate 3 exact rfl); all_goals (intro h; first | (exact absurd h (by decide)) | ((try simp only [go_sem, simprocAttr] at h); (try with_reducible intro K hK); simp only [go_sem, simprocAttr]))) | ((first | ((with_reducible apply wL); exact rfl) | ((with_reducible apply wM); exact rfl)); all_goals (try ((with_reducible intro h); first | (exact absurd h (by decide)) | (try simp only [go_sem, simprocAttr] at h)))) | omega | ((first | (first | (refine acall_same hX hC hP hR (hf _) rfl rfl rfl ?_ ?_ rfl rfl ?_; (focus (simp only [go_sem, simprocAttr]; done)); (focus (first | (intro p hp; exact mem_look (Robs.nd hR) hp) | (simp [go_sem, simprocAttr]; done)))) | (refine acall_same hX hC hP hR (hf _) rfl rfl rfl ?_ ?_ ?_ rfl ?_; (focus (simp only [go_sem, simprocAttr]; done)); (focus (first | (intro p hp; exact mem_look (Robs.nd hR) hp) | (simp [go_sem, simprocAttr]; done))); (focus (simp [go_sem, simprocAttr]; done))))); try simp only [go_sem, simprocAttr]) | (intro h))
 ·exact (findI_at (by omega) hg h).symm
 ·exact leR_robs hR
 ·refine ⟨k + 1, ⟨by omega, fun j hj => ?_⟩, ?_, by omega⟩
  ·by_cases hjk : j = k
   ·subst hjk; exact h
   ·exact hg j (by omega)
  ·(refine ⟨leT_spec ?_, fun _ _ h => h⟩; simp [go_sem, simprocAttr])
 ·exact (findI_none (0, 0) fun j hj => hg j (by omega)).symm
 ·exact leR_robs hR
theorem indexFuncI_spec {m : List (Nat × AObj)} (hR : Robs m) (f : Nat) (caps : List AV) (g : Int → Bool) (hf : ∀ p, Spec Try.prog f (Args (eN p :: caps)) m (eB (g p)) m) (ps : List Int) (hl : ps.length ≤ 9223372036854775807) :
  Spec Try.prog 115 (Args [.d (sI ps), .fn f [] caps]) m (eN (findI g ps)) m := by
 (refine Spec.intro (C := T.cfg [] []) (rs := [.t 4]) (T.cfg_ok _ _) Try.func115 rfl rfl Try.ntmps115 Try.results115 (fun p hp => ⟨(Robs.low hR p hp).1, Robs.nest hR p hp⟩) (fun p hp => ⟨(Robs.low hR p hp).2, Robs.nest hR p hp⟩) (by kernel_rfl) ?_; intro X hX hP hC hXn hXm vals hA; refine ⟨_, by simp, hA, ?_⟩; have hmix : X.P.follows .mixedOrders = true := (by rw [hP]; exact T.mixed); clear hXn hXm)
 repeat' (first | fail | ((first | ((with_reducible (first | apply oA | apply oB)); exact rfl; intro K hK) | (refine hK _ ?_; clear hK K) | ((with_reducible (first | apply oG | apply oH)); iterate 3 exact rfl) | ((with_reducible apply oI); (iterate 2 exact rfl); intro K hK) | (with_reducible (first | apply wI | apply wJ | apply wK))); try simp only [go_sem, simprocAttr]) | fail | (with_reducible (first | apply oC | apply oJ | exact oK | apply wA | apply wB | apply wC hX hC | apply wD hX hC | apply wE hX hC hmix | apply wF hX hC hmix | apply wG | apply wH | apply And.intro)) | ((with_reducible refine oD ?_ ?_); first | fail | kernel_rfl) | ((with_reducible (first | apply oE | apply oF)); (iterate 3 exact rfl); all_goals (intro h; first | (exact absurd h (by decide)) | ((try simp only [go_sem, simprocAttr] at h); (try with_reducible intro K hK); simp only [go_sem, simprocAttr]))) | ((first | ((with_reducible apply wL); exact rfl) | ((with_reducible apply wM); exact rfl)); all_goals (try ((with_reducible intro h); first | (exact absurd h (by decide)) | (try simp only [go_sem, simprocAttr] at h)))) | omega | ((first | (first | (refine acall_same hX hC hP hR (hf _) rfl rfl rfl ?_ ?_ rfl rfl ?_; (focus (simp only [go_sem, simprocAttr]; done)); (focus (first | (intro p hp; exact mem_look (Robs.nd hR) hp) | (simp [go_sem, simprocAttr]; done)))) | (refine acall_same hX hC hP hR (hf _) rfl rfl rfl ?_ ?_ ?_ rfl ?_; (focus (simp only [go_sem, simprocAttr]; done)); (focus (first | (intro p hp; exact mem_look (Robs.nd hR) hp) | (simp [go_sem, simprocAttr]; done))); (focus (simp [go_sem, simprocAttr]; done))))); try simp only [go_sem, simprocAttr]) | (intro h))
 refine awp_loopP (fun k : Nat => k ≤ ps.length ∧ ∀ j, j < k → g (ps.getD j 0) = false) (fun k => ⟨[(0, .d (sI ps)), (1, .fn f [] caps), (7, eN ps.length), (8, eN k)], m⟩) (fun k => ps.length - k) 0 (by simp) ?_ ?_
 ·(refine ⟨leT_spec ?_, fun _ _ h => h⟩; simp [go_sem, simprocAttr])
 rintro k ⟨hk, hg⟩
 repeat' (first | fail | ((first | ((with_reducible (first | apply oA | apply oB)); exact rfl; intro K hK) | (refine hK _ ?_; clear hK K) | ((with_reducible (first | apply oG | apply oH)); iterate 3 exact rfl) | ((with_reducible apply oI); (iterate 2 exact rfl); intro K hK) | (with_reducible (first | apply wI | apply wJ | apply wK))); try simp only [go_sem, simprocAttr]) | fail | (with_reducible (first | apply oC | apply oJ | exact oK | apply wA | apply wB | apply wC hX hC | apply wD hX hC | apply wE hX hC hmix | apply wF hX hC hmix | apply wG | apply wH | apply And.intro)) | ((with_reducible refine oD ?_ ?_); first | fail | kernel_rfl) | ((with_reducible (first | apply oE | apply oF)); (iterate 3 exact rfl); all_goals (intro h; first | (exact absurd h (by decide)) | ((try simp only [go_sem, simprocAttr] at h); (try with_reducible intro K hK); simp only [go_sem, simprocAttr]))) | ((first | ((with_reducible apply wL); exact rfl) | ((with_reducible apply wM); exact rfl)); all_goals (try ((with_reducible intro h); first | (exact absurd h (by decide)) | (try simp only [go_sem, simprocAttr] at h)))) | omega | ((first | (first | (refine acall_same hX hC hP hR (hf _) rfl rfl rfl ?_ ?_ rfl rfl ?_; (focus (simp only [go_sem, simprocAttr]; done)); (focus (first | (intro p hp; exact mem_look (Robs.nd hR) hp) | (simp [go_sem, simprocAttr]; done)))) | (refine acall_same hX hC hP hR (hf _) rfl rfl rfl ?_ ?_ ?_ rfl ?_; (focus (simp only [go_sem, simprocAttr]; done)); (focus (first | (intro p hp; exact mem_look (Robs.nd hR) hp) | (simp [go_sem, simprocAttr]; done))); (focus (simp [go_sem, simprocAttr]; done))))); try simp only [go_sem, simprocAttr]) | (intro h))
 ·exact (findI_at (by omega) hg h).symm
 ·exact leR_robs hR
 ·refine ⟨k + 1, ⟨by omega, fun j hj => ?_⟩, ?_, by omega⟩
  ·by_cases hjk : j = k
   ·subst hjk; exact h
   ·exact hg j (by omega)
  ·(refine ⟨leT_spec ?_, fun _ _ h => h⟩; simp [go_sem, simprocAttr])
 ·exact (findI_none 0 fun j hj => hg j (by omega)).symm
 ·exact leR_robs hR
theorem containsFuncE_spec {m : List (Nat × AObj)} (hR : Robs m) (f : Nat) (caps : List AV) (g : Edge → Bool) (hf : ∀ p, Spec Try.prog f (Args (eE p :: caps)) m (eB (g p)) m) (ps : List Edge) (hl : ps.length ≤ 9223372036854775807) :
  Spec Try.prog 111 (Args [.d (sE ps), .fn f [] caps]) m (eB (ps.any g)) m := by
 (refine Spec.intro (C := T.cfg [] []) (rs := [.t 4]) (T.cfg_ok _ _) Try.func111 rfl rfl Try.ntmps111 Try.results111 (fun p hp => ⟨(Robs.low hR p hp).1, Robs.nest hR p hp⟩) (fun p hp => ⟨(Robs.low hR p hp).2, Robs.nest hR p hp⟩) (by kernel_rfl) ?_; intro X hX hP hC hXn hXm vals hA; refine ⟨_, by simp, hA, ?_⟩; have hmix : X.P.follows .mixedOrders = true := (by rw [hP]; exact T.mixed); clear hXn hXm)
 repeat' (first | fail | ((first | ((with_reducible (first | apply oA | apply oB)); exact rfl; intro K hK) | (refine hK _ ?_; clear hK K) | ((with_reducible (first | apply oG | apply oH)); iterate 3 exact rfl) | ((with_reducible apply oI); (iterate 2 exact rfl); intro K hK) | (with_reducible (first | apply wI | apply wJ | apply wK))); try simp only [go_sem, simprocAttr]) | fail | (with_reducible (first | apply oC | apply oJ | exact oK | apply wA | apply wB | apply wC hX hC | apply wD hX hC | apply wE hX hC hmix | apply wF hX hC hmix | apply wG | apply wH | apply And.intro)) | ((with_reducible refine oD ?_ ?_); first | fail | kernel_rfl) | ((with_reducible (first | apply oE | apply oF)); (iterate 3 exact rfl); all_goals (intro h; first | (exact absurd h (by decide)) | ((try simp only [go_sem, simprocAttr] at h); (try with_reducible intro K hK); simp only [go_sem, simprocAttr]))) | ((first | ((with_reducible apply wL); exact rfl) | ((with_reducible apply wM); exact rfl)); all_goals (try ((with_reducible intro h); first | (exact absurd h (by decide)) | (try simp only [go_sem, simprocAttr] at h)))) | omega | ((first | (first | (refine acall_same hX hC hP hR (indexFuncE_spec hR _ _ g hf ps hl) rfl rfl rfl ?_ ?_ rfl rfl ?_; (focus (simp only [go_sem, simprocAttr]; done)); (focus (first | (intro p hp; exact mem_look (Robs.nd hR) hp) | (simp [go_sem, simprocAttr]; done)))) | (refine acall_same hX hC hP hR (indexFuncE_spec hR _ _ g hf ps hl) rfl rfl rfl ?_ ?_ ?_ rfl ?_; (focus (simp only [go_sem, simprocAttr]; done)); (focus (first | (intro p hp; exact mem_look (Robs.nd hR) hp) | (simp [go_sem, simprocAttr]; done))); (focus (simp [go_sem, simprocAttr]; done))))); try simp only [go_sem, simprocAttr]) | (intro h))
 ·exact findI_any g ps
 ·exact leR_robs hR
def outB (g : Gr) (x : Int) : Bool := decide (x < 0) || decide (g.n ≤ x)
def outE (g : Gr) (e : Edge) : Bool := outB g e.1 || outB g e.2
def mayB (g : Gr) : Bool := decide (0 < g.n) && decide (g.n ≤ 64) && decide ((g.es.length : Int) ≤ 128) && !g.es.any (outE g)
def rG (g : Gr) : AObj := .rob [eN g.n, .d (sE g.es)]
theorem may1_spec (g : Gr) (x : Int) : Spec Try.prog 110 (Args [eN x, .ptr 10000 0]) [(10000, rG g)] (eB (outB g x)) [(10000, rG g)] := by
 unfold rG
 (refine Spec.intro (C := T.cfg [] []) (rs := [.t 3]) (T.cfg_ok _ _) Try.func110 rfl rfl Try.ntmps110 Try.results110 (by simp [AObj.isNest]) (by simp [AObj.isNest]) (by kernel_rfl) ?_; intro X hX hP hC hXn hXm vals hA; refine ⟨_, by simp, hA, ?_⟩; have hmix : X.P.follows .mixedOrders = true := (by rw [hP]; exact T.mixed); clear hXn hXm)
 repeat' (first | fail | ((first | ((with_reducible (first | apply oA | apply oB)); exact rfl; intro K hK) | (refine hK _ ?_; clear hK K) | ((with_reducible (first | apply oG | apply oH)); iterate 3 exact rfl) | ((with_reducible apply oI); (iterate 2 exact rfl); intro K hK) | (with_reducible (first | apply wI | apply wJ | apply wK))); try simp only [go_sem, simprocAttr]) | fail | (with_reducible (first | apply oC | apply oJ | exact oK | apply wA | apply wB | apply wC hX hC | apply wD hX hC | apply wE hX hC hmix | apply wF hX hC hmix | apply wG | apply wH | apply And.intro)) | ((with_reducible refine oD ?_ ?_); first | fail | kernel_rfl) | ((with_reducible (first | apply oE | apply oF)); (iterate 3 exact rfl); all_goals (intro h; first | (exact absurd h (by decide)) | ((try simp only [go_sem, simprocAttr] at h); (try with_reducible intro K hK); simp only [go_sem, simprocAttr]))) | ((first | ((with_reducible apply wL); exact rfl) | ((with_reducible apply wM); exact rfl)); all_goals (try ((with_reducible intro h); first | (exact absurd h (by decide)) | (try simp only [go_sem, simprocAttr] at h)))) | omega | ((first | (first | (refine acall_same hX hC hP hR (indexFuncE_spec hR _ _ g hf ps hl) rfl rfl rfl ?_ ?_ rfl rfl ?_; (focus (simp only [go_sem, simprocAttr]; done)); (focus (first | (intro p hp; exact mem_look (Robs.nd hR) hp) | (simp [go_sem, simprocAttr]; done)))) | (refine acall_same hX hC hP hR (indexFuncE_spec hR _ _ g hf ps hl) rfl rfl rfl ?_ ?_ ?_ rfl ?_; (focus (simp only [go_sem, simprocAttr]; done)); (focus (first | (intro p hp; exact mem_look (Robs.nd hR) hp) | (simp [go_sem, simprocAttr]; done))); (focus (simp [go_sem, simprocAttr]; done))))); try simp only [go_sem, simprocAttr]) | (intro h))
 ·simp [outB, *]
 ·simp [outB, *]
theorem robG (g : Gr) : Robs [(10000, rG g)] := ⟨by simp [rG, AObj.ro], by simp [nodupM, look], by simp, by simp [rG, AObj.ids, AV.ids, AV.idss, eN]⟩
def rF : AObj := .rob [.fn 110 [] [.ptr 10000 0]]
attribute [go_sem] rG rF
theorem may2_spec (g : Gr) (e : Edge) : Spec Try.prog 112 (Args [eE e, .ptr 10001 0]) [(10001, rF), (10000, rG g)] (eB (outE g e)) [(10001, rF), (10000, rG g)] := by
 unfold rF rG
 (refine Spec.intro (C := T.cfg [] []) (rs := [.t 3]) (T.cfg_ok _ _) Try.func112 rfl rfl Try.ntmps112 Try.results112 (by simp [AObj.isNest]) (by simp [AObj.isNest]) (by kernel_rfl) ?_; intro X hX hP hC hXn hXm vals hA; refine ⟨_, by simp, hA, ?_⟩; have hmix : X.P.follows .mixedOrders = true := (by rw [hP]; exact T.mixed); clear hXn hXm)
 repeat' (first | fail | ((first | ((with_reducible (first | apply oA | apply oB)); exact rfl; intro K hK) | (refine hK _ ?_; clear hK K) | ((with_reducible (first | apply oG | apply oH)); iterate 3 exact rfl) | ((with_reducible apply oI); (iterate 2 exact rfl); intro K hK) | (with_reducible (first | apply wI | apply wJ | apply wK))); try simp only [go_sem, simprocAttr]) | fail | (with_reducible (first | apply oC | apply oJ | exact oK | apply wA | apply wB | apply wC hX hC | apply wD hX hC | apply wE hX hC hmix | apply wF hX hC hmix | apply wG | apply wH | apply And.intro)) | ((with_reducible refine oD ?_ ?_); first | fail | kernel_rfl) | ((with_reducible (first | apply oE | apply oF)); (iterate 3 exact rfl); all_goals (intro h; first | (exact absurd h (by decide)) | ((try simp only [go_sem, simprocAttr] at h); (try with_reducible intro K hK); simp only [go_sem, simprocAttr]))) | ((first | ((with_reducible apply wL); exact rfl) | ((with_reducible apply wM); exact rfl)); all_goals (try ((with_reducible intro h); first | (exact absurd h (by decide)) | (try simp only [go_sem, simprocAttr] at h)))) | omega | ((first | (first | (refine acall_same hX hC hP (robG g) (may1_spec g _) rfl rfl rfl ?_ ?_ rfl rfl ?_; (focus (simp only [go_sem, simprocAttr]; done)); (focus (first | (intro p hp; exact mem_look (Robs.nd (robG g)) hp) | (simp [go_sem, simprocAttr]; done)))) | (refine acall_same hX hC hP (robG g) (may1_spec g _) rfl rfl rfl ?_ ?_ ?_ rfl ?_; (focus (simp only [go_sem, simprocAttr]; done)); (focus (first | (intro p hp; exact mem_look (Robs.nd (robG g)) hp) | (simp [go_sem, simprocAttr]; done))); (focus (simp [go_sem, simprocAttr]; done))))); try simp only [go_sem, simprocAttr]) | (intro h))
 ·simp [outE, *]
 ·simp [outE, *]
theorem robF (g : Gr) : Robs [(10001, rF), (10000, rG g)] := ⟨by simp [rG, rF, AObj.ro], by simp [nodupM, look], by simp, by simp [rG, rF, AObj.ids, AV.ids, AV.idss, eN, look]⟩
theorem may_spec (g : Gr) (hl : g.es.length ≤ 9223372036854775807) : Spec Try.prog 70 (Args [eG g]) [] (eB (mayB g)) [] := by
 (refine Spec.intro (C := T.cfg [] []) (rs := [.t 2]) (T.cfg_ok _ _) Try.func70 rfl rfl Try.ntmps70 Try.results70 (by simp [AObj.isNest]) (by simp [AObj.isNest]) (by kernel_rfl) ?_; intro X hX hP hC hXn hXm vals hA; refine ⟨_, by simp, hA, ?_⟩; have hmix : X.P.follows .mixedOrders = true := (by rw [hP]; exact T.mixed); clear hXn hXm)
 repeat' (first | fail | ((first | ((with_reducible (first | apply oA | apply oB)); exact rfl; intro K hK) | (refine hK _ ?_; clear hK K) | ((with_reducible (first | apply oG | apply oH)); iterate 3 exact rfl) | ((with_reducible apply oI); (iterate 2 exact rfl); intro K hK) | (with_reducible (first | apply wI | apply wJ | apply wK))); try simp only [go_sem, simprocAttr]) | fail | (with_reducible (first | apply oC | apply oJ | exact oK | apply wA | apply wB | apply wC hX hC | apply wD hX hC | apply wE hX hC hmix | apply wF hX hC hmix | apply wG | apply wH | apply And.intro)) | ((with_reducible refine oD ?_ ?_); first | fail | kernel_rfl) | ((with_reducible (first | apply oE | apply oF)); (iterate 3 exact rfl); all_goals (intro h; first | (exact absurd h (by decide)) | ((try simp only [go_sem, simprocAttr] at h); (try with_reducible intro K hK); simp only [go_sem, simprocAttr]))) | ((first | ((with_reducible apply wL); exact rfl) | ((with_reducible apply wM); exact rfl)); all_goals (try ((with_reducible intro h); first | (exact absurd h (by decide)) | (try simp only [go_sem, simprocAttr] at h)))) | omega | ((first | (refine acall_rob hX hC hP [(10000, 1), (10001, 3)] (containsFuncE_spec (robF g) _ _ (outE g) (may2_spec g) g.es hl) rfl rfl rfl ?_ ?_ ?_ ?_ ?_ ?_ rfl rfl ?_ ?_; (focus (simp only [go_sem, simprocAttr]; done)); (iterate 6 (focus (simp [go_sem, simprocAttr]; done))); simp only [go_sem, simprocAttr, List.map_cons, List.map_nil])); try simp only [go_sem, simprocAttr]) | (intro h))
 all_goals simp [mayB, *]
end Go.Ab
end
section
namespace Go.Ab
open Go.Proofs
attribute [local congr] ACall.congr
set_option maxRecDepth 10000
def idxI (l : List Int) (x : Int) : Int := findI (fun y => decide (x = y)) l
def idxE (l : List Edge) (x : Edge) : Int := findI (fun y => decide (x = y)) l
theorem idxI_has (l : List Int) (x : Int) : decide (0 ≤ idxI l x) = decide (x ∈ l) := by
 unfold idxI; rw [findI_any, Bool.eq_iff_iff]; simp
theorem idxE_has (l : List Edge) (x : Edge) : decide (0 ≤ idxE l x) = decide (x ∈ l) := by
 unfold idxE; rw [findI_any, Bool.eq_iff_iff]; simp [-Prod.exists, -Prod.forall]
theorem beqE (x y : Edge) : (decide (x.1 = y.1) && decide (x.2 = y.2)) = decide (x = y) := by
 obtain ⟨a, b⟩ := x; obtain ⟨c, d⟩ := y
 rw [Bool.eq_iff_iff]; simp
theorem indexI_spec (ps : List Int) (x : Int) (hl : ps.length ≤ 9223372036854775807) :
  Spec Try.prog 117 (Args [.d (sI ps), eN x]) [] (eN (idxI ps x)) [] := by
 (refine Spec.intro (C := T.cfg [] []) (rs := [.t 4]) (T.cfg_ok _ _) Try.func117 rfl rfl Try.ntmps117 Try.results117 (by simp [AObj.isNest]) (by simp [AObj.isNest]) (by kernel_rfl) ?_; intro X hX hP hC hXn hXm vals hA; refine ⟨_, by simp, hA, ?_⟩; have hmix : X.P.follows .mixedOrders = true := (by rw [hP]; exact T.mixed); clear hXn hXm)
 repeat' (first | fail | ((first | ((with_reducible (first | apply oA | apply oB)); exact rfl; intro K hK) | (refine hK _ ?_; clear hK K) | ((with_reducible (first | apply oG | apply oH)); iterate 3 exact rfl) | ((with_reducible apply oI); (iterate 2 exact rfl); intro K hK) | (with_reducible (first | apply wI | apply wJ | apply wK))); try simp only [go_sem, simprocAttr]) | fail | (with_reducible (first | apply oC | apply oJ | exact oK | apply wA | apply wB | apply wC hX hC | apply wD hX hC | apply wE hX hC hmix | apply wF hX hC hmix | apply wG | apply wH | apply And.intro)) | ((with_reducible refine oD ?_ ?_); first | fail | kernel_rfl) | ((with_reducible (first | apply oE | apply oF)); (iterate 3 exact rfl); all_goals (intro h; first | (exact absurd h (by decide)) | ((try simp only [go_sem, simprocAttr] at h); (try with_reducible intro K hK); simp only [go_sem, simprocAttr]))) | ((first | ((with_reducible apply wL); exact rfl) | ((with_reducible apply wM); exact rfl)); all_goals (try ((with_reducible intro h); first | (exact absurd h (by decide)) | (try simp only [go_sem, simprocAttr] at h)))) | omega | ((first | fail); try simp only [go_sem, simprocAttr]) | (intro h))
 refine awp_loopP (fun k : Nat => k ≤ ps.length ∧ ∀ j, j < k → decide (x = ps.getD j 0) = false) (fun k => ⟨[(0, .d (sI ps)), (1, eN x), (7, eN ps.length), (8, eN k)], []⟩) (fun k => ps.length - k) 0 (by simp) ?_ ?_
 ·(refine ⟨leT_spec ?_, fun _ _ h => h⟩; simp [go_sem, simprocAttr])
 rintro k ⟨hk, hg⟩
 repeat' (first | fail | ((first | ((with_reducible (first | apply oA | apply oB)); exact rfl; intro K hK) | (refine hK _ ?_; clear hK K) | ((with_reducible (first | apply oG | apply oH)); iterate 3 exact rfl) | ((with_reducible apply oI); (iterate 2 exact rfl); intro K hK) | (with_reducible (first | apply wI | apply wJ | apply wK))); try simp only [go_sem, simprocAttr]) | fail | (with_reducible (first | apply oC | apply oJ | exact oK | apply wA | apply wB | apply wC hX hC | apply wD hX hC | apply wE hX hC hmix | apply wF hX hC hmix | apply wG | apply wH | apply And.intro)) | ((with_reducible refine oD ?_ ?_); first | fail | kernel_rfl) | ((with_reducible (first | apply oE | apply oF)); (iterate 3 exact rfl); all_goals (intro h; first | (exact absurd h (by decide)) | ((try simp only [go_sem, simprocAttr] at h); (try with_reducible intro K hK); simp only [go_sem, simprocAttr]))) | ((first | ((with_reducible apply wL); exact rfl) | ((with_reducible apply wM); exact rfl)); all_goals (try ((with_reducible intro h); first | (exact absurd h (by decide)) | (try simp only [go_sem, simprocAttr] at h)))) | omega | ((first | fail); try simp only [go_sem, simprocAttr]) | (intro h))
 ·exact (findI_at (by omega) hg (by simpa using h)).symm
 ·refine ⟨k + 1, ⟨by omega, fun j hj => ?_⟩, ?_, by omega⟩
  ·by_cases hjk : j = k
   ·subst hjk; simpa using h
   ·simpa using hg j (by omega)
  ·(refine ⟨leT_spec ?_, fun _ _ h => h⟩; simp [go_sem, simprocAttr])
 ·exact (findI_none 0 fun j hj => hg j (by omega)).symm
theorem containsI_spec (ps : List Int) (x : Int) (hl : ps.length ≤ 9223372036854775807) :
  Spec Try.prog 97 (Args [.d (sI ps), eN x]) [] (eB (decide (x ∈ ps))) [] := by
 rw [← idxI_has]
 (refine Spec.intro (C := T.cfg [] []) (rs := [.t 4]) (T.cfg_ok _ _) Try.func97 rfl rfl Try.ntmps97 Try.results97 (by simp [AObj.isNest]) (by simp [AObj.isNest]) (by kernel_rfl) ?_; intro X hX hP hC hXn hXm vals hA; refine ⟨_, by simp, hA, ?_⟩; have hmix : X.P.follows .mixedOrders = true := (by rw [hP]; exact T.mixed); clear hXn hXm)
 repeat' (first | fail | ((first | ((with_reducible (first | apply oA | apply oB)); exact rfl; intro K hK) | (refine hK _ ?_; clear hK K) | ((with_reducible (first | apply oG | apply oH)); iterate 3 exact rfl) | ((with_reducible apply oI); (iterate 2 exact rfl); intro K hK) | (with_reducible (first | apply wI | apply wJ | apply wK))); try simp only [go_sem, simprocAttr]) | fail | (with_reducible (first | apply oC | apply oJ | exact oK | apply wA | apply wB | apply wC hX hC | apply wD hX hC | apply wE hX hC hmix | apply wF hX hC hmix | apply wG | apply wH | apply And.intro)) | ((with_reducible refine oD ?_ ?_); first | fail | kernel_rfl) | ((with_reducible (first | apply oE | apply oF)); (iterate 3 exact rfl); all_goals (intro h; first | (exact absurd h (by decide)) | ((try simp only [go_sem, simprocAttr] at h); (try with_reducible intro K hK); simp only [go_sem, simprocAttr]))) | ((first | ((with_reducible apply wL); exact rfl) | ((with_reducible apply wM); exact rfl)); all_goals (try ((with_reducible intro h); first | (exact absurd h (by decide)) | (try simp only [go_sem, simprocAttr] at h)))) | omega | ((first | refine acall_simple hX hC hP (indexI_spec ps x hl) rfl rfl rfl (by simp only [go_sem, simprocAttr]) rfl ?_); try simp only [go_sem, simprocAttr]) | (intro h))
theorem indexE_spec (ps : List Edge) (x : Edge) (hl : ps.length ≤ 9223372036854775807) :
  Spec Try.prog 113 (Args [.d (sE ps), eE x]) [] (eN (idxE ps x)) [] := by
 (refine Spec.intro (C := T.cfg [] []) (rs := [.t 4]) (T.cfg_ok _ _) Try.func113 rfl rfl Try.ntmps113 Try.results113 (by simp [AObj.isNest]) (by simp [AObj.isNest]) (by kernel_rfl) ?_; intro X hX hP hC hXn hXm vals hA; refine ⟨_, by simp, hA, ?_⟩; have hmix : X.P.follows .mixedOrders = true := (by rw [hP]; exact T.mixed); clear hXn hXm)
 repeat' (first | fail | ((first | ((with_reducible (first | apply oA | apply oB)); exact rfl; intro K hK) | (refine hK _ ?_; clear hK K) | ((with_reducible (first | apply oG | apply oH)); iterate 3 exact rfl) | ((with_reducible apply oI); (iterate 2 exact rfl); intro K hK) | (with_reducible (first | apply wI | apply wJ | apply wK))); try simp only [go_sem, simprocAttr]) | fail | (with_reducible (first | apply oC | apply oJ | exact oK | apply wA | apply wB | apply wC hX hC | apply wD hX hC | apply wE hX hC hmix | apply wF hX hC hmix | apply wG | apply wH | apply And.intro)) | ((with_reducible refine oD ?_ ?_); first | fail | kernel_rfl) | ((with_reducible (first | apply oE | apply oF)); (iterate 3 exact rfl); all_goals (intro h; first | (exact absurd h (by decide)) | ((try simp only [go_sem, simprocAttr] at h); (try with_reducible intro K hK); simp only [go_sem, simprocAttr]))) | ((first | ((with_reducible apply wL); exact rfl) | ((with_reducible apply wM); exact rfl)); all_goals (try ((with_reducible intro h); first | (exact absurd h (by decide)) | (try simp only [go_sem, simprocAttr] at h)))) | omega | ((first | fail); try simp only [go_sem, simprocAttr]) | (intro h))
 refine awp_loopP (fun k : Nat => k ≤ ps.length ∧ ∀ j, j < k → decide (x = ps.getD j (0, 0)) = false) (fun k => ⟨[(0, .d (sE ps)), (3, .ptr 3 0), (7, eN ps.length), (8, eN k)], [(3, .box [eN x.1, eN x.2])]⟩) (fun k => ps.length - k) 0 (by simp) ?_ ?_
 ·(refine Le.of ?_ ?_ <;> simp [go_sem, simprocAttr])
 rintro k ⟨hk, hg⟩
 repeat' (first | fail | ((first | ((with_reducible (first | apply oA | apply oB)); exact rfl; intro K hK) | (refine hK _ ?_; clear hK K) | ((with_reducible (first | apply oG | apply oH)); iterate 3 exact rfl) | ((with_reducible apply oI); (iterate 2 exact rfl); intro K hK) | (with_reducible (first | apply wI | apply wJ | apply wK))); try simp only [go_sem, simprocAttr, beqE]) | fail | (with_reducible (first | apply oC | apply oJ | exact oK | apply wA | apply wB | apply wC hX hC | apply wD hX hC | apply wE hX hC hmix | apply wF hX hC hmix | apply wG | apply wH | apply And.intro)) | ((with_reducible refine oD ?_ ?_); first | fail | kernel_rfl) | ((with_reducible (first | apply oE | apply oF)); (iterate 3 exact rfl); all_goals (intro h; first | (exact absurd h (by decide)) | ((try simp only [go_sem, simprocAttr, beqE] at h); (try with_reducible intro K hK); simp only [go_sem, simprocAttr, beqE]))) | ((first | ((with_reducible apply wL); exact rfl) | ((with_reducible apply wM); exact rfl)); all_goals (try ((with_reducible intro h); first | (exact absurd h (by decide)) | (try simp only [go_sem, simprocAttr, beqE] at h)))) | omega | ((first | fail); try simp only [go_sem, simprocAttr, beqE]) | (intro h))
 ·exact (findI_at (d := (0, 0)) (by omega) hg (by simpa using h)).symm
 ·refine ⟨k + 1, ⟨by omega, fun j hj => ?_⟩, ?_, by omega⟩
  ·by_cases hjk : j = k
   ·subst hjk; exact h
   ·simpa using hg j (by omega)
  ·(refine Le.of ?_ ?_ <;> simp [go_sem, simprocAttr, beqE])
 ·exact (findI_none (0, 0) fun j hj => hg j (by omega)).symm
theorem containsE_spec (ps : List Edge) (x : Edge) (hl : ps.length ≤ 9223372036854775807) :
  Spec Try.prog 73 (Args [.d (sE ps), eE x]) [] (eB (decide (x ∈ ps))) [] := by
 rw [← idxE_has]
 (refine Spec.intro (C := T.cfg [] []) (rs := [.t 4]) (T.cfg_ok _ _) Try.func73 rfl rfl Try.ntmps73 Try.results73 (by simp [AObj.isNest]) (by simp [AObj.isNest]) (by kernel_rfl) ?_; intro X hX hP hC hXn hXm vals hA; refine ⟨_, by simp, hA, ?_⟩; have hmix : X.P.follows .mixedOrders = true := (by rw [hP]; exact T.mixed); clear hXn hXm)
 repeat' (first | fail | ((first | ((with_reducible (first | apply oA | apply oB)); exact rfl; intro K hK) | (refine hK _ ?_; clear hK K) | ((with_reducible (first | apply oG | apply oH)); iterate 3 exact rfl) | ((with_reducible apply oI); (iterate 2 exact rfl); intro K hK) | (with_reducible (first | apply wI | apply wJ | apply wK))); try simp only [go_sem, simprocAttr, beqE]) | fail | (with_reducible (first | apply oC | apply oJ | exact oK | apply wA | apply wB | apply wC hX hC | apply wD hX hC | apply wE hX hC hmix | apply wF hX hC hmix | apply wG | apply wH | apply And.intro)) | ((with_reducible refine oD ?_ ?_); first | fail | kernel_rfl) | ((with_reducible (first | apply oE | apply oF)); (iterate 3 exact rfl); all_goals (intro h; first | (exact absurd h (by decide)) | ((try simp only [go_sem, simprocAttr, beqE] at h); (try with_reducible intro K hK); simp only [go_sem, simprocAttr, beqE]))) | ((first | ((with_reducible apply wL); exact rfl) | ((with_reducible apply wM); exact rfl)); all_goals (try ((with_reducible intro h); first | (exact absurd h (by decide)) | (try simp only [go_sem, simprocAttr, beqE] at h)))) | omega | ((first | refine acall_simple hX hC hP (indexE_spec ps x hl) rfl rfl rfl (by simp only [go_sem, simprocAttr, beqE]) rfl ?_); try simp only [go_sem, simprocAttr, beqE]) | (intro h))
theorem cloneE_spec (ps : List Edge) (hl : ps.length ≤ 1000000) :
  Spec Try.prog 45 (Args [.d (sE ps)]) [] (.d (sE ps)) [] := by
 (refine Spec.intro (C := T.cfg [] []) (rs := [.t 2]) (T.cfg_ok _ _) Try.func45 rfl rfl Try.ntmps45 Try.results45 (by simp [AObj.isNest]) (by simp [AObj.isNest]) (by kernel_rfl) ?_; intro X hX hP hC hXn hXm vals hA; refine ⟨_, by simp, hA, ?_⟩; have hmix : X.P.follows .mixedOrders = true := (by rw [hP]; exact T.mixed); clear hXn hXm)
 repeat' (first | fail | ((first | ((with_reducible (first | apply oA | apply oB)); exact rfl; intro K hK) | (refine hK _ ?_; clear hK K) | ((with_reducible (first | apply oG | apply oH)); iterate 3 exact rfl) | ((with_reducible apply oI); (iterate 2 exact rfl); intro K hK) | (with_reducible (first | apply wI | apply wJ | apply wK))); try simp only [go_sem, simprocAttr]) | fail | (with_reducible (first | apply oC | apply oJ | exact oK | apply wA | apply wB | apply wC hX hC | apply wD hX hC | apply wE hX hC hmix | apply wF hX hC hmix | apply wG | apply wH | apply And.intro)) | ((with_reducible refine oD ?_ ?_); first | fail | kernel_rfl) | ((with_reducible (first | apply oE | apply oF)); (iterate 3 exact rfl); all_goals (intro h; first | (exact absurd h (by decide)) | ((try simp only [go_sem, simprocAttr] at h); (try with_reducible intro K hK); simp only [go_sem, simprocAttr]))) | ((first | ((with_reducible apply wL); exact rfl) | ((with_reducible apply wM); exact rfl)); all_goals (try ((with_reducible intro h); first | (exact absurd h (by decide)) | (try simp only [go_sem, simprocAttr] at h)))) | omega | ((first | fail); try simp only [go_sem, simprocAttr]) | (intro h))
 exact h.symm
theorem cloneI_spec (ps : List Int) (hl : ps.length ≤ 1000000) :
  Spec Try.prog 46 (Args [.d (sI ps)]) [] (.d (sI ps)) [] := by
 (refine Spec.intro (C := T.cfg [] []) (rs := [.t 2]) (T.cfg_ok _ _) Try.func46 rfl rfl Try.ntmps46 Try.results46 (by simp [AObj.isNest]) (by simp [AObj.isNest]) (by kernel_rfl) ?_; intro X hX hP hC hXn hXm vals hA; refine ⟨_, by simp, hA, ?_⟩; have hmix : X.P.follows .mixedOrders = true := (by rw [hP]; exact T.mixed); clear hXn hXm)
 repeat' (first | fail | ((first | ((with_reducible (first | apply oA | apply oB)); exact rfl; intro K hK) | (refine hK _ ?_; clear hK K) | ((with_reducible (first | apply oG | apply oH)); iterate 3 exact rfl) | ((with_reducible apply oI); (iterate 2 exact rfl); intro K hK) | (with_reducible (first | apply wI | apply wJ | apply wK))); try simp only [go_sem, simprocAttr]) | fail | (with_reducible (first | apply oC | apply oJ | exact oK | apply wA | apply wB | apply wC hX hC | apply wD hX hC | apply wE hX hC hmix | apply wF hX hC hmix | apply wG | apply wH | apply And.intro)) | ((with_reducible refine oD ?_ ?_); first | fail | kernel_rfl) | ((with_reducible (first | apply oE | apply oF)); (iterate 3 exact rfl); all_goals (intro h; first | (exact absurd h (by decide)) | ((try simp only [go_sem, simprocAttr] at h); (try with_reducible intro K hK); simp only [go_sem, simprocAttr]))) | ((first | ((with_reducible apply wL); exact rfl) | ((with_reducible apply wM); exact rfl)); all_goals (try ((with_reducible intro h); first | (exact absurd h (by decide)) | (try simp only [go_sem, simprocAttr] at h)))) | omega | ((first | fail); try simp only [go_sem, simprocAttr]) | (intro h))
 exact h.symm
theorem take_next {α : Type} {xs ys : List α} (d : α) {k : Nat} (h1 : k < xs.length) (h2 : k < ys.length) (h : xs.take k = ys.take k) (he : xs.getD k d = ys.getD k d) : xs.take (k + 1) = ys.take (k + 1) := by
 rw [List.take_add_one, List.take_add_one, h, List.getElem?_eq_getElem h1, List.getElem?_eq_getElem h2]
 simp only [List.getD_eq_getElem?_getD, List.getElem?_eq_getElem h1, List.getElem?_eq_getElem h2, Option.getD_some] at he
 rw [he]
theorem sameInts_spec (xs ys : List Int) (hlen : xs.length ≤ 9223372036854775807) : Spec Try.prog 65 (Args [.d (sI xs), .d (sI ys)]) [] (eB (decide (xs = ys))) [] := by
 (refine Spec.intro (C := T.cfg [] []) (rs := [.t 4]) (T.cfg_ok _ _) Try.func65 rfl rfl Try.ntmps65 Try.results65 (by simp [AObj.isNest]) (by simp [AObj.isNest]) (by kernel_rfl) ?_; intro X hX hP hC hXn hXm vals hA; refine ⟨_, by simp, hA, ?_⟩; have hmix : X.P.follows .mixedOrders = true := (by rw [hP]; exact T.mixed); clear hXn hXm)
 repeat' (first | fail | ((first | ((with_reducible (first | apply oA | apply oB)); exact rfl; intro K hK) | (refine hK _ ?_; clear hK K) | ((with_reducible (first | apply oG | apply oH)); iterate 3 exact rfl) | ((with_reducible apply oI); (iterate 2 exact rfl); intro K hK) | (with_reducible (first | apply wI | apply wJ | apply wK))); try simp only [go_sem, simprocAttr]) | fail | (with_reducible (first | apply oC | apply oJ | exact oK | apply wA | apply wB | apply wC hX hC | apply wD hX hC | apply wE hX hC hmix | apply wF hX hC hmix | apply wG | apply wH | apply And.intro)) | ((with_reducible refine oD ?_ ?_); first | fail | kernel_rfl) | ((with_reducible (first | apply oE | apply oF)); (iterate 3 exact rfl); all_goals (intro h; first | (exact absurd h (by decide)) | ((try simp only [go_sem, simprocAttr] at h); (try with_reducible intro K hK); simp only [go_sem, simprocAttr]))) | ((first | ((with_reducible apply wL); exact rfl) | ((with_reducible apply wM); exact rfl)); all_goals (try ((with_reducible intro h); first | (exact absurd h (by decide)) | (try simp only [go_sem, simprocAttr] at h)))) | omega | ((first | fail); try simp only [go_sem, simprocAttr]) | (intro h))
 ·have : xs ≠ ys := fun e => h (by rw [e])
  simp [this]
 refine awp_loopP (fun k : Nat => k ≤ xs.length ∧ xs.take k = ys.take k) (fun k => ⟨[(0, .d (sI xs)), (1, .d (sI ys)), (5, eN k)], []⟩) (fun k => xs.length - k) 0 (by simp) ?_ ?_
 ·(refine ⟨leT_spec ?_, fun _ _ h => h⟩; simp [go_sem, simprocAttr])
 rintro k ⟨hk, hp⟩
 have hlq : xs.length = ys.length := by omega
 repeat' (first | fail | ((first | ((with_reducible (first | apply oA | apply oB)); exact rfl; intro K hK) | (refine hK _ ?_; clear hK K) | ((with_reducible (first | apply oG | apply oH)); iterate 3 exact rfl) | ((with_reducible apply oI); (iterate 2 exact rfl); intro K hK) | (with_reducible (first | apply wI | apply wJ | apply wK))); try simp only [go_sem, simprocAttr]) | fail | (with_reducible (first | apply oC | apply oJ | exact oK | apply wA | apply wB | apply wC hX hC | apply wD hX hC | apply wE hX hC hmix | apply wF hX hC hmix | apply wG | apply wH | apply And.intro)) | ((with_reducible refine oD ?_ ?_); first | fail | kernel_rfl) | ((with_reducible (first | apply oE | apply oF)); (iterate 3 exact rfl); all_goals (intro h; first | (exact absurd h (by decide)) | ((try simp only [go_sem, simprocAttr] at h); (try with_reducible intro K hK); simp only [go_sem, simprocAttr]))) | ((first | ((with_reducible apply wL); exact rfl) | ((with_reducible apply wM); exact rfl)); all_goals (try ((with_reducible intro h); first | (exact absurd h (by decide)) | (try simp only [go_sem, simprocAttr] at h)))) | omega | ((first | fail); try simp only [go_sem, simprocAttr]) | (intro h))
 ·have : xs ≠ ys := fun e => h (by rw [e])
  simp [this]
 ·refine ⟨k + 1, ⟨by omega, take_next 0 (by omega) (by omega) hp h⟩, ?_, by omega⟩
  (refine ⟨leT_spec ?_, fun _ _ h => h⟩; simp [go_sem, simprocAttr])
 ·have : k = xs.length := by omega
  subst this
  rw [List.take_of_length_le (Nat.le_refl _), List.take_of_length_le (by omega)] at hp
  simp [hp]
theorem any_at {α : Type} {f : α → Bool} {xs : List α} {d : α} {k : Nat} (h1 : k < xs.length) (he : f (xs.getD k d) = true) : xs.any f = true := by
 rw [List.any_eq_true]
 refine ⟨_, List.getElem_mem h1, ?_⟩
 simpa only [List.getD_eq_getElem?_getD, List.getElem?_eq_getElem h1, Option.getD_some] using he
theorem mayB_out {g : Gr} {k : Nat} (h1 : k < g.es.length) (he : outE g (g.es.getD k (0, 0)) = true) : false = mayB g := by
 simp [mayB, any_at h1 he]
end Go.Ab
end
