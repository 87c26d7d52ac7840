/- A part of the proof. -/
import Derived.Test.YtcajillldlhdpaaProg
import Derived.Test.YtcajillldlhdpaaL10P8
set_option linter.unusedSimpArgs false
set_option linter.unusedVariables false
section
namespace Go.Ab.T
open Go.Proofs
def T : Nat → Option TI
  | 1 => some ⟨.sc, 1, 8, [(.d (.sc .nilFunc))]⟩  -- func()
  | 2 => some ⟨(.int .i64), 1, 8, [(.d (.sc (.int .i64 0)))]⟩  -- int64
  | 3 => some ⟨(.int .i64), 1, 8, [(.d (.sc (.int .i64 0)))]⟩  -- int
  | 4 => some ⟨.bool, 1, 1, [(.d (.sc (.bool false)))]⟩  -- bool
  | 5 => some ⟨(.int .u8), 1, 1, [(.d (.sc (.int .u8 0)))]⟩  -- uint8
  | 9 => some ⟨.sc, 1, 16, [(.d (.sc (.string ⟨#[]⟩)))]⟩  -- string
  | 12 => some ⟨(.int .u64), 1, 8, [(.d (.sc (.int .u64 0)))]⟩  -- uintptr
  | 21 => some ⟨(.int .i32), 1, 4, [(.d (.sc (.int .i32 0)))]⟩  -- int32
  | 22 => some ⟨(.sl 55), 1, 24, [(.nil 55)]⟩  -- []api.Edge
  | 24 => some ⟨(.st [(0, 3), (1, 22)]), 2, 32, [(.d (.sc (.int .i64 0))), (.nil 55)]⟩  -- api.Graph
  | 25 => some ⟨.sc, 1, 8, [(.d (.sc .nilFunc))]⟩  -- func() bool
  | 26 => some ⟨.sc, 1, 8, [(.d (.sc .nilFunc))]⟩  -- func(api.Graph) bool
  | 27 => some ⟨(.int .i64), 1, 8, [(.d (.sc (.int .i64 0)))]⟩  -- api.Errno
  | 28 => some ⟨(.sl 3), 1, 24, [(.nil 3)]⟩  -- []int
  | 30 => some ⟨(.st [(0, 27), (1, 3), (2, 28)]), 3, 40, [(.d (.sc (.int .i64 0))), (.d (.sc (.int .i64 0))), (.nil 3)]⟩  -- api.Fault
  | 31 => some ⟨.sc, 1, 8, [(.d (.sc .nilFunc))]⟩  -- func(api.Graph) api.Fault
  | 33 => some ⟨.sc, 1, 8, [(.d (.sc .nilFunc))]⟩  -- func(api.Graph) (int, int, []int)
  | 34 => some ⟨.sc, 1, 8, [(.d (.sc .nilFunc))]⟩  -- func([]int, []int) bool
  | 35 => some ⟨(.pt 43), 1, 8, [(.d (.sc (.pointer none)))]⟩  -- *graph.View
  | 36 => some ⟨.sc, 1, 8, [(.d (.sc .nilFunc))]⟩  -- func(api.Graph) *graph.View
  | 38 => some ⟨.sc, 1, 8, [(.d (.sc .nilFunc))]⟩  -- func() ([]int, bool)
  | 39 => some ⟨.sc, 1, 8, [(.d (.sc .nilFunc))]⟩  -- func(api.Graph, []int) bool
  | 40 => some ⟨.sc, 1, 8, [(.d (.sc .nilFunc))]⟩  -- func(api.Graph, api.Graph) bool
  | 41 => some ⟨(.sl 28), 1, 24, [(.nil 28)]⟩  -- [][]int
  | 43 => some ⟨(.st [(0, 24), (2, 41), (3, 41)]), 4, 80, [(.d (.sc (.int .i64 0))), (.nil 55), (.nil 28), (.nil 28)]⟩  -- graph.View
  | 44 => some ⟨.sc, 1, 8, [(.d (.sc .nilFunc))]⟩  -- func(int) []int
  | 45 => some ⟨.sc, 1, 8, [(.d (.sc .nilFunc))]⟩  -- func() []int
  | 46 => some ⟨.sc, 1, 8, [(.d (.sc .nilFunc))]⟩  -- func(api.Graph, int, bool) []int
  | 47 => some ⟨.sc, 1, 8, [(.d (.sc .nilFunc))]⟩  -- func(api.Graph) ([]int, bool)
  | 48 => some ⟨.sc, 1, 8, [(.d (.sc .nilFunc))]⟩  -- func(api.Graph, bool) []int
  | 50 => some ⟨.sc, 1, 8, [(.d (.sc .nilFunc))]⟩  -- func(api.Graph, []int, []int) (api.Graph, api.Errno)
  | 51 => some ⟨.sc, 1, 8, [(.d (.sc .nilFunc))]⟩  -- func([]int, int) bool
  | 52 => some ⟨.sc, 1, 8, [(.d (.sc .nilFunc))]⟩  -- func(api.Graph, []int, []int) api.Graph
  | 53 => some ⟨.sc, 1, 8, [(.d (.sc .nilFunc))]⟩  -- func(api.Graph, []int, []int) bool
  | 55 => some ⟨(.st [(0, 3), (1, 3)]), 2, 16, [(.d (.sc (.int .i64 0))), (.d (.sc (.int .i64 0)))]⟩  -- api.Edge
  | 56 => some ⟨.sc, 1, 8, [(.d (.sc .nilFunc))]⟩  -- func(int, int) bool
  | 57 => some ⟨(.sl 66), 1, 24, [(.nil 66)]⟩  -- []arborlaw09.Act
  | 58 => some ⟨(.pt 81), 1, 8, [(.d (.sc (.pointer none)))]⟩  -- *front.Front
  | 60 => some ⟨.sc, 1, 8, [(.d (.sc .nilFunc))]⟩  -- func(api.Graph) (*front.Front, api.Errno)
  | 61 => some ⟨(.pt 64), 1, 8, [(.d (.sc (.pointer none)))]⟩  -- *arborref09.Front
  | 62 => some ⟨(.sl 104), 1, 24, [(.nil 104)]⟩  -- []api.Item
  | 64 => some ⟨(.st [(0, 24), (2, 62), (3, 28)]), 4, 80, [(.d (.sc (.int .i64 0))), (.nil 55), (.nil 104), (.nil 3)]⟩  -- arborref09.Front
  | 66 => some ⟨(.st [(0, 3), (1, 28)]), 2, 32, [(.d (.sc (.int .i64 0))), (.nil 3)]⟩  -- arborlaw09.Act
  | 68 => some ⟨.sc, 1, 8, [(.d (.sc .nilFunc))]⟩  -- func(int, ...int) ([]api.Item, api.Errno)
  | 70 => some ⟨.sc, 1, 8, [(.d (.sc .nilFunc))]⟩  -- func(int, []int) ([]api.Item, int)
  | 71 => some ⟨.sc, 1, 8, [(.d (.sc .nilFunc))]⟩  -- func(*arborref09.Front) bool
  | 72 => some ⟨.sc, 1, 8, [(.d (.sc .nilFunc))]⟩  -- func([]int) [][]int
  | 73 => some ⟨.sc, 1, 8, [(.d (.sc .nilFunc))]⟩  -- func() *arborref09.Front
  | 74 => some ⟨.sc, 1, 8, [(.d (.sc .nilFunc))]⟩  -- func(api.Graph, []arborlaw09.Act) bool
  | 75 => some ⟨.sc, 1, 8, [(.d (.sc .nilFunc))]⟩  -- func() *front.Front
  | 76 => some ⟨.sc, 1, 8, [(.d (.sc .nilFunc))]⟩  -- func([]api.Item, []api.Item) bool
  | 77 => some ⟨.sc, 1, 8, [(.d (.sc .nilFunc))]⟩  -- func() []api.Item
  | 79 => some ⟨(.st [(0, 62)]), 1, 24, [(.nil 104)]⟩  -- front.row
  | 81 => some ⟨(.st [(0, 79), (1, 35), (2, 28)]), 3, 56, [(.nil 104), (.d (.sc (.pointer none))), (.nil 3)]⟩  -- front.Front
  | 82 => some ⟨.sc, 1, 8, [(.d (.sc .nilFunc))]⟩  -- func(api.Graph, []arborlaw09.Act, int, int) bool
  | 83 => some ⟨.sc, 1, 8, [(.d (.sc .nilFunc))]⟩  -- func(int) bool
  | 84 => some ⟨.sc, 1, 8, [(.d (.sc .nilFunc))]⟩  -- func([]api.Edge, func(api.Edge) bool) int
  | 85 => some ⟨.sc, 1, 8, [(.d (.sc .nilFunc))]⟩  -- func(api.Edge) bool
  | 86 => some ⟨.sc, 1, 8, [(.d (.sc .nilFunc))]⟩  -- func([]api.Edge, api.Edge) bool
  | 87 => some ⟨.sc, 1, 8, [(.d (.sc .nilFunc))]⟩  -- func(api.Graph) []int
  | 88 => some ⟨.sc, 1, 8, [(.d (.sc .nilFunc))]⟩  -- func([]api.Edge, func(api.Edge) bool) bool
  | 89 => some ⟨.sc, 1, 8, [(.d (.sc .nilFunc))]⟩  -- func([]api.Edge) []api.Edge
  | 91 => some ⟨.sc, 1, 8, [(.d (.sc .nilFunc))]⟩  -- func() ([]int, []int)
  | 92 => some ⟨.sc, 1, 8, [(.d (.sc .nilFunc))]⟩  -- func([][]int, int) []int
  | 93 => some ⟨.sc, 1, 8, [(.d (.sc .nilFunc))]⟩  -- func([][]int) []int
  | 94 => some ⟨.sc, 1, 8, [(.d (.sc .nilFunc))]⟩  -- func([]int, int) int
  | 95 => some ⟨.sc, 1, 8, [(.d (.sc .nilFunc))]⟩  -- func(iter.Seq[int]) []int
  | 96 => some ⟨.sc, 1, 8, [(.d (.sc .nilFunc))]⟩  -- func(func(int) bool)
  | 97 => some ⟨.sc, 1, 8, [(.d (.sc .nilFunc))]⟩  -- iter.Seq[int]
  | 98 => some ⟨.sc, 1, 8, [(.d (.sc .nilFunc))]⟩  -- func([]int) iter.Seq[int]
  | 100 => some ⟨.sc, 1, 8, [(.d (.sc .nilFunc))]⟩  -- func(int) (int, int, int)
  | 101 => some ⟨.sc, 1, 8, [(.d (.sc .nilFunc))]⟩  -- func(int, int, ...api.Item) []api.Item
  | 102 => some ⟨.sc, 1, 8, [(.d (.sc .nilFunc))]⟩  -- func(int, []int) []api.Item
  | 104 => some ⟨(.st [(0, 3), (1, 3), (2, 3)]), 3, 24, [(.d (.sc (.int .i64 0))), (.d (.sc (.int .i64 0))), (.d (.sc (.int .i64 0)))]⟩  -- api.Item
  | 105 => some ⟨(.pt 79), 1, 8, [(.d (.sc (.pointer none)))]⟩  -- *front.row
  | 106 => some ⟨.sc, 1, 8, [(.d (.sc .nilFunc))]⟩  -- func([]api.Item) []api.Item
  | 107 => some ⟨.sc, 1, 8, [(.d (.sc .nilFunc))]⟩  -- func(int, int) int
  | 108 => some ⟨.sc, 1, 8, [(.d (.sc .nilFunc))]⟩  -- func([]int) []int
  | 109 => some ⟨.sc, 1, 8, [(.d (.sc .nilFunc))]⟩  -- func([]api.Edge, api.Edge) int
  | 110 => some ⟨.sc, 1, 8, [(.d (.sc .nilFunc))]⟩  -- func([]int, func(int) bool) int
  | 111 => some ⟨.sc, 1, 8, [(.d (.sc .nilFunc))]⟩  -- func([]int)
  | 112 => some ⟨.sc, 1, 8, [(.d (.sc .nilFunc))]⟩  -- func([]int) int
  | 113 => some ⟨.sc, 1, 8, [(.d (.sc .nilFunc))]⟩  -- func(...[]int) []int
  | 114 => some ⟨(.sl 4), 1, 24, [(.nil 4)]⟩  -- []bool
  | 115 => some ⟨.sc, 1, 8, [(.d (.sc .nilFunc))]⟩  -- func(api.Graph) []bool
  | 116 => some ⟨.sc, 1, 8, [(.d (.sc .nilFunc))]⟩  -- func(int, int, int) bool
  | 117 => some ⟨.sc, 1, 8, [(.d (.sc .nilFunc))]⟩  -- func(...[]api.Item) []api.Item
  | 118 => some ⟨.sc, 1, 8, [(.d (.sc .nilFunc))]⟩  -- func([]int, int) []int
  | 119 => some ⟨.sc, 1, 8, [(.d (.sc .nilFunc))]⟩  -- func([]api.Item, func(api.Item) bool) bool
  | 120 => some ⟨.sc, 1, 8, [(.d (.sc .nilFunc))]⟩  -- func(api.Item) bool
  | 121 => some ⟨.sc, 1, 8, [(.d (.sc .nilFunc))]⟩  -- func([]int, iter.Seq[int]) []int
  | 122 => some ⟨.sc, 1, 8, [(.d (.sc .nilFunc))]⟩  -- func([]int, int, int, int)
  | 123 => some ⟨.sc, 1, 8, [(.d (.sc .nilFunc))]⟩  -- func(uint) int
  | 124 => some ⟨(.int .u64), 1, 8, [(.d (.sc (.int .u64 0)))]⟩  -- uint
  | 125 => some ⟨(.sl 62), 1, 24, [(.nil 62)]⟩  -- [][]api.Item
  | 126 => some ⟨.sc, 1, 8, [(.d (.sc .nilFunc))]⟩  -- func([]api.Item, int) []api.Item
  | 127 => some ⟨.sc, 1, 8, [(.d (.sc .nilFunc))]⟩  -- func([]api.Item, func(api.Item) bool) int
  | 128 => some ⟨.sc, 1, 8, [(.d (.sc .nilFunc))]⟩  -- func([]int, int, int)
  | 129 => some ⟨(.int .i64), 1, 8, [(.d (.sc (.int .i64 0)))]⟩  -- slices.sortedHint
  | 131 => some ⟨.sc, 1, 8, [(.d (.sc .nilFunc))]⟩  -- func([]int, int, int) (int, slices.sortedHint)
  | 132 => some ⟨.sc, 1, 8, [(.d (.sc .nilFunc))]⟩  -- func([]int, int, int) bool
  | 133 => some ⟨.sc, 1, 8, [(.d (.sc .nilFunc))]⟩  -- func([]int, int, int, int) int
  | 135 => some ⟨.sc, 1, 8, [(.d (.sc .nilFunc))]⟩  -- func([]int, int, int, int) (int, bool)
  | 136 => some ⟨.sc, 1, 8, [(.d (.sc .nilFunc))]⟩  -- func(uint32) int
  | 137 => some ⟨(.int .u32), 1, 4, [(.d (.sc (.int .u32 0)))]⟩  -- uint32
  | 138 => some ⟨.sc, 1, 8, [(.d (.sc .nilFunc))]⟩  -- func(uint64) int
  | 139 => some ⟨(.int .u64), 1, 8, [(.d (.sc (.int .u64 0)))]⟩  -- uint64
  | 140 => some ⟨(.int .u64), 1, 8, [(.d (.sc (.int .u64 0)))]⟩  -- slices.xorshift
  | 141 => some ⟨.sc, 1, 8, [(.d (.sc .nilFunc))]⟩  -- func(int) uint
  | 142 => some ⟨.sc, 1, 8, [(.d (.sc .nilFunc))]⟩  -- func() uint64
  | 143 => some ⟨.sc, 1, 8, [(.d (.sc .nilFunc))]⟩  -- func([]int, int, *int) int
  | 144 => some ⟨(.pt 3), 1, 8, [(.d (.sc (.pointer none)))]⟩  -- *int
  | 145 => some ⟨.sc, 1, 8, [(.d (.sc .nilFunc))]⟩  -- func([]int, int, int, int, *int) int
  | 146 => some ⟨(.pt 140), 1, 8, [(.d (.sc (.pointer none)))]⟩  -- *slices.xorshift
  | 148 => some ⟨.sc, 1, 8, [(.d (.sc .nilFunc))]⟩  -- func([]int, int, int, *int) (int, int)
  | 149 => some ⟨.sc, 1, 8, [(.d (.sc .nilFunc))]⟩  -- func() string
  | 155 => some ⟨.sc, 1, 8, [(.d (.sc .nilFunc))]⟩  -- func() int
  | 159 => some ⟨(.pt 5), 1, 8, [(.d (.sc (.pointer none)))]⟩  -- *uint8
  | _ => none
theorem T1 : T 1 = some ⟨.sc, 1, 8, [(.d (.sc .nilFunc))]⟩ := rfl
theorem T2 : T 2 = some ⟨(.int .i64), 1, 8, [(.d (.sc (.int .i64 0)))]⟩ := rfl
theorem T3 : T 3 = some ⟨(.int .i64), 1, 8, [(.d (.sc (.int .i64 0)))]⟩ := rfl
theorem T4 : T 4 = some ⟨.bool, 1, 1, [(.d (.sc (.bool false)))]⟩ := rfl
theorem T5 : T 5 = some ⟨(.int .u8), 1, 1, [(.d (.sc (.int .u8 0)))]⟩ := rfl
theorem T9 : T 9 = some ⟨.sc, 1, 16, [(.d (.sc (.string ⟨#[]⟩)))]⟩ := rfl
theorem T12 : T 12 = some ⟨(.int .u64), 1, 8, [(.d (.sc (.int .u64 0)))]⟩ := rfl
theorem T21 : T 21 = some ⟨(.int .i32), 1, 4, [(.d (.sc (.int .i32 0)))]⟩ := rfl
theorem T22 : T 22 = some ⟨(.sl 55), 1, 24, [(.nil 55)]⟩ := rfl
theorem T24 : T 24 = some ⟨(.st [(0, 3), (1, 22)]), 2, 32, [(.d (.sc (.int .i64 0))), (.nil 55)]⟩ := rfl
theorem T25 : T 25 = some ⟨.sc, 1, 8, [(.d (.sc .nilFunc))]⟩ := rfl
theorem T26 : T 26 = some ⟨.sc, 1, 8, [(.d (.sc .nilFunc))]⟩ := rfl
theorem T27 : T 27 = some ⟨(.int .i64), 1, 8, [(.d (.sc (.int .i64 0)))]⟩ := rfl
theorem T28 : T 28 = some ⟨(.sl 3), 1, 24, [(.nil 3)]⟩ := rfl
theorem T30 : T 30 = some ⟨(.st [(0, 27), (1, 3), (2, 28)]), 3, 40, [(.d (.sc (.int .i64 0))), (.d (.sc (.int .i64 0))), (.nil 3)]⟩ := rfl
theorem T31 : T 31 = some ⟨.sc, 1, 8, [(.d (.sc .nilFunc))]⟩ := rfl
theorem T33 : T 33 = some ⟨.sc, 1, 8, [(.d (.sc .nilFunc))]⟩ := rfl
theorem T34 : T 34 = some ⟨.sc, 1, 8, [(.d (.sc .nilFunc))]⟩ := rfl
theorem T35 : T 35 = some ⟨(.pt 43), 1, 8, [(.d (.sc (.pointer none)))]⟩ := rfl
theorem T36 : T 36 = some ⟨.sc, 1, 8, [(.d (.sc .nilFunc))]⟩ := rfl
theorem T38 : T 38 = some ⟨.sc, 1, 8, [(.d (.sc .nilFunc))]⟩ := rfl
theorem T39 : T 39 = some ⟨.sc, 1, 8, [(.d (.sc .nilFunc))]⟩ := rfl
theorem T40 : T 40 = some ⟨.sc, 1, 8, [(.d (.sc .nilFunc))]⟩ := rfl
theorem T41 : T 41 = some ⟨(.sl 28), 1, 24, [(.nil 28)]⟩ := rfl
theorem T43 : T 43 = some ⟨(.st [(0, 24), (2, 41), (3, 41)]), 4, 80, [(.d (.sc (.int .i64 0))), (.nil 55), (.nil 28), (.nil 28)]⟩ := rfl
theorem T44 : T 44 = some ⟨.sc, 1, 8, [(.d (.sc .nilFunc))]⟩ := rfl
theorem T45 : T 45 = some ⟨.sc, 1, 8, [(.d (.sc .nilFunc))]⟩ := rfl
theorem T46 : T 46 = some ⟨.sc, 1, 8, [(.d (.sc .nilFunc))]⟩ := rfl
theorem T47 : T 47 = some ⟨.sc, 1, 8, [(.d (.sc .nilFunc))]⟩ := rfl
theorem T48 : T 48 = some ⟨.sc, 1, 8, [(.d (.sc .nilFunc))]⟩ := rfl
theorem T50 : T 50 = some ⟨.sc, 1, 8, [(.d (.sc .nilFunc))]⟩ := rfl
theorem T51 : T 51 = some ⟨.sc, 1, 8, [(.d (.sc .nilFunc))]⟩ := rfl
theorem T52 : T 52 = some ⟨.sc, 1, 8, [(.d (.sc .nilFunc))]⟩ := rfl
theorem T53 : T 53 = some ⟨.sc, 1, 8, [(.d (.sc .nilFunc))]⟩ := rfl
theorem T55 : T 55 = some ⟨(.st [(0, 3), (1, 3)]), 2, 16, [(.d (.sc (.int .i64 0))), (.d (.sc (.int .i64 0)))]⟩ := rfl
theorem T56 : T 56 = some ⟨.sc, 1, 8, [(.d (.sc .nilFunc))]⟩ := rfl
theorem T57 : T 57 = some ⟨(.sl 66), 1, 24, [(.nil 66)]⟩ := rfl
theorem T58 : T 58 = some ⟨(.pt 81), 1, 8, [(.d (.sc (.pointer none)))]⟩ := rfl
theorem T60 : T 60 = some ⟨.sc, 1, 8, [(.d (.sc .nilFunc))]⟩ := rfl
theorem T61 : T 61 = some ⟨(.pt 64), 1, 8, [(.d (.sc (.pointer none)))]⟩ := rfl
theorem T62 : T 62 = some ⟨(.sl 104), 1, 24, [(.nil 104)]⟩ := rfl
theorem T64 : T 64 = some ⟨(.st [(0, 24), (2, 62), (3, 28)]), 4, 80, [(.d (.sc (.int .i64 0))), (.nil 55), (.nil 104), (.nil 3)]⟩ := rfl
theorem T66 : T 66 = some ⟨(.st [(0, 3), (1, 28)]), 2, 32, [(.d (.sc (.int .i64 0))), (.nil 3)]⟩ := rfl
theorem T68 : T 68 = some ⟨.sc, 1, 8, [(.d (.sc .nilFunc))]⟩ := rfl
theorem T70 : T 70 = some ⟨.sc, 1, 8, [(.d (.sc .nilFunc))]⟩ := rfl
theorem T71 : T 71 = some ⟨.sc, 1, 8, [(.d (.sc .nilFunc))]⟩ := rfl
theorem T72 : T 72 = some ⟨.sc, 1, 8, [(.d (.sc .nilFunc))]⟩ := rfl
theorem T73 : T 73 = some ⟨.sc, 1, 8, [(.d (.sc .nilFunc))]⟩ := rfl
theorem T74 : T 74 = some ⟨.sc, 1, 8, [(.d (.sc .nilFunc))]⟩ := rfl
theorem T75 : T 75 = some ⟨.sc, 1, 8, [(.d (.sc .nilFunc))]⟩ := rfl
theorem T76 : T 76 = some ⟨.sc, 1, 8, [(.d (.sc .nilFunc))]⟩ := rfl
theorem T77 : T 77 = some ⟨.sc, 1, 8, [(.d (.sc .nilFunc))]⟩ := rfl
theorem T79 : T 79 = some ⟨(.st [(0, 62)]), 1, 24, [(.nil 104)]⟩ := rfl
theorem T81 : T 81 = some ⟨(.st [(0, 79), (1, 35), (2, 28)]), 3, 56, [(.nil 104), (.d (.sc (.pointer none))), (.nil 3)]⟩ := rfl
theorem T82 : T 82 = some ⟨.sc, 1, 8, [(.d (.sc .nilFunc))]⟩ := rfl
theorem T83 : T 83 = some ⟨.sc, 1, 8, [(.d (.sc .nilFunc))]⟩ := rfl
theorem T84 : T 84 = some ⟨.sc, 1, 8, [(.d (.sc .nilFunc))]⟩ := rfl
theorem T85 : T 85 = some ⟨.sc, 1, 8, [(.d (.sc .nilFunc))]⟩ := rfl
theorem T86 : T 86 = some ⟨.sc, 1, 8, [(.d (.sc .nilFunc))]⟩ := rfl
theorem T87 : T 87 = some ⟨.sc, 1, 8, [(.d (.sc .nilFunc))]⟩ := rfl
theorem T88 : T 88 = some ⟨.sc, 1, 8, [(.d (.sc .nilFunc))]⟩ := rfl
theorem T89 : T 89 = some ⟨.sc, 1, 8, [(.d (.sc .nilFunc))]⟩ := rfl
theorem T91 : T 91 = some ⟨.sc, 1, 8, [(.d (.sc .nilFunc))]⟩ := rfl
theorem T92 : T 92 = some ⟨.sc, 1, 8, [(.d (.sc .nilFunc))]⟩ := rfl
theorem T93 : T 93 = some ⟨.sc, 1, 8, [(.d (.sc .nilFunc))]⟩ := rfl
theorem T94 : T 94 = some ⟨.sc, 1, 8, [(.d (.sc .nilFunc))]⟩ := rfl
theorem T95 : T 95 = some ⟨.sc, 1, 8, [(.d (.sc .nilFunc))]⟩ := rfl
theorem T96 : T 96 = some ⟨.sc, 1, 8, [(.d (.sc .nilFunc))]⟩ := rfl
theorem T97 : T 97 = some ⟨.sc, 1, 8, [(.d (.sc .nilFunc))]⟩ := rfl
theorem T98 : T 98 = some ⟨.sc, 1, 8, [(.d (.sc .nilFunc))]⟩ := rfl
theorem T100 : T 100 = some ⟨.sc, 1, 8, [(.d (.sc .nilFunc))]⟩ := rfl
theorem T101 : T 101 = some ⟨.sc, 1, 8, [(.d (.sc .nilFunc))]⟩ := rfl
theorem T102 : T 102 = some ⟨.sc, 1, 8, [(.d (.sc .nilFunc))]⟩ := rfl
theorem T104 : T 104 = some ⟨(.st [(0, 3), (1, 3), (2, 3)]), 3, 24, [(.d (.sc (.int .i64 0))), (.d (.sc (.int .i64 0))), (.d (.sc (.int .i64 0)))]⟩ := rfl
theorem T105 : T 105 = some ⟨(.pt 79), 1, 8, [(.d (.sc (.pointer none)))]⟩ := rfl
theorem T106 : T 106 = some ⟨.sc, 1, 8, [(.d (.sc .nilFunc))]⟩ := rfl
theorem T107 : T 107 = some ⟨.sc, 1, 8, [(.d (.sc .nilFunc))]⟩ := rfl
theorem T108 : T 108 = some ⟨.sc, 1, 8, [(.d (.sc .nilFunc))]⟩ := rfl
theorem T109 : T 109 = some ⟨.sc, 1, 8, [(.d (.sc .nilFunc))]⟩ := rfl
theorem T110 : T 110 = some ⟨.sc, 1, 8, [(.d (.sc .nilFunc))]⟩ := rfl
theorem T111 : T 111 = some ⟨.sc, 1, 8, [(.d (.sc .nilFunc))]⟩ := rfl
theorem T112 : T 112 = some ⟨.sc, 1, 8, [(.d (.sc .nilFunc))]⟩ := rfl
theorem T113 : T 113 = some ⟨.sc, 1, 8, [(.d (.sc .nilFunc))]⟩ := rfl
theorem T114 : T 114 = some ⟨(.sl 4), 1, 24, [(.nil 4)]⟩ := rfl
theorem T115 : T 115 = some ⟨.sc, 1, 8, [(.d (.sc .nilFunc))]⟩ := rfl
theorem T116 : T 116 = some ⟨.sc, 1, 8, [(.d (.sc .nilFunc))]⟩ := rfl
theorem T117 : T 117 = some ⟨.sc, 1, 8, [(.d (.sc .nilFunc))]⟩ := rfl
theorem T118 : T 118 = some ⟨.sc, 1, 8, [(.d (.sc .nilFunc))]⟩ := rfl
theorem T119 : T 119 = some ⟨.sc, 1, 8, [(.d (.sc .nilFunc))]⟩ := rfl
theorem T120 : T 120 = some ⟨.sc, 1, 8, [(.d (.sc .nilFunc))]⟩ := rfl
theorem T121 : T 121 = some ⟨.sc, 1, 8, [(.d (.sc .nilFunc))]⟩ := rfl
theorem T122 : T 122 = some ⟨.sc, 1, 8, [(.d (.sc .nilFunc))]⟩ := rfl
theorem T123 : T 123 = some ⟨.sc, 1, 8, [(.d (.sc .nilFunc))]⟩ := rfl
theorem T124 : T 124 = some ⟨(.int .u64), 1, 8, [(.d (.sc (.int .u64 0)))]⟩ := rfl
theorem T125 : T 125 = some ⟨(.sl 62), 1, 24, [(.nil 62)]⟩ := rfl
theorem T126 : T 126 = some ⟨.sc, 1, 8, [(.d (.sc .nilFunc))]⟩ := rfl
theorem T127 : T 127 = some ⟨.sc, 1, 8, [(.d (.sc .nilFunc))]⟩ := rfl
theorem T128 : T 128 = some ⟨.sc, 1, 8, [(.d (.sc .nilFunc))]⟩ := rfl
theorem T129 : T 129 = some ⟨(.int .i64), 1, 8, [(.d (.sc (.int .i64 0)))]⟩ := rfl
theorem T131 : T 131 = some ⟨.sc, 1, 8, [(.d (.sc .nilFunc))]⟩ := rfl
theorem T132 : T 132 = some ⟨.sc, 1, 8, [(.d (.sc .nilFunc))]⟩ := rfl
theorem T133 : T 133 = some ⟨.sc, 1, 8, [(.d (.sc .nilFunc))]⟩ := rfl
theorem T135 : T 135 = some ⟨.sc, 1, 8, [(.d (.sc .nilFunc))]⟩ := rfl
theorem T136 : T 136 = some ⟨.sc, 1, 8, [(.d (.sc .nilFunc))]⟩ := rfl
theorem T137 : T 137 = some ⟨(.int .u32), 1, 4, [(.d (.sc (.int .u32 0)))]⟩ := rfl
theorem T138 : T 138 = some ⟨.sc, 1, 8, [(.d (.sc .nilFunc))]⟩ := rfl
theorem T139 : T 139 = some ⟨(.int .u64), 1, 8, [(.d (.sc (.int .u64 0)))]⟩ := rfl
theorem T140 : T 140 = some ⟨(.int .u64), 1, 8, [(.d (.sc (.int .u64 0)))]⟩ := rfl
theorem T141 : T 141 = some ⟨.sc, 1, 8, [(.d (.sc .nilFunc))]⟩ := rfl
theorem T142 : T 142 = some ⟨.sc, 1, 8, [(.d (.sc .nilFunc))]⟩ := rfl
theorem T143 : T 143 = some ⟨.sc, 1, 8, [(.d (.sc .nilFunc))]⟩ := rfl
theorem T144 : T 144 = some ⟨(.pt 3), 1, 8, [(.d (.sc (.pointer none)))]⟩ := rfl
theorem T145 : T 145 = some ⟨.sc, 1, 8, [(.d (.sc .nilFunc))]⟩ := rfl
theorem T146 : T 146 = some ⟨(.pt 140), 1, 8, [(.d (.sc (.pointer none)))]⟩ := rfl
theorem T148 : T 148 = some ⟨.sc, 1, 8, [(.d (.sc .nilFunc))]⟩ := rfl
theorem T149 : T 149 = some ⟨.sc, 1, 8, [(.d (.sc .nilFunc))]⟩ := rfl
theorem T155 : T 155 = some ⟨.sc, 1, 8, [(.d (.sc .nilFunc))]⟩ := rfl
theorem T159 : T 159 = some ⟨(.pt 5), 1, 8, [(.d (.sc (.pointer none)))]⟩ := rfl
def eqn : Nat → Option Nat
  | 55 => some 2
  | 104 => some 3
  | _ => none
theorem eqn55 : eqn 55 = some 2 := rfl
theorem eqn104 : eqn 104 = some 3 := rfl
theorem ok1 : TIok Try.prog 1 ⟨.sc, 1, 8, [(.d (.sc .nilFunc))]⟩ := TIok.mk' (by kernel_rfl) (by kernel_rfl) rfl ⟨_, Try.underlying1, trivial⟩
theorem ok2 : TIok Try.prog 2 ⟨(.int .i64), 1, 8, [(.d (.sc (.int .i64 0)))]⟩ := TIok.mk' (by kernel_rfl) (by kernel_rfl) rfl Try.underlying2
theorem ok3 : TIok Try.prog 3 ⟨(.int .i64), 1, 8, [(.d (.sc (.int .i64 0)))]⟩ := TIok.mk' (by kernel_rfl) (by kernel_rfl) rfl Try.underlying3
theorem ok4 : TIok Try.prog 4 ⟨.bool, 1, 1, [(.d (.sc (.bool false)))]⟩ := TIok.mk' (by kernel_rfl) (by kernel_rfl) rfl Try.underlying4
theorem ok5 : TIok Try.prog 5 ⟨(.int .u8), 1, 1, [(.d (.sc (.int .u8 0)))]⟩ := TIok.mk' (by kernel_rfl) (by kernel_rfl) rfl Try.underlying5
theorem ok9 : TIok Try.prog 9 ⟨.sc, 1, 16, [(.d (.sc (.string ⟨#[]⟩)))]⟩ := TIok.mk' (by kernel_rfl) (by kernel_rfl) rfl ⟨_, Try.underlying9, trivial⟩
theorem ok12 : TIok Try.prog 12 ⟨(.int .u64), 1, 8, [(.d (.sc (.int .u64 0)))]⟩ := TIok.mk' (by kernel_rfl) (by kernel_rfl) rfl Try.underlying12
theorem ok21 : TIok Try.prog 21 ⟨(.int .i32), 1, 4, [(.d (.sc (.int .i32 0)))]⟩ := TIok.mk' (by kernel_rfl) (by kernel_rfl) rfl Try.underlying21
theorem ok22 : TIok Try.prog 22 ⟨(.sl 55), 1, 24, [(.nil 55)]⟩ := TIok.mk' (by kernel_rfl) (by kernel_rfl) rfl Try.underlying22
theorem ok24 : TIok Try.prog 24 ⟨(.st [(0, 3), (1, 22)]), 2, 32, [(.d (.sc (.int .i64 0))), (.nil 55)]⟩ := TIok.mk' (by kernel_rfl) (by kernel_rfl) rfl ⟨_, Try.underlying24, rfl⟩
theorem ok25 : TIok Try.prog 25 ⟨.sc, 1, 8, [(.d (.sc .nilFunc))]⟩ := TIok.mk' (by kernel_rfl) (by kernel_rfl) rfl ⟨_, Try.underlying25, trivial⟩
theorem ok26 : TIok Try.prog 26 ⟨.sc, 1, 8, [(.d (.sc .nilFunc))]⟩ := TIok.mk' (by kernel_rfl) (by kernel_rfl) rfl ⟨_, Try.underlying26, trivial⟩
theorem ok27 : TIok Try.prog 27 ⟨(.int .i64), 1, 8, [(.d (.sc (.int .i64 0)))]⟩ := TIok.mk' (by kernel_rfl) (by kernel_rfl) rfl Try.underlying27
theorem ok28 : TIok Try.prog 28 ⟨(.sl 3), 1, 24, [(.nil 3)]⟩ := TIok.mk' (by kernel_rfl) (by kernel_rfl) rfl Try.underlying28
theorem ok30 : TIok Try.prog 30 ⟨(.st [(0, 27), (1, 3), (2, 28)]), 3, 40, [(.d (.sc (.int .i64 0))), (.d (.sc (.int .i64 0))), (.nil 3)]⟩ := TIok.mk' (by kernel_rfl) (by kernel_rfl) rfl ⟨_, Try.underlying30, rfl⟩
theorem ok31 : TIok Try.prog 31 ⟨.sc, 1, 8, [(.d (.sc .nilFunc))]⟩ := TIok.mk' (by kernel_rfl) (by kernel_rfl) rfl ⟨_, Try.underlying31, trivial⟩
theorem ok33 : TIok Try.prog 33 ⟨.sc, 1, 8, [(.d (.sc .nilFunc))]⟩ := TIok.mk' (by kernel_rfl) (by kernel_rfl) rfl ⟨_, Try.underlying33, trivial⟩
theorem ok34 : TIok Try.prog 34 ⟨.sc, 1, 8, [(.d (.sc .nilFunc))]⟩ := TIok.mk' (by kernel_rfl) (by kernel_rfl) rfl ⟨_, Try.underlying34, trivial⟩
theorem ok35 : TIok Try.prog 35 ⟨(.pt 43), 1, 8, [(.d (.sc (.pointer none)))]⟩ := TIok.mk' (by kernel_rfl) (by kernel_rfl) rfl Try.underlying35
theorem ok36 : TIok Try.prog 36 ⟨.sc, 1, 8, [(.d (.sc .nilFunc))]⟩ := TIok.mk' (by kernel_rfl) (by kernel_rfl) rfl ⟨_, Try.underlying36, trivial⟩
theorem ok38 : TIok Try.prog 38 ⟨.sc, 1, 8, [(.d (.sc .nilFunc))]⟩ := TIok.mk' (by kernel_rfl) (by kernel_rfl) rfl ⟨_, Try.underlying38, trivial⟩
theorem ok39 : TIok Try.prog 39 ⟨.sc, 1, 8, [(.d (.sc .nilFunc))]⟩ := TIok.mk' (by kernel_rfl) (by kernel_rfl) rfl ⟨_, Try.underlying39, trivial⟩
theorem ok40 : TIok Try.prog 40 ⟨.sc, 1, 8, [(.d (.sc .nilFunc))]⟩ := TIok.mk' (by kernel_rfl) (by kernel_rfl) rfl ⟨_, Try.underlying40, trivial⟩
theorem ok41 : TIok Try.prog 41 ⟨(.sl 28), 1, 24, [(.nil 28)]⟩ := TIok.mk' (by kernel_rfl) (by kernel_rfl) rfl Try.underlying41
theorem ok43 : TIok Try.prog 43 ⟨(.st [(0, 24), (2, 41), (3, 41)]), 4, 80, [(.d (.sc (.int .i64 0))), (.nil 55), (.nil 28), (.nil 28)]⟩ := TIok.mk' (by kernel_rfl) (by kernel_rfl) rfl ⟨_, Try.underlying43, rfl⟩
theorem ok44 : TIok Try.prog 44 ⟨.sc, 1, 8, [(.d (.sc .nilFunc))]⟩ := TIok.mk' (by kernel_rfl) (by kernel_rfl) rfl ⟨_, Try.underlying44, trivial⟩
theorem ok45 : TIok Try.prog 45 ⟨.sc, 1, 8, [(.d (.sc .nilFunc))]⟩ := TIok.mk' (by kernel_rfl) (by kernel_rfl) rfl ⟨_, Try.underlying45, trivial⟩
theorem ok46 : TIok Try.prog 46 ⟨.sc, 1, 8, [(.d (.sc .nilFunc))]⟩ := TIok.mk' (by kernel_rfl) (by kernel_rfl) rfl ⟨_, Try.underlying46, trivial⟩
theorem ok47 : TIok Try.prog 47 ⟨.sc, 1, 8, [(.d (.sc .nilFunc))]⟩ := TIok.mk' (by kernel_rfl) (by kernel_rfl) rfl ⟨_, Try.underlying47, trivial⟩
theorem ok48 : TIok Try.prog 48 ⟨.sc, 1, 8, [(.d (.sc .nilFunc))]⟩ := TIok.mk' (by kernel_rfl) (by kernel_rfl) rfl ⟨_, Try.underlying48, trivial⟩
theorem ok50 : TIok Try.prog 50 ⟨.sc, 1, 8, [(.d (.sc .nilFunc))]⟩ := TIok.mk' (by kernel_rfl) (by kernel_rfl) rfl ⟨_, Try.underlying50, trivial⟩
theorem ok51 : TIok Try.prog 51 ⟨.sc, 1, 8, [(.d (.sc .nilFunc))]⟩ := TIok.mk' (by kernel_rfl) (by kernel_rfl) rfl ⟨_, Try.underlying51, trivial⟩
theorem ok52 : TIok Try.prog 52 ⟨.sc, 1, 8, [(.d (.sc .nilFunc))]⟩ := TIok.mk' (by kernel_rfl) (by kernel_rfl) rfl ⟨_, Try.underlying52, trivial⟩
theorem ok53 : TIok Try.prog 53 ⟨.sc, 1, 8, [(.d (.sc .nilFunc))]⟩ := TIok.mk' (by kernel_rfl) (by kernel_rfl) rfl ⟨_, Try.underlying53, trivial⟩
theorem ok55 : TIok Try.prog 55 ⟨(.st [(0, 3), (1, 3)]), 2, 16, [(.d (.sc (.int .i64 0))), (.d (.sc (.int .i64 0)))]⟩ := TIok.mk' (by kernel_rfl) (by kernel_rfl) rfl ⟨_, Try.underlying55, rfl⟩
theorem ok56 : TIok Try.prog 56 ⟨.sc, 1, 8, [(.d (.sc .nilFunc))]⟩ := TIok.mk' (by kernel_rfl) (by kernel_rfl) rfl ⟨_, Try.underlying56, trivial⟩
theorem ok57 : TIok Try.prog 57 ⟨(.sl 66), 1, 24, [(.nil 66)]⟩ := TIok.mk' (by kernel_rfl) (by kernel_rfl) rfl Try.underlying57
theorem ok58 : TIok Try.prog 58 ⟨(.pt 81), 1, 8, [(.d (.sc (.pointer none)))]⟩ := TIok.mk' (by kernel_rfl) (by kernel_rfl) rfl Try.underlying58
theorem ok60 : TIok Try.prog 60 ⟨.sc, 1, 8, [(.d (.sc .nilFunc))]⟩ := TIok.mk' (by kernel_rfl) (by kernel_rfl) rfl ⟨_, Try.underlying60, trivial⟩
theorem ok61 : TIok Try.prog 61 ⟨(.pt 64), 1, 8, [(.d (.sc (.pointer none)))]⟩ := TIok.mk' (by kernel_rfl) (by kernel_rfl) rfl Try.underlying61
theorem ok62 : TIok Try.prog 62 ⟨(.sl 104), 1, 24, [(.nil 104)]⟩ := TIok.mk' (by kernel_rfl) (by kernel_rfl) rfl Try.underlying62
theorem ok64 : TIok Try.prog 64 ⟨(.st [(0, 24), (2, 62), (3, 28)]), 4, 80, [(.d (.sc (.int .i64 0))), (.nil 55), (.nil 104), (.nil 3)]⟩ := TIok.mk' (by kernel_rfl) (by kernel_rfl) rfl ⟨_, Try.underlying64, rfl⟩
theorem ok66 : TIok Try.prog 66 ⟨(.st [(0, 3), (1, 28)]), 2, 32, [(.d (.sc (.int .i64 0))), (.nil 3)]⟩ := TIok.mk' (by kernel_rfl) (by kernel_rfl) rfl ⟨_, Try.underlying66, rfl⟩
theorem ok68 : TIok Try.prog 68 ⟨.sc, 1, 8, [(.d (.sc .nilFunc))]⟩ := TIok.mk' (by kernel_rfl) (by kernel_rfl) rfl ⟨_, Try.underlying68, trivial⟩
theorem ok70 : TIok Try.prog 70 ⟨.sc, 1, 8, [(.d (.sc .nilFunc))]⟩ := TIok.mk' (by kernel_rfl) (by kernel_rfl) rfl ⟨_, Try.underlying70, trivial⟩
theorem ok71 : TIok Try.prog 71 ⟨.sc, 1, 8, [(.d (.sc .nilFunc))]⟩ := TIok.mk' (by kernel_rfl) (by kernel_rfl) rfl ⟨_, Try.underlying71, trivial⟩
theorem ok72 : TIok Try.prog 72 ⟨.sc, 1, 8, [(.d (.sc .nilFunc))]⟩ := TIok.mk' (by kernel_rfl) (by kernel_rfl) rfl ⟨_, Try.underlying72, trivial⟩
theorem ok73 : TIok Try.prog 73 ⟨.sc, 1, 8, [(.d (.sc .nilFunc))]⟩ := TIok.mk' (by kernel_rfl) (by kernel_rfl) rfl ⟨_, Try.underlying73, trivial⟩
theorem ok74 : TIok Try.prog 74 ⟨.sc, 1, 8, [(.d (.sc .nilFunc))]⟩ := TIok.mk' (by kernel_rfl) (by kernel_rfl) rfl ⟨_, Try.underlying74, trivial⟩
theorem ok75 : TIok Try.prog 75 ⟨.sc, 1, 8, [(.d (.sc .nilFunc))]⟩ := TIok.mk' (by kernel_rfl) (by kernel_rfl) rfl ⟨_, Try.underlying75, trivial⟩
theorem ok76 : TIok Try.prog 76 ⟨.sc, 1, 8, [(.d (.sc .nilFunc))]⟩ := TIok.mk' (by kernel_rfl) (by kernel_rfl) rfl ⟨_, Try.underlying76, trivial⟩
theorem ok77 : TIok Try.prog 77 ⟨.sc, 1, 8, [(.d (.sc .nilFunc))]⟩ := TIok.mk' (by kernel_rfl) (by kernel_rfl) rfl ⟨_, Try.underlying77, trivial⟩
theorem ok79 : TIok Try.prog 79 ⟨(.st [(0, 62)]), 1, 24, [(.nil 104)]⟩ := TIok.mk' (by kernel_rfl) (by kernel_rfl) rfl ⟨_, Try.underlying79, rfl⟩
theorem ok81 : TIok Try.prog 81 ⟨(.st [(0, 79), (1, 35), (2, 28)]), 3, 56, [(.nil 104), (.d (.sc (.pointer none))), (.nil 3)]⟩ := TIok.mk' (by kernel_rfl) (by kernel_rfl) rfl ⟨_, Try.underlying81, rfl⟩
theorem ok82 : TIok Try.prog 82 ⟨.sc, 1, 8, [(.d (.sc .nilFunc))]⟩ := TIok.mk' (by kernel_rfl) (by kernel_rfl) rfl ⟨_, Try.underlying82, trivial⟩
theorem ok83 : TIok Try.prog 83 ⟨.sc, 1, 8, [(.d (.sc .nilFunc))]⟩ := TIok.mk' (by kernel_rfl) (by kernel_rfl) rfl ⟨_, Try.underlying83, trivial⟩
theorem ok84 : TIok Try.prog 84 ⟨.sc, 1, 8, [(.d (.sc .nilFunc))]⟩ := TIok.mk' (by kernel_rfl) (by kernel_rfl) rfl ⟨_, Try.underlying84, trivial⟩
theorem ok85 : TIok Try.prog 85 ⟨.sc, 1, 8, [(.d (.sc .nilFunc))]⟩ := TIok.mk' (by kernel_rfl) (by kernel_rfl) rfl ⟨_, Try.underlying85, trivial⟩
theorem ok86 : TIok Try.prog 86 ⟨.sc, 1, 8, [(.d (.sc .nilFunc))]⟩ := TIok.mk' (by kernel_rfl) (by kernel_rfl) rfl ⟨_, Try.underlying86, trivial⟩
theorem ok87 : TIok Try.prog 87 ⟨.sc, 1, 8, [(.d (.sc .nilFunc))]⟩ := TIok.mk' (by kernel_rfl) (by kernel_rfl) rfl ⟨_, Try.underlying87, trivial⟩
theorem ok88 : TIok Try.prog 88 ⟨.sc, 1, 8, [(.d (.sc .nilFunc))]⟩ := TIok.mk' (by kernel_rfl) (by kernel_rfl) rfl ⟨_, Try.underlying88, trivial⟩
theorem ok89 : TIok Try.prog 89 ⟨.sc, 1, 8, [(.d (.sc .nilFunc))]⟩ := TIok.mk' (by kernel_rfl) (by kernel_rfl) rfl ⟨_, Try.underlying89, trivial⟩
theorem ok91 : TIok Try.prog 91 ⟨.sc, 1, 8, [(.d (.sc .nilFunc))]⟩ := TIok.mk' (by kernel_rfl) (by kernel_rfl) rfl ⟨_, Try.underlying91, trivial⟩
theorem ok92 : TIok Try.prog 92 ⟨.sc, 1, 8, [(.d (.sc .nilFunc))]⟩ := TIok.mk' (by kernel_rfl) (by kernel_rfl) rfl ⟨_, Try.underlying92, trivial⟩
theorem ok93 : TIok Try.prog 93 ⟨.sc, 1, 8, [(.d (.sc .nilFunc))]⟩ := TIok.mk' (by kernel_rfl) (by kernel_rfl) rfl ⟨_, Try.underlying93, trivial⟩
theorem ok94 : TIok Try.prog 94 ⟨.sc, 1, 8, [(.d (.sc .nilFunc))]⟩ := TIok.mk' (by kernel_rfl) (by kernel_rfl) rfl ⟨_, Try.underlying94, trivial⟩
theorem ok95 : TIok Try.prog 95 ⟨.sc, 1, 8, [(.d (.sc .nilFunc))]⟩ := TIok.mk' (by kernel_rfl) (by kernel_rfl) rfl ⟨_, Try.underlying95, trivial⟩
theorem ok96 : TIok Try.prog 96 ⟨.sc, 1, 8, [(.d (.sc .nilFunc))]⟩ := TIok.mk' (by kernel_rfl) (by kernel_rfl) rfl ⟨_, Try.underlying96, trivial⟩
theorem ok97 : TIok Try.prog 97 ⟨.sc, 1, 8, [(.d (.sc .nilFunc))]⟩ := TIok.mk' (by kernel_rfl) (by kernel_rfl) rfl ⟨_, Try.underlying97, trivial⟩
theorem ok98 : TIok Try.prog 98 ⟨.sc, 1, 8, [(.d (.sc .nilFunc))]⟩ := TIok.mk' (by kernel_rfl) (by kernel_rfl) rfl ⟨_, Try.underlying98, trivial⟩
theorem ok100 : TIok Try.prog 100 ⟨.sc, 1, 8, [(.d (.sc .nilFunc))]⟩ := TIok.mk' (by kernel_rfl) (by kernel_rfl) rfl ⟨_, Try.underlying100, trivial⟩
theorem ok101 : TIok Try.prog 101 ⟨.sc, 1, 8, [(.d (.sc .nilFunc))]⟩ := TIok.mk' (by kernel_rfl) (by kernel_rfl) rfl ⟨_, Try.underlying101, trivial⟩
theorem ok102 : TIok Try.prog 102 ⟨.sc, 1, 8, [(.d (.sc .nilFunc))]⟩ := TIok.mk' (by kernel_rfl) (by kernel_rfl) rfl ⟨_, Try.underlying102, trivial⟩
theorem ok104 : TIok Try.prog 104 ⟨(.st [(0, 3), (1, 3), (2, 3)]), 3, 24, [(.d (.sc (.int .i64 0))), (.d (.sc (.int .i64 0))), (.d (.sc (.int .i64 0)))]⟩ := TIok.mk' (by kernel_rfl) (by kernel_rfl) rfl ⟨_, Try.underlying104, rfl⟩
theorem ok105 : TIok Try.prog 105 ⟨(.pt 79), 1, 8, [(.d (.sc (.pointer none)))]⟩ := TIok.mk' (by kernel_rfl) (by kernel_rfl) rfl Try.underlying105
theorem ok106 : TIok Try.prog 106 ⟨.sc, 1, 8, [(.d (.sc .nilFunc))]⟩ := TIok.mk' (by kernel_rfl) (by kernel_rfl) rfl ⟨_, Try.underlying106, trivial⟩
theorem ok107 : TIok Try.prog 107 ⟨.sc, 1, 8, [(.d (.sc .nilFunc))]⟩ := TIok.mk' (by kernel_rfl) (by kernel_rfl) rfl ⟨_, Try.underlying107, trivial⟩
theorem ok108 : TIok Try.prog 108 ⟨.sc, 1, 8, [(.d (.sc .nilFunc))]⟩ := TIok.mk' (by kernel_rfl) (by kernel_rfl) rfl ⟨_, Try.underlying108, trivial⟩
theorem ok109 : TIok Try.prog 109 ⟨.sc, 1, 8, [(.d (.sc .nilFunc))]⟩ := TIok.mk' (by kernel_rfl) (by kernel_rfl) rfl ⟨_, Try.underlying109, trivial⟩
theorem ok110 : TIok Try.prog 110 ⟨.sc, 1, 8, [(.d (.sc .nilFunc))]⟩ := TIok.mk' (by kernel_rfl) (by kernel_rfl) rfl ⟨_, Try.underlying110, trivial⟩
theorem ok111 : TIok Try.prog 111 ⟨.sc, 1, 8, [(.d (.sc .nilFunc))]⟩ := TIok.mk' (by kernel_rfl) (by kernel_rfl) rfl ⟨_, Try.underlying111, trivial⟩
theorem ok112 : TIok Try.prog 112 ⟨.sc, 1, 8, [(.d (.sc .nilFunc))]⟩ := TIok.mk' (by kernel_rfl) (by kernel_rfl) rfl ⟨_, Try.underlying112, trivial⟩
theorem ok113 : TIok Try.prog 113 ⟨.sc, 1, 8, [(.d (.sc .nilFunc))]⟩ := TIok.mk' (by kernel_rfl) (by kernel_rfl) rfl ⟨_, Try.underlying113, trivial⟩
theorem ok114 : TIok Try.prog 114 ⟨(.sl 4), 1, 24, [(.nil 4)]⟩ := TIok.mk' (by kernel_rfl) (by kernel_rfl) rfl Try.underlying114
theorem ok115 : TIok Try.prog 115 ⟨.sc, 1, 8, [(.d (.sc .nilFunc))]⟩ := TIok.mk' (by kernel_rfl) (by kernel_rfl) rfl ⟨_, Try.underlying115, trivial⟩
theorem ok116 : TIok Try.prog 116 ⟨.sc, 1, 8, [(.d (.sc .nilFunc))]⟩ := TIok.mk' (by kernel_rfl) (by kernel_rfl) rfl ⟨_, Try.underlying116, trivial⟩
theorem ok117 : TIok Try.prog 117 ⟨.sc, 1, 8, [(.d (.sc .nilFunc))]⟩ := TIok.mk' (by kernel_rfl) (by kernel_rfl) rfl ⟨_, Try.underlying117, trivial⟩
theorem ok118 : TIok Try.prog 118 ⟨.sc, 1, 8, [(.d (.sc .nilFunc))]⟩ := TIok.mk' (by kernel_rfl) (by kernel_rfl) rfl ⟨_, Try.underlying118, trivial⟩
theorem ok119 : TIok Try.prog 119 ⟨.sc, 1, 8, [(.d (.sc .nilFunc))]⟩ := TIok.mk' (by kernel_rfl) (by kernel_rfl) rfl ⟨_, Try.underlying119, trivial⟩
theorem ok120 : TIok Try.prog 120 ⟨.sc, 1, 8, [(.d (.sc .nilFunc))]⟩ := TIok.mk' (by kernel_rfl) (by kernel_rfl) rfl ⟨_, Try.underlying120, trivial⟩
theorem ok121 : TIok Try.prog 121 ⟨.sc, 1, 8, [(.d (.sc .nilFunc))]⟩ := TIok.mk' (by kernel_rfl) (by kernel_rfl) rfl ⟨_, Try.underlying121, trivial⟩
theorem ok122 : TIok Try.prog 122 ⟨.sc, 1, 8, [(.d (.sc .nilFunc))]⟩ := TIok.mk' (by kernel_rfl) (by kernel_rfl) rfl ⟨_, Try.underlying122, trivial⟩
theorem ok123 : TIok Try.prog 123 ⟨.sc, 1, 8, [(.d (.sc .nilFunc))]⟩ := TIok.mk' (by kernel_rfl) (by kernel_rfl) rfl ⟨_, Try.underlying123, trivial⟩
theorem ok124 : TIok Try.prog 124 ⟨(.int .u64), 1, 8, [(.d (.sc (.int .u64 0)))]⟩ := TIok.mk' (by kernel_rfl) (by kernel_rfl) rfl Try.underlying124
theorem ok125 : TIok Try.prog 125 ⟨(.sl 62), 1, 24, [(.nil 62)]⟩ := TIok.mk' (by kernel_rfl) (by kernel_rfl) rfl Try.underlying125
theorem ok126 : TIok Try.prog 126 ⟨.sc, 1, 8, [(.d (.sc .nilFunc))]⟩ := TIok.mk' (by kernel_rfl) (by kernel_rfl) rfl ⟨_, Try.underlying126, trivial⟩
theorem ok127 : TIok Try.prog 127 ⟨.sc, 1, 8, [(.d (.sc .nilFunc))]⟩ := TIok.mk' (by kernel_rfl) (by kernel_rfl) rfl ⟨_, Try.underlying127, trivial⟩
theorem ok128 : TIok Try.prog 128 ⟨.sc, 1, 8, [(.d (.sc .nilFunc))]⟩ := TIok.mk' (by kernel_rfl) (by kernel_rfl) rfl ⟨_, Try.underlying128, trivial⟩
theorem ok129 : TIok Try.prog 129 ⟨(.int .i64), 1, 8, [(.d (.sc (.int .i64 0)))]⟩ := TIok.mk' (by kernel_rfl) (by kernel_rfl) rfl Try.underlying129
theorem ok131 : TIok Try.prog 131 ⟨.sc, 1, 8, [(.d (.sc .nilFunc))]⟩ := TIok.mk' (by kernel_rfl) (by kernel_rfl) rfl ⟨_, Try.underlying131, trivial⟩
theorem ok132 : TIok Try.prog 132 ⟨.sc, 1, 8, [(.d (.sc .nilFunc))]⟩ := TIok.mk' (by kernel_rfl) (by kernel_rfl) rfl ⟨_, Try.underlying132, trivial⟩
theorem ok133 : TIok Try.prog 133 ⟨.sc, 1, 8, [(.d (.sc .nilFunc))]⟩ := TIok.mk' (by kernel_rfl) (by kernel_rfl) rfl ⟨_, Try.underlying133, trivial⟩
theorem ok135 : TIok Try.prog 135 ⟨.sc, 1, 8, [(.d (.sc .nilFunc))]⟩ := TIok.mk' (by kernel_rfl) (by kernel_rfl) rfl ⟨_, Try.underlying135, trivial⟩
theorem ok136 : TIok Try.prog 136 ⟨.sc, 1, 8, [(.d (.sc .nilFunc))]⟩ := TIok.mk' (by kernel_rfl) (by kernel_rfl) rfl ⟨_, Try.underlying136, trivial⟩
theorem ok137 : TIok Try.prog 137 ⟨(.int .u32), 1, 4, [(.d (.sc (.int .u32 0)))]⟩ := TIok.mk' (by kernel_rfl) (by kernel_rfl) rfl Try.underlying137
theorem ok138 : TIok Try.prog 138 ⟨.sc, 1, 8, [(.d (.sc .nilFunc))]⟩ := TIok.mk' (by kernel_rfl) (by kernel_rfl) rfl ⟨_, Try.underlying138, trivial⟩
theorem ok139 : TIok Try.prog 139 ⟨(.int .u64), 1, 8, [(.d (.sc (.int .u64 0)))]⟩ := TIok.mk' (by kernel_rfl) (by kernel_rfl) rfl Try.underlying139
theorem ok140 : TIok Try.prog 140 ⟨(.int .u64), 1, 8, [(.d (.sc (.int .u64 0)))]⟩ := TIok.mk' (by kernel_rfl) (by kernel_rfl) rfl Try.underlying140
theorem ok141 : TIok Try.prog 141 ⟨.sc, 1, 8, [(.d (.sc .nilFunc))]⟩ := TIok.mk' (by kernel_rfl) (by kernel_rfl) rfl ⟨_, Try.underlying141, trivial⟩
theorem ok142 : TIok Try.prog 142 ⟨.sc, 1, 8, [(.d (.sc .nilFunc))]⟩ := TIok.mk' (by kernel_rfl) (by kernel_rfl) rfl ⟨_, Try.underlying142, trivial⟩
theorem ok143 : TIok Try.prog 143 ⟨.sc, 1, 8, [(.d (.sc .nilFunc))]⟩ := TIok.mk' (by kernel_rfl) (by kernel_rfl) rfl ⟨_, Try.underlying143, trivial⟩
theorem ok144 : TIok Try.prog 144 ⟨(.pt 3), 1, 8, [(.d (.sc (.pointer none)))]⟩ := TIok.mk' (by kernel_rfl) (by kernel_rfl) rfl Try.underlying144
theorem ok145 : TIok Try.prog 145 ⟨.sc, 1, 8, [(.d (.sc .nilFunc))]⟩ := TIok.mk' (by kernel_rfl) (by kernel_rfl) rfl ⟨_, Try.underlying145, trivial⟩
theorem ok146 : TIok Try.prog 146 ⟨(.pt 140), 1, 8, [(.d (.sc (.pointer none)))]⟩ := TIok.mk' (by kernel_rfl) (by kernel_rfl) rfl Try.underlying146
theorem ok148 : TIok Try.prog 148 ⟨.sc, 1, 8, [(.d (.sc .nilFunc))]⟩ := TIok.mk' (by kernel_rfl) (by kernel_rfl) rfl ⟨_, Try.underlying148, trivial⟩
theorem ok149 : TIok Try.prog 149 ⟨.sc, 1, 8, [(.d (.sc .nilFunc))]⟩ := TIok.mk' (by kernel_rfl) (by kernel_rfl) rfl ⟨_, Try.underlying149, trivial⟩
theorem ok155 : TIok Try.prog 155 ⟨.sc, 1, 8, [(.d (.sc .nilFunc))]⟩ := TIok.mk' (by kernel_rfl) (by kernel_rfl) rfl ⟨_, Try.underlying155, trivial⟩
theorem ok159 : TIok Try.prog 159 ⟨(.pt 5), 1, 8, [(.d (.sc (.pointer none)))]⟩ := TIok.mk' (by kernel_rfl) (by kernel_rfl) rfl Try.underlying159
theorem eq55 : EqOk Try.prog 55 2 := EqOk.two (by kernel_rfl) (by kernel_rfl) Try.underlying55 (by decide) rfl Try.underlying3 (by decide) rfl Try.underlying3
theorem eq104 : EqOk Try.prog 104 3 := EqOk.three (by kernel_rfl) (by kernel_rfl) Try.underlying104 (by decide) rfl Try.underlying3 (by decide) rfl Try.underlying3 (by decide) rfl Try.underlying3
theorem okT : ∀ t ti, T t = some ti → TIok Try.prog t ti := by
  intro t ti h
  unfold T at h
  split at h
  · cases h; exact ok1
  · cases h; exact ok2
  · cases h; exact ok3
  · cases h; exact ok4
  · cases h; exact ok5
  · cases h; exact ok9
  · cases h; exact ok12
  · cases h; exact ok21
  · cases h; exact ok22
  · cases h; exact ok24
  · cases h; exact ok25
  · cases h; exact ok26
  · cases h; exact ok27
  · cases h; exact ok28
  · cases h; exact ok30
  · cases h; exact ok31
  · cases h; exact ok33
  · cases h; exact ok34
  · cases h; exact ok35
  · cases h; exact ok36
  · cases h; exact ok38
  · cases h; exact ok39
  · cases h; exact ok40
  · cases h; exact ok41
  · cases h; exact ok43
  · cases h; exact ok44
  · cases h; exact ok45
  · cases h; exact ok46
  · cases h; exact ok47
  · cases h; exact ok48
  · cases h; exact ok50
  · cases h; exact ok51
  · cases h; exact ok52
  · cases h; exact ok53
  · cases h; exact ok55
  · cases h; exact ok56
  · cases h; exact ok57
  · cases h; exact ok58
  · cases h; exact ok60
  · cases h; exact ok61
  · cases h; exact ok62
  · cases h; exact ok64
  · cases h; exact ok66
  · cases h; exact ok68
  · cases h; exact ok70
  · cases h; exact ok71
  · cases h; exact ok72
  · cases h; exact ok73
  · cases h; exact ok74
  · cases h; exact ok75
  · cases h; exact ok76
  · cases h; exact ok77
  · cases h; exact ok79
  · cases h; exact ok81
  · cases h; exact ok82
  · cases h; exact ok83
  · cases h; exact ok84
  · cases h; exact ok85
  · cases h; exact ok86
  · cases h; exact ok87
  · cases h; exact ok88
  · cases h; exact ok89
  · cases h; exact ok91
  · cases h; exact ok92
  · cases h; exact ok93
  · cases h; exact ok94
  · cases h; exact ok95
  · cases h; exact ok96
  · cases h; exact ok97
  · cases h; exact ok98
  · cases h; exact ok100
  · cases h; exact ok101
  · cases h; exact ok102
  · cases h; exact ok104
  · cases h; exact ok105
  · cases h; exact ok106
  · cases h; exact ok107
  · cases h; exact ok108
  · cases h; exact ok109
  · cases h; exact ok110
  · cases h; exact ok111
  · cases h; exact ok112
  · cases h; exact ok113
  · cases h; exact ok114
  · cases h; exact ok115
  · cases h; exact ok116
  · cases h; exact ok117
  · cases h; exact ok118
  · cases h; exact ok119
  · cases h; exact ok120
  · cases h; exact ok121
  · cases h; exact ok122
  · cases h; exact ok123
  · cases h; exact ok124
  · cases h; exact ok125
  · cases h; exact ok126
  · cases h; exact ok127
  · cases h; exact ok128
  · cases h; exact ok129
  · cases h; exact ok131
  · cases h; exact ok132
  · cases h; exact ok133
  · cases h; exact ok135
  · cases h; exact ok136
  · cases h; exact ok137
  · cases h; exact ok138
  · cases h; exact ok139
  · cases h; exact ok140
  · cases h; exact ok141
  · cases h; exact ok142
  · cases h; exact ok143
  · cases h; exact ok144
  · cases h; exact ok145
  · cases h; exact ok146
  · cases h; exact ok148
  · cases h; exact ok149
  · cases h; exact ok155
  · cases h; exact ok159
  · cases h
theorem okE : ∀ t n, eqn t = some n → EqOk Try.prog t n := by
  intro t n h
  unfold eqn at h
  split at h
  · cases h; exact eq55
  · cases h; exact eq104
  · cases h
def cfg (own nst : List Nat) : Cfg := ⟨T, own, eqn, nst⟩
theorem cfg_T (own nst : List Nat) : (cfg own nst).T = T := rfl
theorem cfg_own (own nst : List Nat) : (cfg own nst).own = own := rfl
theorem cfg_nst (own nst : List Nat) : (cfg own nst).nst = nst := rfl
theorem cfg_eqn (own nst : List Nat) : (cfg own nst).eqn = eqn := rfl
theorem cfg_ok (own nst : List Nat) : (cfg own nst).Ok Try.prog := ⟨okT, okE⟩
theorem mixed : Try.prog.follows .mixedOrders = true := by kernel_rfl
attribute [go_sem] T1 T2 T3 T4 T5 T9 T12 T21 T22 T24 T25 T26 T27 T28 T30 T31 T33 T34 T35 T36 T38 T39 T40 T41 T43 T44 T45 T46 T47 T48 T50 T51 T52 T53 T55 T56 T57 T58 T60 T61 T62 T64 T66 T68 T70 T71 T72 T73 T74 T75 T76 T77 T79 T81 T82 T83 T84 T85 T86 T87 T88 T89 T91 T92 T93 T94 T95 T96 T97 T98 T100 T101 T102 T104 T105 T106 T107 T108 T109 T110 T111 T112 T113 T114 T115 T116 T117 T118 T119 T120 T121 T122 T123 T124 T125 T126 T127 T128 T129 T131 T132 T133 T135 T136 T137 T138 T139 T140 T141 T142 T143 T144 T145 T146 T148 T149 T155 T159 eqn55 eqn104 cfg_T cfg_own cfg_nst cfg_eqn
end Go.Ab.T
end
section
namespace Go.Ab
open Go.Proofs
attribute [local congr] ACall.congr
set_option maxRecDepth 10000

def eN (n : Int) : AV := .d (.sc (.int .i64 n))
def eB (b : Bool) : AV := .d (.sc (.bool b))
abbrev Edge := Int × Int
structure Gr where
  n : Int
  es : List Edge
def rE (e : Edge) : List D := [.sc (.int .i64 e.1), .sc (.int .i64 e.2)]
def rI (n : Int) : List D := [.sc (.int .i64 n)]
def eE (e : Edge) : AV := .agg [.d (.sc (.int .i64 e.1)), .d (.sc (.int .i64 e.2))]
def sE (es : List Edge) : D := .sl 2 (es.map rE)
def sI (l : List Int) : D := .sl 1 (l.map rI)
def eG (g : Gr) : AV := .agg [eN g.n, .d (sE g.es)]
attribute [go_sem] eN eB eE sE sI eG Args AVrs
theorem getD_rE (ps : List Edge) (i : Nat) : (ps.map rE).getD i [.sc (.int .i64 0), .sc (.int .i64 0)] = [.sc (.int .i64 (ps.getD i (0, 0)).1), .sc (.int .i64 (ps.getD i (0, 0)).2)] := by
  simp only [List.getD_eq_getElem?_getD, List.getElem?_map]
  cases ps[i]? <;> rfl
theorem getD_rI (ps : List Int) (i : Nat) : (ps.map rI).getD i [.sc (.int .i64 0)] = [.sc (.int .i64 (ps.getD i 0))] := by
  simp only [List.getD_eq_getElem?_getD, List.getElem?_map]
  cases ps[i]? <;> rfl
theorem set_rI (l : List Int) (k : Nat) (v : Int) : (l.map rI).set k [.sc (.int .i64 v)] = (l.set k v).map rI := by
  rw [List.map_set]; rfl
attribute [go_sem] getD_rE getD_rI Int.toNat_natCast List.length_set

/-- Whole numbers that a machine has. -/
def I64 (n : Int) : Prop := -9223372036854775808 ≤ n ∧ n ≤ 9223372036854775807
def Len (n : Nat) : Prop := n ≤ 9223372036854775807
end Go.Ab
end
section
namespace Go.Ab
open Go.Proofs
attribute [local congr] ACall.congr
set_option maxRecDepth 10000

/-- Where the first one is that is meant; less than 0: nowhere. -/
def findI {α : Type} (g : α → Bool) (ps : List α) : Int := match ps.findIdx? g with | some i => i | none => -1
theorem findI_none {α : Type} {g : α → Bool} {ps : List α} (d : α) (h : ∀ j, j < ps.length → g (ps.getD j d) = false) : findI g ps = -1 := by
  have : ps.findIdx? g = none := by
    rw [List.findIdx?_eq_none_iff]
    intro x hx
    obtain ⟨j, hj, rfl⟩ := List.getElem_of_mem hx
    simpa [List.getD_eq_getElem?_getD, List.getElem?_eq_getElem hj] using h j hj
  simp [findI, this]
theorem findI_at {α : Type} {g : α → Bool} {ps : List α} {d : α} {k : Nat} (hk : k < ps.length) (h : ∀ j, j < k → g (ps.getD j d) = false) (hg : g (ps.getD k d) = true) : findI g ps = k := by
  have : ps.findIdx? g = some k := by
    rw [List.findIdx?_eq_some_iff_getElem]
    refine ⟨hk, by simpa [List.getD_eq_getElem?_getD, List.getElem?_eq_getElem hk] using hg, fun j hj => ?_⟩
    have := h j hj
    simpa [List.getD_eq_getElem?_getD, List.getElem?_eq_getElem (Nat.lt_trans hj hk)] using this
  simp [findI, this]
theorem findI_any {α : Type} (g : α → Bool) (ps : List α) : decide (0 ≤ findI g ps) = ps.any g := by
  cases h : ps.findIdx? g with
  | none =>
    have : findI g ps = -1 := by simp [findI, h]
    rw [this]
    rw [List.findIdx?_eq_none_iff] at h
    symm
    simpa using h
  | some i =>
    have : findI g ps = i := by simp [findI, h]
    rw [this]
    obtain ⟨hi, hg, _⟩ := List.findIdx?_eq_some_iff_getElem.1 h
    have : ps.any g = true := List.any_eq_true.2 ⟨_, List.getElem_mem hi, hg⟩
    rw [this]; simp
theorem findI_range {α : Type} (g : α → Bool) (ps : List α) : findI g ps = -1 ∨ (0 ≤ findI g ps ∧ findI g ps < ps.length) := by
  cases h : ps.findIdx? g with
  | none => exact .inl (by simp [findI, h])
  | some i =>
    obtain ⟨hi, hg, _⟩ := List.findIdx?_eq_some_iff_getElem.1 h
    exact .inr (by simp [findI, h]; omega)

theorem leR_self (rn : List (Nat × Nat)) (h0 : rn = []) {m : List (Nat × AObj)} : ∀ {r : List (Nat × AObj)}, (∀ p ∈ r, look m p.1 = some p.2) → leR m rn r
  | [], _ => trivial
  | p :: r, h => by
    subst h0
    have h1 := h p List.mem_cons_self
    refine ⟨?_, leR_self [] rfl fun q hq => h q (List.mem_cons_of_mem _ hq)⟩
    have e : renO [] p.2 = p.2 := rfl
    show look m p.1 = some (renO [] p.2)
    rw [e]; exact h1
theorem leR_robs {m : List (Nat × AObj)} (h : Robs m) : leR m [] m := leR_self [] rfl fun _ hp => mem_look h.nd hp
theorem indexFuncE_spec {m : List (Nat × AObj)} (hR : Robs m) (f : Nat) (caps : List AV) (g : Edge → Bool) (hf : ∀ p, Spec Try.prog f (Args (eE p :: caps)) m (eB (g p)) m) (ps : List Edge) (hl : ps.length ≤ 9223372036854775807) :
    Spec Try.prog 51 (Args [.d (sE ps), .fn f [] caps]) m (eN (findI g ps)) m := by
  (refine Spec.intro (C := T.cfg [] []) (rs := [.t 4]) (T.cfg_ok _ _) Try.func51 rfl rfl Try.ntmps51 Try.results51 (fun p hp => ⟨(Robs.low hR p hp).1, Robs.nest hR p hp⟩) (fun p hp => ⟨(Robs.low hR p hp).2, Robs.nest hR p hp⟩) (by kernel_rfl) ?_; intro X hX hP hC hXn hXm vals hA; refine ⟨_, by simp, hA, ?_⟩; have hmix : X.P.follows .mixedOrders = true := (by rw [hP]; exact T.mixed); clear hXn hXm)
  repeat' (first | fail | ((first | ((with_reducible (first | apply oA | apply oB)); exact rfl; intro K hK) | (refine hK _ ?_; clear hK K) | ((with_reducible (first | apply oG | apply oH)); iterate 3 exact rfl) | ((with_reducible apply oI); (iterate 2 exact rfl); intro K hK) | (with_reducible (first | apply wI | apply wJ | apply wK))); try simp only [go_sem, simprocAttr]) | fail | (with_reducible (first | apply oC | apply oJ | exact oK | apply wA | apply wB | apply wC hX hC | apply wD hX hC | apply wE hX hC hmix | apply wF hX hC hmix | apply wG | apply wH | apply And.intro)) | ((with_reducible refine oD ?_ ?_); first | fail | kernel_rfl) | ((with_reducible (first | apply oE | apply oF)); (iterate 3 exact rfl); all_goals (intro h; first | (exact absurd h (by decide)) | ((try simp only [go_sem, simprocAttr] at h); (try with_reducible intro K hK); simp only [go_sem, simprocAttr]))) | ((first | ((with_reducible apply wL); exact rfl) | ((with_reducible apply wM); exact rfl)); all_goals (try ((with_reducible intro h); first | (exact absurd h (by decide)) | (try simp only [go_sem, simprocAttr] at h)))) | omega | ((first | (first | (refine acall_same hX hC hP hR (hf _) rfl rfl rfl ?_ ?_ rfl rfl ?_; (focus (simp only [go_sem, simprocAttr]; done)); (focus (first | (intro p hp; exact mem_look (Robs.nd hR) hp) | (simp [go_sem, simprocAttr]; done)))) | (refine acall_same hX hC hP hR (hf _) rfl rfl rfl ?_ ?_ ?_ rfl ?_; (focus (simp only [go_sem, simprocAttr]; done)); (focus (first | (intro p hp; exact mem_look (Robs.nd hR) hp) | (simp [go_sem, simprocAttr]; done))); (focus (simp [go_sem, simprocAttr]; done))))); try simp only [go_sem, simprocAttr]) | (intro h))
  refine awp_loopP (fun k : Nat => k ≤ ps.length ∧ ∀ j, j < k → g (ps.getD j (0, 0)) = false) (fun k => ⟨[(0, .d (sE ps)), (1, .fn f [] caps), (7, eN ps.length), (8, eN k)], m⟩) (fun k => ps.length - k) 0 (by simp) ?_ ?_
  · (refine ⟨leT_spec ?_, fun _ _ h => h⟩; simp [go_sem, simprocAttr])
  rintro k ⟨hk, hg⟩
  repeat' (first | fail | ((first | ((with_reducible (first | apply oA | apply oB)); exact rfl; intro K hK) | (refine hK _ ?_; clear hK K) | ((with_reducible (first | apply oG | apply oH)); iterate 3 exact rfl) | ((with_reducible apply oI); (iterate 2 exact rfl); intro K hK) | (with_reducible (first | apply wI | apply wJ | apply wK))); try simp only [go_sem, simprocAttr]) | fail | (with_reducible (first | apply oC | apply oJ | exact oK | apply wA | apply wB | apply wC hX hC | apply wD hX hC | apply wE hX hC hmix | apply wF hX hC hmix | apply wG | apply wH | apply And.intro)) | ((with_reducible refine oD ?_ ?_); first | fail | kernel_rfl) | ((with_reducible (first | apply oE | apply oF)); (iterate 3 exact rfl); all_goals (intro h; first | (exact absurd h (by decide)) | ((try simp only [go_sem, simprocAttr] at h); (try with_reducible intro K hK); simp only [go_sem, simprocAttr]))) | ((first | ((with_reducible apply wL); exact rfl) | ((with_reducible apply wM); exact rfl)); all_goals (try ((with_reducible intro h); first | (exact absurd h (by decide)) | (try simp only [go_sem, simprocAttr] at h)))) | omega | ((first | (first | (refine acall_same hX hC hP hR (hf _) rfl rfl rfl ?_ ?_ rfl rfl ?_; (focus (simp only [go_sem, simprocAttr]; done)); (focus (first | (intro p hp; exact mem_look (Robs.nd hR) hp) | (simp [go_sem, simprocAttr]; done)))) | (refine acall_same hX hC hP hR (hf _) rfl rfl rfl ?_ ?_ ?_ rfl ?_; (focus (simp only [go_sem, simprocAttr]; done)); (focus (first | (intro p hp; exact mem_look (Robs.nd hR) hp) | (simp [go_sem, simprocAttr]; done))); (focus (simp [go_sem, simprocAttr]; done))))); try simp only [go_sem, simprocAttr]) | (intro h))
  · exact (findI_at (by omega) hg h).symm
  · exact leR_robs hR
  · refine ⟨k + 1, ⟨by omega, fun j hj => ?_⟩, ?_, by omega⟩
    · by_cases hjk : j = k
      · subst hjk; exact h
      · exact hg j (by omega)
    · (refine ⟨leT_spec ?_, fun _ _ h => h⟩; simp [go_sem, simprocAttr])
  · exact (findI_none (0, 0) fun j hj => hg j (by omega)).symm
  · exact leR_robs hR
theorem indexFuncI_spec {m : List (Nat × AObj)} (hR : Robs m) (f : Nat) (caps : List AV) (g : Int → Bool) (hf : ∀ p, Spec Try.prog f (Args (eN p :: caps)) m (eB (g p)) m) (ps : List Int) (hl : ps.length ≤ 9223372036854775807) :
    Spec Try.prog 77 (Args [.d (sI ps), .fn f [] caps]) m (eN (findI g ps)) m := by
  (refine Spec.intro (C := T.cfg [] []) (rs := [.t 4]) (T.cfg_ok _ _) Try.func77 rfl rfl Try.ntmps77 Try.results77 (fun p hp => ⟨(Robs.low hR p hp).1, Robs.nest hR p hp⟩) (fun p hp => ⟨(Robs.low hR p hp).2, Robs.nest hR p hp⟩) (by kernel_rfl) ?_; intro X hX hP hC hXn hXm vals hA; refine ⟨_, by simp, hA, ?_⟩; have hmix : X.P.follows .mixedOrders = true := (by rw [hP]; exact T.mixed); clear hXn hXm)
  repeat' (first | fail | ((first | ((with_reducible (first | apply oA | apply oB)); exact rfl; intro K hK) | (refine hK _ ?_; clear hK K) | ((with_reducible (first | apply oG | apply oH)); iterate 3 exact rfl) | ((with_reducible apply oI); (iterate 2 exact rfl); intro K hK) | (with_reducible (first | apply wI | apply wJ | apply wK))); try simp only [go_sem, simprocAttr]) | fail | (with_reducible (first | apply oC | apply oJ | exact oK | apply wA | apply wB | apply wC hX hC | apply wD hX hC | apply wE hX hC hmix | apply wF hX hC hmix | apply wG | apply wH | apply And.intro)) | ((with_reducible refine oD ?_ ?_); first | fail | kernel_rfl) | ((with_reducible (first | apply oE | apply oF)); (iterate 3 exact rfl); all_goals (intro h; first | (exact absurd h (by decide)) | ((try simp only [go_sem, simprocAttr] at h); (try with_reducible intro K hK); simp only [go_sem, simprocAttr]))) | ((first | ((with_reducible apply wL); exact rfl) | ((with_reducible apply wM); exact rfl)); all_goals (try ((with_reducible intro h); first | (exact absurd h (by decide)) | (try simp only [go_sem, simprocAttr] at h)))) | omega | ((first | (first | (refine acall_same hX hC hP hR (hf _) rfl rfl rfl ?_ ?_ rfl rfl ?_; (focus (simp only [go_sem, simprocAttr]; done)); (focus (first | (intro p hp; exact mem_look (Robs.nd hR) hp) | (simp [go_sem, simprocAttr]; done)))) | (refine acall_same hX hC hP hR (hf _) rfl rfl rfl ?_ ?_ ?_ rfl ?_; (focus (simp only [go_sem, simprocAttr]; done)); (focus (first | (intro p hp; exact mem_look (Robs.nd hR) hp) | (simp [go_sem, simprocAttr]; done))); (focus (simp [go_sem, simprocAttr]; done))))); try simp only [go_sem, simprocAttr]) | (intro h))
  refine awp_loopP (fun k : Nat => k ≤ ps.length ∧ ∀ j, j < k → g (ps.getD j 0) = false) (fun k => ⟨[(0, .d (sI ps)), (1, .fn f [] caps), (7, eN ps.length), (8, eN k)], m⟩) (fun k => ps.length - k) 0 (by simp) ?_ ?_
  · (refine ⟨leT_spec ?_, fun _ _ h => h⟩; simp [go_sem, simprocAttr])
  rintro k ⟨hk, hg⟩
  repeat' (first | fail | ((first | ((with_reducible (first | apply oA | apply oB)); exact rfl; intro K hK) | (refine hK _ ?_; clear hK K) | ((with_reducible (first | apply oG | apply oH)); iterate 3 exact rfl) | ((with_reducible apply oI); (iterate 2 exact rfl); intro K hK) | (with_reducible (first | apply wI | apply wJ | apply wK))); try simp only [go_sem, simprocAttr]) | fail | (with_reducible (first | apply oC | apply oJ | exact oK | apply wA | apply wB | apply wC hX hC | apply wD hX hC | apply wE hX hC hmix | apply wF hX hC hmix | apply wG | apply wH | apply And.intro)) | ((with_reducible refine oD ?_ ?_); first | fail | kernel_rfl) | ((with_reducible (first | apply oE | apply oF)); (iterate 3 exact rfl); all_goals (intro h; first | (exact absurd h (by decide)) | ((try simp only [go_sem, simprocAttr] at h); (try with_reducible intro K hK); simp only [go_sem, simprocAttr]))) | ((first | ((with_reducible apply wL); exact rfl) | ((with_reducible apply wM); exact rfl)); all_goals (try ((with_reducible intro h); first | (exact absurd h (by decide)) | (try simp only [go_sem, simprocAttr] at h)))) | omega | ((first | (first | (refine acall_same hX hC hP hR (hf _) rfl rfl rfl ?_ ?_ rfl rfl ?_; (focus (simp only [go_sem, simprocAttr]; done)); (focus (first | (intro p hp; exact mem_look (Robs.nd hR) hp) | (simp [go_sem, simprocAttr]; done)))) | (refine acall_same hX hC hP hR (hf _) rfl rfl rfl ?_ ?_ ?_ rfl ?_; (focus (simp only [go_sem, simprocAttr]; done)); (focus (first | (intro p hp; exact mem_look (Robs.nd hR) hp) | (simp [go_sem, simprocAttr]; done))); (focus (simp [go_sem, simprocAttr]; done))))); try simp only [go_sem, simprocAttr]) | (intro h))
  · exact (findI_at (by omega) hg h).symm
  · exact leR_robs hR
  · refine ⟨k + 1, ⟨by omega, fun j hj => ?_⟩, ?_, by omega⟩
    · by_cases hjk : j = k
      · subst hjk; exact h
      · exact hg j (by omega)
    · (refine ⟨leT_spec ?_, fun _ _ h => h⟩; simp [go_sem, simprocAttr])
  · exact (findI_none 0 fun j hj => hg j (by omega)).symm
  · exact leR_robs hR
theorem containsFuncE_spec {m : List (Nat × AObj)} (hR : Robs m) (f : Nat) (caps : List AV) (g : Edge → Bool) (hf : ∀ p, Spec Try.prog f (Args (eE p :: caps)) m (eB (g p)) m) (ps : List Edge) (hl : ps.length ≤ 9223372036854775807) :
    Spec Try.prog 57 (Args [.d (sE ps), .fn f [] caps]) m (eB (ps.any g)) m := by
  (refine Spec.intro (C := T.cfg [] []) (rs := [.t 4]) (T.cfg_ok _ _) Try.func57 rfl rfl Try.ntmps57 Try.results57 (fun p hp => ⟨(Robs.low hR p hp).1, Robs.nest hR p hp⟩) (fun p hp => ⟨(Robs.low hR p hp).2, Robs.nest hR p hp⟩) (by kernel_rfl) ?_; intro X hX hP hC hXn hXm vals hA; refine ⟨_, by simp, hA, ?_⟩; have hmix : X.P.follows .mixedOrders = true := (by rw [hP]; exact T.mixed); clear hXn hXm)
  repeat' (first | fail | ((first | ((with_reducible (first | apply oA | apply oB)); exact rfl; intro K hK) | (refine hK _ ?_; clear hK K) | ((with_reducible (first | apply oG | apply oH)); iterate 3 exact rfl) | ((with_reducible apply oI); (iterate 2 exact rfl); intro K hK) | (with_reducible (first | apply wI | apply wJ | apply wK))); try simp only [go_sem, simprocAttr]) | fail | (with_reducible (first | apply oC | apply oJ | exact oK | apply wA | apply wB | apply wC hX hC | apply wD hX hC | apply wE hX hC hmix | apply wF hX hC hmix | apply wG | apply wH | apply And.intro)) | ((with_reducible refine oD ?_ ?_); first | fail | kernel_rfl) | ((with_reducible (first | apply oE | apply oF)); (iterate 3 exact rfl); all_goals (intro h; first | (exact absurd h (by decide)) | ((try simp only [go_sem, simprocAttr] at h); (try with_reducible intro K hK); simp only [go_sem, simprocAttr]))) | ((first | ((with_reducible apply wL); exact rfl) | ((with_reducible apply wM); exact rfl)); all_goals (try ((with_reducible intro h); first | (exact absurd h (by decide)) | (try simp only [go_sem, simprocAttr] at h)))) | omega | ((first | (first | (refine acall_same hX hC hP hR (indexFuncE_spec hR _ _ g hf ps hl) rfl rfl rfl ?_ ?_ rfl rfl ?_; (focus (simp only [go_sem, simprocAttr]; done)); (focus (first | (intro p hp; exact mem_look (Robs.nd hR) hp) | (simp [go_sem, simprocAttr]; done)))) | (refine acall_same hX hC hP hR (indexFuncE_spec hR _ _ g hf ps hl) rfl rfl rfl ?_ ?_ ?_ rfl ?_; (focus (simp only [go_sem, simprocAttr]; done)); (focus (first | (intro p hp; exact mem_look (Robs.nd hR) hp) | (simp [go_sem, simprocAttr]; done))); (focus (simp [go_sem, simprocAttr]; done))))); try simp only [go_sem, simprocAttr]) | (intro h))
  · exact findI_any g ps
  · exact leR_robs hR

/-- Is an end of an edge no vertex? -/
def outB (g : Gr) (x : Int) : Bool := decide (x < 0) || decide (g.n ≤ x)
def outE (g : Gr) (e : Edge) : Bool := outB g e.1 || outB g e.2
def mayB (g : Gr) : Bool := decide (0 < g.n) && decide (g.n ≤ 64) && decide ((g.es.length : Int) ≤ 128) && !g.es.any (outE g)

def rG (g : Gr) : AObj := .rob [eN g.n, .d (sE g.es)]
theorem may1_spec (g : Gr) (x : Int) : Spec Try.prog 56 (Args [eN x, .ptr 10000 0]) [(10000, rG g)] (eB (outB g x)) [(10000, rG g)] := by
  unfold rG
  (refine Spec.intro (C := T.cfg [] []) (rs := [.t 3]) (T.cfg_ok _ _) Try.func56 rfl rfl Try.ntmps56 Try.results56 (by simp [AObj.isNest]) (by simp [AObj.isNest]) (by kernel_rfl) ?_; intro X hX hP hC hXn hXm vals hA; refine ⟨_, by simp, hA, ?_⟩; have hmix : X.P.follows .mixedOrders = true := (by rw [hP]; exact T.mixed); clear hXn hXm)
  repeat' (first | fail | ((first | ((with_reducible (first | apply oA | apply oB)); exact rfl; intro K hK) | (refine hK _ ?_; clear hK K) | ((with_reducible (first | apply oG | apply oH)); iterate 3 exact rfl) | ((with_reducible apply oI); (iterate 2 exact rfl); intro K hK) | (with_reducible (first | apply wI | apply wJ | apply wK))); try simp only [go_sem, simprocAttr]) | fail | (with_reducible (first | apply oC | apply oJ | exact oK | apply wA | apply wB | apply wC hX hC | apply wD hX hC | apply wE hX hC hmix | apply wF hX hC hmix | apply wG | apply wH | apply And.intro)) | ((with_reducible refine oD ?_ ?_); first | fail | kernel_rfl) | ((with_reducible (first | apply oE | apply oF)); (iterate 3 exact rfl); all_goals (intro h; first | (exact absurd h (by decide)) | ((try simp only [go_sem, simprocAttr] at h); (try with_reducible intro K hK); simp only [go_sem, simprocAttr]))) | ((first | ((with_reducible apply wL); exact rfl) | ((with_reducible apply wM); exact rfl)); all_goals (try ((with_reducible intro h); first | (exact absurd h (by decide)) | (try simp only [go_sem, simprocAttr] at h)))) | omega | ((first | (first | (refine acall_same hX hC hP hR (indexFuncE_spec hR _ _ g hf ps hl) rfl rfl rfl ?_ ?_ rfl rfl ?_; (focus (simp only [go_sem, simprocAttr]; done)); (focus (first | (intro p hp; exact mem_look (Robs.nd hR) hp) | (simp [go_sem, simprocAttr]; done)))) | (refine acall_same hX hC hP hR (indexFuncE_spec hR _ _ g hf ps hl) rfl rfl rfl ?_ ?_ ?_ rfl ?_; (focus (simp only [go_sem, simprocAttr]; done)); (focus (first | (intro p hp; exact mem_look (Robs.nd hR) hp) | (simp [go_sem, simprocAttr]; done))); (focus (simp [go_sem, simprocAttr]; done))))); try simp only [go_sem, simprocAttr]) | (intro h))
  · simp [outB, *]
  · simp [outB, *]
theorem robG (g : Gr) : Robs [(10000, rG g)] := ⟨by simp [rG, AObj.ro], by simp [nodupM, look], by simp, by simp [rG, AObj.ids, AV.ids, AV.idss, eN]⟩
def rF : AObj := .rob [.fn 56 [] [.ptr 10000 0]]
attribute [go_sem] rG rF
theorem may2_spec (g : Gr) (e : Edge) : Spec Try.prog 58 (Args [eE e, .ptr 10001 0]) [(10001, rF), (10000, rG g)] (eB (outE g e)) [(10001, rF), (10000, rG g)] := by
  unfold rF rG
  (refine Spec.intro (C := T.cfg [] []) (rs := [.t 3]) (T.cfg_ok _ _) Try.func58 rfl rfl Try.ntmps58 Try.results58 (by simp [AObj.isNest]) (by simp [AObj.isNest]) (by kernel_rfl) ?_; intro X hX hP hC hXn hXm vals hA; refine ⟨_, by simp, hA, ?_⟩; have hmix : X.P.follows .mixedOrders = true := (by rw [hP]; exact T.mixed); clear hXn hXm)
  repeat' (first | fail | ((first | ((with_reducible (first | apply oA | apply oB)); exact rfl; intro K hK) | (refine hK _ ?_; clear hK K) | ((with_reducible (first | apply oG | apply oH)); iterate 3 exact rfl) | ((with_reducible apply oI); (iterate 2 exact rfl); intro K hK) | (with_reducible (first | apply wI | apply wJ | apply wK))); try simp only [go_sem, simprocAttr]) | fail | (with_reducible (first | apply oC | apply oJ | exact oK | apply wA | apply wB | apply wC hX hC | apply wD hX hC | apply wE hX hC hmix | apply wF hX hC hmix | apply wG | apply wH | apply And.intro)) | ((with_reducible refine oD ?_ ?_); first | fail | kernel_rfl) | ((with_reducible (first | apply oE | apply oF)); (iterate 3 exact rfl); all_goals (intro h; first | (exact absurd h (by decide)) | ((try simp only [go_sem, simprocAttr] at h); (try with_reducible intro K hK); simp only [go_sem, simprocAttr]))) | ((first | ((with_reducible apply wL); exact rfl) | ((with_reducible apply wM); exact rfl)); all_goals (try ((with_reducible intro h); first | (exact absurd h (by decide)) | (try simp only [go_sem, simprocAttr] at h)))) | omega | ((first | (first | (refine acall_same hX hC hP (robG g) (may1_spec g _) rfl rfl rfl ?_ ?_ rfl rfl ?_; (focus (simp only [go_sem, simprocAttr]; done)); (focus (first | (intro p hp; exact mem_look (Robs.nd (robG g)) hp) | (simp [go_sem, simprocAttr]; done)))) | (refine acall_same hX hC hP (robG g) (may1_spec g _) rfl rfl rfl ?_ ?_ ?_ rfl ?_; (focus (simp only [go_sem, simprocAttr]; done)); (focus (first | (intro p hp; exact mem_look (Robs.nd (robG g)) hp) | (simp [go_sem, simprocAttr]; done))); (focus (simp [go_sem, simprocAttr]; done))))); try simp only [go_sem, simprocAttr]) | (intro h))
  · simp [outE, *]
  · simp [outE, *]
theorem robF (g : Gr) : Robs [(10001, rF), (10000, rG g)] := ⟨by simp [rG, rF, AObj.ro], by simp [nodupM, look], by simp, by simp [rG, rF, AObj.ids, AV.ids, AV.idss, eN, look]⟩
theorem may_spec (g : Gr) (hl : g.es.length ≤ 9223372036854775807) : Spec Try.prog 16 (Args [eG g]) [] (eB (mayB g)) [] := by
  (refine Spec.intro (C := T.cfg [] []) (rs := [.t 2]) (T.cfg_ok _ _) Try.func16 rfl rfl Try.ntmps16 Try.results16 (by simp [AObj.isNest]) (by simp [AObj.isNest]) (by kernel_rfl) ?_; intro X hX hP hC hXn hXm vals hA; refine ⟨_, by simp, hA, ?_⟩; have hmix : X.P.follows .mixedOrders = true := (by rw [hP]; exact T.mixed); clear hXn hXm)
  repeat' (first | fail | ((first | ((with_reducible (first | apply oA | apply oB)); exact rfl; intro K hK) | (refine hK _ ?_; clear hK K) | ((with_reducible (first | apply oG | apply oH)); iterate 3 exact rfl) | ((with_reducible apply oI); (iterate 2 exact rfl); intro K hK) | (with_reducible (first | apply wI | apply wJ | apply wK))); try simp only [go_sem, simprocAttr]) | fail | (with_reducible (first | apply oC | apply oJ | exact oK | apply wA | apply wB | apply wC hX hC | apply wD hX hC | apply wE hX hC hmix | apply wF hX hC hmix | apply wG | apply wH | apply And.intro)) | ((with_reducible refine oD ?_ ?_); first | fail | kernel_rfl) | ((with_reducible (first | apply oE | apply oF)); (iterate 3 exact rfl); all_goals (intro h; first | (exact absurd h (by decide)) | ((try simp only [go_sem, simprocAttr] at h); (try with_reducible intro K hK); simp only [go_sem, simprocAttr]))) | ((first | ((with_reducible apply wL); exact rfl) | ((with_reducible apply wM); exact rfl)); all_goals (try ((with_reducible intro h); first | (exact absurd h (by decide)) | (try simp only [go_sem, simprocAttr] at h)))) | omega | ((first | (refine acall_rob hX hC hP [(10000, 1), (10001, 3)] (containsFuncE_spec (robF g) _ _ (outE g) (may2_spec g) g.es hl) rfl rfl rfl ?_ ?_ ?_ ?_ ?_ ?_ rfl rfl ?_ ?_; (focus (simp only [go_sem, simprocAttr]; done)); (iterate 6 (focus (simp [go_sem, simprocAttr]; done))); simp only [go_sem, simprocAttr, List.map_cons, List.map_nil])); try simp only [go_sem, simprocAttr]) | (intro h))
  all_goals simp [mayB, *]

end Go.Ab
end
section
namespace Go.Ab
open Go.Proofs
attribute [local congr] ACall.congr
set_option maxRecDepth 10000

def idxI (l : List Int) (x : Int) : Int := findI (fun y => decide (x = y)) l
def idxE (l : List Edge) (x : Edge) : Int := findI (fun y => decide (x = y)) l
theorem idxI_has (l : List Int) (x : Int) : decide (0 ≤ idxI l x) = decide (x ∈ l) := by
  unfold idxI; rw [findI_any, Bool.eq_iff_iff]; simp
theorem idxE_has (l : List Edge) (x : Edge) : decide (0 ≤ idxE l x) = decide (x ∈ l) := by
  unfold idxE; rw [findI_any, Bool.eq_iff_iff]; simp [-Prod.exists, -Prod.forall]
theorem beqE (x y : Edge) : (decide (x.1 = y.1) && decide (x.2 = y.2)) = decide (x = y) := by
  obtain ⟨a, b⟩ := x; obtain ⟨c, d⟩ := y
  rw [Bool.eq_iff_iff]; simp
theorem indexI_spec (ps : List Int) (x : Int) (hl : ps.length ≤ 9223372036854775807) :
    Spec Try.prog 80 (Args [.d (sI ps), eN x]) [] (eN (idxI ps x)) [] := by
  (refine Spec.intro (C := T.cfg [] []) (rs := [.t 4]) (T.cfg_ok _ _) Try.func80 rfl rfl Try.ntmps80 Try.results80 (by simp [AObj.isNest]) (by simp [AObj.isNest]) (by kernel_rfl) ?_; intro X hX hP hC hXn hXm vals hA; refine ⟨_, by simp, hA, ?_⟩; have hmix : X.P.follows .mixedOrders = true := (by rw [hP]; exact T.mixed); clear hXn hXm)
  repeat' (first | fail | ((first | ((with_reducible (first | apply oA | apply oB)); exact rfl; intro K hK) | (refine hK _ ?_; clear hK K) | ((with_reducible (first | apply oG | apply oH)); iterate 3 exact rfl) | ((with_reducible apply oI); (iterate 2 exact rfl); intro K hK) | (with_reducible (first | apply wI | apply wJ | apply wK))); try simp only [go_sem, simprocAttr]) | fail | (with_reducible (first | apply oC | apply oJ | exact oK | apply wA | apply wB | apply wC hX hC | apply wD hX hC | apply wE hX hC hmix | apply wF hX hC hmix | apply wG | apply wH | apply And.intro)) | ((with_reducible refine oD ?_ ?_); first | fail | kernel_rfl) | ((with_reducible (first | apply oE | apply oF)); (iterate 3 exact rfl); all_goals (intro h; first | (exact absurd h (by decide)) | ((try simp only [go_sem, simprocAttr] at h); (try with_reducible intro K hK); simp only [go_sem, simprocAttr]))) | ((first | ((with_reducible apply wL); exact rfl) | ((with_reducible apply wM); exact rfl)); all_goals (try ((with_reducible intro h); first | (exact absurd h (by decide)) | (try simp only [go_sem, simprocAttr] at h)))) | omega | ((first | fail); try simp only [go_sem, simprocAttr]) | (intro h))
  refine awp_loopP (fun k : Nat => k ≤ ps.length ∧ ∀ j, j < k → decide (x = ps.getD j 0) = false) (fun k => ⟨[(0, .d (sI ps)), (1, eN x), (7, eN ps.length), (8, eN k)], []⟩) (fun k => ps.length - k) 0 (by simp) ?_ ?_
  · (refine ⟨leT_spec ?_, fun _ _ h => h⟩; simp [go_sem, simprocAttr])
  rintro k ⟨hk, hg⟩
  repeat' (first | fail | ((first | ((with_reducible (first | apply oA | apply oB)); exact rfl; intro K hK) | (refine hK _ ?_; clear hK K) | ((with_reducible (first | apply oG | apply oH)); iterate 3 exact rfl) | ((with_reducible apply oI); (iterate 2 exact rfl); intro K hK) | (with_reducible (first | apply wI | apply wJ | apply wK))); try simp only [go_sem, simprocAttr]) | fail | (with_reducible (first | apply oC | apply oJ | exact oK | apply wA | apply wB | apply wC hX hC | apply wD hX hC | apply wE hX hC hmix | apply wF hX hC hmix | apply wG | apply wH | apply And.intro)) | ((with_reducible refine oD ?_ ?_); first | fail | kernel_rfl) | ((with_reducible (first | apply oE | apply oF)); (iterate 3 exact rfl); all_goals (intro h; first | (exact absurd h (by decide)) | ((try simp only [go_sem, simprocAttr] at h); (try with_reducible intro K hK); simp only [go_sem, simprocAttr]))) | ((first | ((with_reducible apply wL); exact rfl) | ((with_reducible apply wM); exact rfl)); all_goals (try ((with_reducible intro h); first | (exact absurd h (by decide)) | (try simp only [go_sem, simprocAttr] at h)))) | omega | ((first | fail); try simp only [go_sem, simprocAttr]) | (intro h))
  · exact (findI_at (by omega) hg (by simpa using h)).symm
  · refine ⟨k + 1, ⟨by omega, fun j hj => ?_⟩, ?_, by omega⟩
    · by_cases hjk : j = k
      · subst hjk; simpa using h
      · simpa using hg j (by omega)
    · (refine ⟨leT_spec ?_, fun _ _ h => h⟩; simp [go_sem, simprocAttr])
  · exact (findI_none 0 fun j hj => hg j (by omega)).symm
theorem containsI_spec (ps : List Int) (x : Int) (hl : ps.length ≤ 9223372036854775807) :
    Spec Try.prog 79 (Args [.d (sI ps), eN x]) [] (eB (decide (x ∈ ps))) [] := by
  rw [← idxI_has]
  (refine Spec.intro (C := T.cfg [] []) (rs := [.t 4]) (T.cfg_ok _ _) Try.func79 rfl rfl Try.ntmps79 Try.results79 (by simp [AObj.isNest]) (by simp [AObj.isNest]) (by kernel_rfl) ?_; intro X hX hP hC hXn hXm vals hA; refine ⟨_, by simp, hA, ?_⟩; have hmix : X.P.follows .mixedOrders = true := (by rw [hP]; exact T.mixed); clear hXn hXm)
  repeat' (first | fail | ((first | ((with_reducible (first | apply oA | apply oB)); exact rfl; intro K hK) | (refine hK _ ?_; clear hK K) | ((with_reducible (first | apply oG | apply oH)); iterate 3 exact rfl) | ((with_reducible apply oI); (iterate 2 exact rfl); intro K hK) | (with_reducible (first | apply wI | apply wJ | apply wK))); try simp only [go_sem, simprocAttr]) | fail | (with_reducible (first | apply oC | apply oJ | exact oK | apply wA | apply wB | apply wC hX hC | apply wD hX hC | apply wE hX hC hmix | apply wF hX hC hmix | apply wG | apply wH | apply And.intro)) | ((with_reducible refine oD ?_ ?_); first | fail | kernel_rfl) | ((with_reducible (first | apply oE | apply oF)); (iterate 3 exact rfl); all_goals (intro h; first | (exact absurd h (by decide)) | ((try simp only [go_sem, simprocAttr] at h); (try with_reducible intro K hK); simp only [go_sem, simprocAttr]))) | ((first | ((with_reducible apply wL); exact rfl) | ((with_reducible apply wM); exact rfl)); all_goals (try ((with_reducible intro h); first | (exact absurd h (by decide)) | (try simp only [go_sem, simprocAttr] at h)))) | omega | ((first | refine acall_simple hX hC hP (indexI_spec ps x hl) rfl rfl rfl (by simp only [go_sem, simprocAttr]) rfl ?_); try simp only [go_sem, simprocAttr]) | (intro h))
theorem indexE_spec (ps : List Edge) (x : Edge) (hl : ps.length ≤ 9223372036854775807) :
    Spec Try.prog 76 (Args [.d (sE ps), eE x]) [] (eN (idxE ps x)) [] := by
  (refine Spec.intro (C := T.cfg [] []) (rs := [.t 4]) (T.cfg_ok _ _) Try.func76 rfl rfl Try.ntmps76 Try.results76 (by simp [AObj.isNest]) (by simp [AObj.isNest]) (by kernel_rfl) ?_; intro X hX hP hC hXn hXm vals hA; refine ⟨_, by simp, hA, ?_⟩; have hmix : X.P.follows .mixedOrders = true := (by rw [hP]; exact T.mixed); clear hXn hXm)
  repeat' (first | fail | ((first | ((with_reducible (first | apply oA | apply oB)); exact rfl; intro K hK) | (refine hK _ ?_; clear hK K) | ((with_reducible (first | apply oG | apply oH)); iterate 3 exact rfl) | ((with_reducible apply oI); (iterate 2 exact rfl); intro K hK) | (with_reducible (first | apply wI | apply wJ | apply wK))); try simp only [go_sem, simprocAttr]) | fail | (with_reducible (first | apply oC | apply oJ | exact oK | apply wA | apply wB | apply wC hX hC | apply wD hX hC | apply wE hX hC hmix | apply wF hX hC hmix | apply wG | apply wH | apply And.intro)) | ((with_reducible refine oD ?_ ?_); first | fail | kernel_rfl) | ((with_reducible (first | apply oE | apply oF)); (iterate 3 exact rfl); all_goals (intro h; first | (exact absurd h (by decide)) | ((try simp only [go_sem, simprocAttr] at h); (try with_reducible intro K hK); simp only [go_sem, simprocAttr]))) | ((first | ((with_reducible apply wL); exact rfl) | ((with_reducible apply wM); exact rfl)); all_goals (try ((with_reducible intro h); first | (exact absurd h (by decide)) | (try simp only [go_sem, simprocAttr] at h)))) | omega | ((first | fail); try simp only [go_sem, simprocAttr]) | (intro h))
  refine awp_loopP (fun k : Nat => k ≤ ps.length ∧ ∀ j, j < k → decide (x = ps.getD j (0, 0)) = false) (fun k => ⟨[(0, .d (sE ps)), (3, .ptr 3 0), (7, eN ps.length), (8, eN k)], [(3, .box [eN x.1, eN x.2])]⟩) (fun k => ps.length - k) 0 (by simp) ?_ ?_
  · (refine Le.of ?_ ?_ <;> simp [go_sem, simprocAttr])
  rintro k ⟨hk, hg⟩
  repeat' (first | fail | ((first | ((with_reducible (first | apply oA | apply oB)); exact rfl; intro K hK) | (refine hK _ ?_; clear hK K) | ((with_reducible (first | apply oG | apply oH)); iterate 3 exact rfl) | ((with_reducible apply oI); (iterate 2 exact rfl); intro K hK) | (with_reducible (first | apply wI | apply wJ | apply wK))); try simp only [go_sem, simprocAttr, beqE]) | fail | (with_reducible (first | apply oC | apply oJ | exact oK | apply wA | apply wB | apply wC hX hC | apply wD hX hC | apply wE hX hC hmix | apply wF hX hC hmix | apply wG | apply wH | apply And.intro)) | ((with_reducible refine oD ?_ ?_); first | fail | kernel_rfl) | ((with_reducible (first | apply oE | apply oF)); (iterate 3 exact rfl); all_goals (intro h; first | (exact absurd h (by decide)) | ((try simp only [go_sem, simprocAttr, beqE] at h); (try with_reducible intro K hK); simp only [go_sem, simprocAttr, beqE]))) | ((first | ((with_reducible apply wL); exact rfl) | ((with_reducible apply wM); exact rfl)); all_goals (try ((with_reducible intro h); first | (exact absurd h (by decide)) | (try simp only [go_sem, simprocAttr, beqE] at h)))) | omega | ((first | fail); try simp only [go_sem, simprocAttr, beqE]) | (intro h))
  · exact (findI_at (d := (0, 0)) (by omega) hg (by simpa using h)).symm
  · refine ⟨k + 1, ⟨by omega, fun j hj => ?_⟩, ?_, by omega⟩
    · by_cases hjk : j = k
      · subst hjk; exact h
      · simpa using hg j (by omega)
    · (refine Le.of ?_ ?_ <;> simp [go_sem, simprocAttr, beqE])
  · exact (findI_none (0, 0) fun j hj => hg j (by omega)).symm
theorem containsE_spec (ps : List Edge) (x : Edge) (hl : ps.length ≤ 9223372036854775807) :
    Spec Try.prog 53 (Args [.d (sE ps), eE x]) [] (eB (decide (x ∈ ps))) [] := by
  rw [← idxE_has]
  (refine Spec.intro (C := T.cfg [] []) (rs := [.t 4]) (T.cfg_ok _ _) Try.func53 rfl rfl Try.ntmps53 Try.results53 (by simp [AObj.isNest]) (by simp [AObj.isNest]) (by kernel_rfl) ?_; intro X hX hP hC hXn hXm vals hA; refine ⟨_, by simp, hA, ?_⟩; have hmix : X.P.follows .mixedOrders = true := (by rw [hP]; exact T.mixed); clear hXn hXm)
  repeat' (first | fail | ((first | ((with_reducible (first | apply oA | apply oB)); exact rfl; intro K hK) | (refine hK _ ?_; clear hK K) | ((with_reducible (first | apply oG | apply oH)); iterate 3 exact rfl) | ((with_reducible apply oI); (iterate 2 exact rfl); intro K hK) | (with_reducible (first | apply wI | apply wJ | apply wK))); try simp only [go_sem, simprocAttr, beqE]) | fail | (with_reducible (first | apply oC | apply oJ | exact oK | apply wA | apply wB | apply wC hX hC | apply wD hX hC | apply wE hX hC hmix | apply wF hX hC hmix | apply wG | apply wH | apply And.intro)) | ((with_reducible refine oD ?_ ?_); first | fail | kernel_rfl) | ((with_reducible (first | apply oE | apply oF)); (iterate 3 exact rfl); all_goals (intro h; first | (exact absurd h (by decide)) | ((try simp only [go_sem, simprocAttr, beqE] at h); (try with_reducible intro K hK); simp only [go_sem, simprocAttr, beqE]))) | ((first | ((with_reducible apply wL); exact rfl) | ((with_reducible apply wM); exact rfl)); all_goals (try ((with_reducible intro h); first | (exact absurd h (by decide)) | (try simp only [go_sem, simprocAttr, beqE] at h)))) | omega | ((first | refine acall_simple hX hC hP (indexE_spec ps x hl) rfl rfl rfl (by simp only [go_sem, simprocAttr, beqE]) rfl ?_); try simp only [go_sem, simprocAttr, beqE]) | (intro h))
theorem cloneE_spec (ps : List Edge) (hl : ps.length ≤ 1000000) :
    Spec Try.prog 59 (Args [.d (sE ps)]) [] (.d (sE ps)) [] := by
  (refine Spec.intro (C := T.cfg [] []) (rs := [.t 2]) (T.cfg_ok _ _) Try.func59 rfl rfl Try.ntmps59 Try.results59 (by simp [AObj.isNest]) (by simp [AObj.isNest]) (by kernel_rfl) ?_; intro X hX hP hC hXn hXm vals hA; refine ⟨_, by simp, hA, ?_⟩; have hmix : X.P.follows .mixedOrders = true := (by rw [hP]; exact T.mixed); clear hXn hXm)
  repeat' (first | fail | ((first | ((with_reducible (first | apply oA | apply oB)); exact rfl; intro K hK) | (refine hK _ ?_; clear hK K) | ((with_reducible (first | apply oG | apply oH)); iterate 3 exact rfl) | ((with_reducible apply oI); (iterate 2 exact rfl); intro K hK) | (with_reducible (first | apply wI | apply wJ | apply wK))); try simp only [go_sem, simprocAttr]) | fail | (with_reducible (first | apply oC | apply oJ | exact oK | apply wA | apply wB | apply wC hX hC | apply wD hX hC | apply wE hX hC hmix | apply wF hX hC hmix | apply wG | apply wH | apply And.intro)) | ((with_reducible refine oD ?_ ?_); first | fail | kernel_rfl) | ((with_reducible (first | apply oE | apply oF)); (iterate 3 exact rfl); all_goals (intro h; first | (exact absurd h (by decide)) | ((try simp only [go_sem, simprocAttr] at h); (try with_reducible intro K hK); simp only [go_sem, simprocAttr]))) | ((first | ((with_reducible apply wL); exact rfl) | ((with_reducible apply wM); exact rfl)); all_goals (try ((with_reducible intro h); first | (exact absurd h (by decide)) | (try simp only [go_sem, simprocAttr] at h)))) | omega | ((first | fail); try simp only [go_sem, simprocAttr]) | (intro h))
  exact h.symm
theorem cloneI_spec (ps : List Int) (hl : ps.length ≤ 1000000) :
    Spec Try.prog 75 (Args [.d (sI ps)]) [] (.d (sI ps)) [] := by
  (refine Spec.intro (C := T.cfg [] []) (rs := [.t 2]) (T.cfg_ok _ _) Try.func75 rfl rfl Try.ntmps75 Try.results75 (by simp [AObj.isNest]) (by simp [AObj.isNest]) (by kernel_rfl) ?_; intro X hX hP hC hXn hXm vals hA; refine ⟨_, by simp, hA, ?_⟩; have hmix : X.P.follows .mixedOrders = true := (by rw [hP]; exact T.mixed); clear hXn hXm)
  repeat' (first | fail | ((first | ((with_reducible (first | apply oA | apply oB)); exact rfl; intro K hK) | (refine hK _ ?_; clear hK K) | ((with_reducible (first | apply oG | apply oH)); iterate 3 exact rfl) | ((with_reducible apply oI); (iterate 2 exact rfl); intro K hK) | (with_reducible (first | apply wI | apply wJ | apply wK))); try simp only [go_sem, simprocAttr]) | fail | (with_reducible (first | apply oC | apply oJ | exact oK | apply wA | apply wB | apply wC hX hC | apply wD hX hC | apply wE hX hC hmix | apply wF hX hC hmix | apply wG | apply wH | apply And.intro)) | ((with_reducible refine oD ?_ ?_); first | fail | kernel_rfl) | ((with_reducible (first | apply oE | apply oF)); (iterate 3 exact rfl); all_goals (intro h; first | (exact absurd h (by decide)) | ((try simp only [go_sem, simprocAttr] at h); (try with_reducible intro K hK); simp only [go_sem, simprocAttr]))) | ((first | ((with_reducible apply wL); exact rfl) | ((with_reducible apply wM); exact rfl)); all_goals (try ((with_reducible intro h); first | (exact absurd h (by decide)) | (try simp only [go_sem, simprocAttr] at h)))) | omega | ((first | fail); try simp only [go_sem, simprocAttr]) | (intro h))
  exact h.symm
theorem take_next {α : Type} {xs ys : List α} (d : α) {k : Nat} (h1 : k < xs.length) (h2 : k < ys.length) (h : xs.take k = ys.take k) (he : xs.getD k d = ys.getD k d) : xs.take (k + 1) = ys.take (k + 1) := by
  rw [List.take_add_one, List.take_add_one, h, List.getElem?_eq_getElem h1, List.getElem?_eq_getElem h2]
  simp only [List.getD_eq_getElem?_getD, List.getElem?_eq_getElem h1, List.getElem?_eq_getElem h2, Option.getD_some] at he
  rw [he]
theorem sameInts_spec (xs ys : List Int) (hlen : xs.length ≤ 9223372036854775807) : Spec Try.prog 18 (Args [.d (sI xs), .d (sI ys)]) [] (eB (decide (xs = ys))) [] := by
  (refine Spec.intro (C := T.cfg [] []) (rs := [.t 4]) (T.cfg_ok _ _) Try.func18 rfl rfl Try.ntmps18 Try.results18 (by simp [AObj.isNest]) (by simp [AObj.isNest]) (by kernel_rfl) ?_; intro X hX hP hC hXn hXm vals hA; refine ⟨_, by simp, hA, ?_⟩; have hmix : X.P.follows .mixedOrders = true := (by rw [hP]; exact T.mixed); clear hXn hXm)
  repeat' (first | fail | ((first | ((with_reducible (first | apply oA | apply oB)); exact rfl; intro K hK) | (refine hK _ ?_; clear hK K) | ((with_reducible (first | apply oG | apply oH)); iterate 3 exact rfl) | ((with_reducible apply oI); (iterate 2 exact rfl); intro K hK) | (with_reducible (first | apply wI | apply wJ | apply wK))); try simp only [go_sem, simprocAttr]) | fail | (with_reducible (first | apply oC | apply oJ | exact oK | apply wA | apply wB | apply wC hX hC | apply wD hX hC | apply wE hX hC hmix | apply wF hX hC hmix | apply wG | apply wH | apply And.intro)) | ((with_reducible refine oD ?_ ?_); first | fail | kernel_rfl) | ((with_reducible (first | apply oE | apply oF)); (iterate 3 exact rfl); all_goals (intro h; first | (exact absurd h (by decide)) | ((try simp only [go_sem, simprocAttr] at h); (try with_reducible intro K hK); simp only [go_sem, simprocAttr]))) | ((first | ((with_reducible apply wL); exact rfl) | ((with_reducible apply wM); exact rfl)); all_goals (try ((with_reducible intro h); first | (exact absurd h (by decide)) | (try simp only [go_sem, simprocAttr] at h)))) | omega | ((first | fail); try simp only [go_sem, simprocAttr]) | (intro h))
  · have : xs ≠ ys := fun e => h (by rw [e])
    simp [this]
  refine awp_loopP (fun k : Nat => k ≤ xs.length ∧ xs.take k = ys.take k) (fun k => ⟨[(0, .d (sI xs)), (1, .d (sI ys)), (5, eN k)], []⟩) (fun k => xs.length - k) 0 (by simp) ?_ ?_
  · (refine ⟨leT_spec ?_, fun _ _ h => h⟩; simp [go_sem, simprocAttr])
  rintro k ⟨hk, hp⟩
  have hlq : xs.length = ys.length := by omega
  repeat' (first | fail | ((first | ((with_reducible (first | apply oA | apply oB)); exact rfl; intro K hK) | (refine hK _ ?_; clear hK K) | ((with_reducible (first | apply oG | apply oH)); iterate 3 exact rfl) | ((with_reducible apply oI); (iterate 2 exact rfl); intro K hK) | (with_reducible (first | apply wI | apply wJ | apply wK))); try simp only [go_sem, simprocAttr]) | fail | (with_reducible (first | apply oC | apply oJ | exact oK | apply wA | apply wB | apply wC hX hC | apply wD hX hC | apply wE hX hC hmix | apply wF hX hC hmix | apply wG | apply wH | apply And.intro)) | ((with_reducible refine oD ?_ ?_); first | fail | kernel_rfl) | ((with_reducible (first | apply oE | apply oF)); (iterate 3 exact rfl); all_goals (intro h; first | (exact absurd h (by decide)) | ((try simp only [go_sem, simprocAttr] at h); (try with_reducible intro K hK); simp only [go_sem, simprocAttr]))) | ((first | ((with_reducible apply wL); exact rfl) | ((with_reducible apply wM); exact rfl)); all_goals (try ((with_reducible intro h); first | (exact absurd h (by decide)) | (try simp only [go_sem, simprocAttr] at h)))) | omega | ((first | fail); try simp only [go_sem, simprocAttr]) | (intro h))
  · have : xs ≠ ys := fun e => h (by rw [e])
    simp [this]
  · refine ⟨k + 1, ⟨by omega, take_next 0 (by omega) (by omega) hp h⟩, ?_, by omega⟩
    (refine ⟨leT_spec ?_, fun _ _ h => h⟩; simp [go_sem, simprocAttr])
  · have : k = xs.length := by omega
    subst this
    rw [List.take_of_length_le (Nat.le_refl _), List.take_of_length_le (by omega)] at hp
    simp [hp]
theorem any_next {α : Type} {f : α → Bool} {xs : List α} (d : α) {k : Nat} (h1 : k < xs.length) (h : (xs.take k).any f = false) (he : f (xs.getD k d) = false) : (xs.take (k + 1)).any f = false := by
  rw [List.take_add_one, List.any_append, h, List.getElem?_eq_getElem h1]
  simp only [List.getD_eq_getElem?_getD, List.getElem?_eq_getElem h1, Option.getD_some] at he
  simp [he]
theorem any_at {α : Type} {f : α → Bool} {xs : List α} {d : α} {k : Nat} (h1 : k < xs.length) (he : f (xs.getD k d) = true) : xs.any f = true := by
  rw [List.any_eq_true]
  refine ⟨_, List.getElem_mem h1, ?_⟩
  simpa only [List.getD_eq_getElem?_getD, List.getElem?_eq_getElem h1, Option.getD_some] using he
theorem mayB_out {g : Gr} {k : Nat} (h1 : k < g.es.length) (he : outE g (g.es.getD k (0, 0)) = true) : false = mayB g := by
  simp [mayB, any_at h1 he]
theorem refMay_spec (g : Gr) (hl : g.es.length ≤ 9223372036854775807) : Spec Try.prog 17 (Args [eG g]) [] (eB (mayB g)) [] := by
  (refine Spec.intro (C := T.cfg [] []) (rs := [.t 2]) (T.cfg_ok _ _) Try.func17 rfl rfl Try.ntmps17 Try.results17 (by simp [AObj.isNest]) (by simp [AObj.isNest]) (by kernel_rfl) ?_; intro X hX hP hC hXn hXm vals hA; refine ⟨_, by simp, hA, ?_⟩; have hmix : X.P.follows .mixedOrders = true := (by rw [hP]; exact T.mixed); clear hXn hXm)
  repeat' (first | fail | ((first | ((with_reducible (first | apply oA | apply oB)); exact rfl; intro K hK) | (refine hK _ ?_; clear hK K) | ((with_reducible (first | apply oG | apply oH)); iterate 3 exact rfl) | ((with_reducible apply oI); (iterate 2 exact rfl); intro K hK) | (with_reducible (first | apply wI | apply wJ | apply wK))); try simp only [go_sem, simprocAttr]) | fail | (with_reducible (first | apply oC | apply oJ | exact oK | apply wA | apply wB | apply wC hX hC | apply wD hX hC | apply wE hX hC hmix | apply wF hX hC hmix | apply wG | apply wH | apply And.intro)) | ((with_reducible refine oD ?_ ?_); first | fail | kernel_rfl) | ((with_reducible (first | apply oE | apply oF)); (iterate 3 exact rfl); all_goals (intro h; first | (exact absurd h (by decide)) | ((try simp only [go_sem, simprocAttr] at h); (try with_reducible intro K hK); simp only [go_sem, simprocAttr]))) | ((first | ((with_reducible apply wL); exact rfl) | ((with_reducible apply wM); exact rfl)); all_goals (try ((with_reducible intro h); first | (exact absurd h (by decide)) | (try simp only [go_sem, simprocAttr] at h)))) | omega | ((first | fail); try simp only [go_sem, simprocAttr]) | (intro h))
  any_goals (simp [mayB]; omega)
  refine awp_loopP (fun k : Nat => k ≤ g.es.length ∧ (g.es.take k).any (outE g) = false) (fun k => ⟨[(1, .ptr 1 0), (3, eN k)], [(1, .box [eN g.n, .d (sE g.es)])]⟩) (fun k => g.es.length - k) 0 (by simp) ?_ ?_
  · (refine Le.of ?_ ?_ <;> simp [go_sem, simprocAttr])
  rintro k ⟨hk, hp⟩
  repeat' (first | fail | ((first | ((with_reducible (first | apply oA | apply oB)); exact rfl; intro K hK) | (refine hK _ ?_; clear hK K) | ((with_reducible (first | apply oG | apply oH)); iterate 3 exact rfl) | ((with_reducible apply oI); (iterate 2 exact rfl); intro K hK) | (with_reducible (first | apply wI | apply wJ | apply wK))); try simp only [go_sem, simprocAttr]) | fail | (with_reducible (first | apply oC | apply oJ | exact oK | apply wA | apply wB | apply wC hX hC | apply wD hX hC | apply wE hX hC hmix | apply wF hX hC hmix | apply wG | apply wH | apply And.intro)) | ((with_reducible refine oD ?_ ?_); first | fail | kernel_rfl) | ((with_reducible (first | apply oE | apply oF)); (iterate 3 exact rfl); all_goals (intro h; first | (exact absurd h (by decide)) | ((try simp only [go_sem, simprocAttr] at h); (try with_reducible intro K hK); simp only [go_sem, simprocAttr]))) | ((first | ((with_reducible apply wL); exact rfl) | ((with_reducible apply wM); exact rfl)); all_goals (try ((with_reducible intro h); first | (exact absurd h (by decide)) | (try simp only [go_sem, simprocAttr] at h)))) | omega | ((first | fail); try simp only [go_sem, simprocAttr]) | (intro h))
  any_goals (refine mayB_out (k := k) (by omega) ?_; simp only [outE, outB, Bool.or_eq_true, decide_eq_true_eq]; omega)
  · refine ⟨k + 1, ⟨by omega, any_next (0, 0) (by omega) hp ?_⟩, ?_, by omega⟩
    · simp only [outE, outB, Bool.or_eq_false_iff, decide_eq_false_iff_not]; omega
    · (refine Le.of ?_ ?_ <;> simp [go_sem, simprocAttr])
  · rw [List.take_of_length_le (by omega)] at hp
    simp [mayB, hp]; omega
end Go.Ab
end
