/- Part 4 of what the law stands on: the abstract machine over the model, and what the functions answer. No condition. -/
import Derived.Test.YtigijjinlalnaaaProg
import Derived.Test.YtigijjinlalnaaaChecked
import Derived.Test.YtigijjinlalnaaaK3
set_option linter.unusedSimpArgs false
set_option linter.unusedVariables false

/- The tables of the seat for the abstract machine, written by a program of this session (wip/tools/aectx.py). -/
namespace Go.Proofs.Ytigijjinlalnaaa
open Go Go.AE

noncomputable def aeT : Tab TI :=
  (.node 77 (⟨.other, 1, 8, [.nilf]⟩) (.node 41 (⟨.other, 1, 8, [.nilf]⟩) (.node 23 (⟨(.slice 3), 1, 24, [.sl [] 0 0 false true]⟩) (.node 10 (⟨.str, 1, 16, [.str ⟨#[]⟩]⟩) (.node 4 (⟨.bool, 1, 1, [.bool false]⟩) (.node 2 (⟨(.int .i64), 1, 8, [.int .i64 0]⟩) (.node 1 (⟨.other, 1, 8, [.nilf]⟩) (.node 0 (⟨.other, 1, 0, []⟩) .leaf .leaf) .leaf) (.node 3 (⟨(.int .i64), 1, 8, [.int .i64 0]⟩) .leaf .leaf)) (.node 6 (⟨(.int .u8), 1, 1, [.int .u8 0]⟩) (.node 5 (⟨(.int .u8), 1, 1, [.int .u8 0]⟩) .leaf .leaf) (.node 9 (⟨.str, 1, 16, [.str ⟨#[]⟩]⟩) .leaf .leaf))) (.node 17 (⟨(.ptr 154), 1, 8, [.nilp]⟩) (.node 15 (⟨(.ptr 142), 1, 8, [.nilp]⟩) (.node 12 (⟨(.int .u64), 1, 8, [.int .u64 0]⟩) (.node 11 (⟨.str, 1, 16, [.str ⟨#[]⟩]⟩) .leaf .leaf) .leaf) (.node 16 (⟨(.ptr 145), 1, 8, [.nilp]⟩) .leaf .leaf)) (.node 21 (⟨(.int .i32), 1, 4, [.int .i32 0]⟩) (.node 20 (⟨.other, 1, 16, [.nili]⟩) .leaf .leaf) (.node 22 (⟨(.slice 25), 1, 24, [.sl [] 0 0 false true]⟩) .leaf .leaf)))) (.node 32 (⟨.other, 1, 8, [.nilf]⟩) (.node 28 (⟨.other, 1, 8, [.nilf]⟩) (.node 26 (⟨(.int .i64), 1, 8, [.int .i64 0]⟩) (.node 25 (⟨(.slice 36), 1, 24, [.sl [] 0 0 false true]⟩) (.node 24 (⟨.other, 1, 8, [.nilf]⟩) .leaf .leaf) .leaf) (.node 27 (⟨.other, 1, 0, []⟩) .leaf .leaf)) (.node 30 (⟨.other, 1, 8, [.nilf]⟩) (.node 29 (⟨.other, 1, 8, [.nilf]⟩) .leaf .leaf) (.node 31 (⟨.other, 1, 8, [.nilf]⟩) .leaf .leaf))) (.node 37 (⟨.other, 1, 8, [.nilf]⟩) (.node 35 (⟨.other, 1, 8, [.nilf]⟩) (.node 34 (⟨.other, 1, 8, [.nilf]⟩) (.node 33 (⟨.other, 1, 0, []⟩) .leaf .leaf) .leaf) (.node 36 (⟨(.array 2 3), 2, 16, [.int .i64 0, .int .i64 0]⟩) .leaf .leaf)) (.node 39 (⟨.other, 1, 0, []⟩) (.node 38 (⟨.other, 1, 8, [.nilf]⟩) .leaf .leaf) (.node 40 (⟨.other, 1, 8, [.nilf]⟩) .leaf .leaf))))) (.node 59 (⟨.other, 1, 8, [.nilf]⟩) (.node 50 (⟨.other, 1, 8, [.nilf]⟩) (.node 46 (⟨.other, 1, 8, [.nilf]⟩) (.node 44 (⟨.other, 1, 8, [.nilf]⟩) (.node 43 (⟨.other, 1, 8, [.nilf]⟩) (.node 42 (⟨.other, 1, 8, [.nilf]⟩) .leaf .leaf) .leaf) (.node 45 (⟨(.int .u64), 1, 8, [.int .u64 0]⟩) .leaf .leaf)) (.node 48 (⟨.other, 1, 8, [.nilf]⟩) (.node 47 (⟨.other, 1, 0, []⟩) .leaf .leaf) (.node 49 (⟨.other, 1, 8, [.nilf]⟩) .leaf .leaf))) (.node 55 (⟨.other, 1, 8, [.nilf]⟩) (.node 53 (⟨(.slice 9), 1, 24, [.sl [] 0 0 false true]⟩) (.node 52 (⟨.other, 1, 8, [.nilf]⟩) (.node 51 (⟨.other, 1, 0, []⟩) .leaf .leaf) .leaf) (.node 54 (⟨.other, 1, 0, []⟩) .leaf .leaf)) (.node 57 (⟨.other, 1, 0, []⟩) (.node 56 (⟨.other, 1, 8, [.nilf]⟩) .leaf .leaf) (.node 58 (⟨.other, 1, 8, [.nilf]⟩) .leaf .leaf)))) (.node 68 (⟨.other, 1, 0, []⟩) (.node 64 (⟨.other, 1, 8, [.nilf]⟩) (.node 62 (⟨.other, 1, 8, [.nilf]⟩) (.node 61 (⟨.other, 1, 8, [.nilf]⟩) (.node 60 (⟨.other, 1, 8, [.nilf]⟩) .leaf .leaf) .leaf) (.node 63 (⟨.other, 1, 8, [.nilf]⟩) .leaf .leaf)) (.node 66 (⟨(.slice 23), 1, 24, [.sl [] 0 0 false true]⟩) (.node 65 (⟨.other, 1, 8, [.nilf]⟩) .leaf .leaf) (.node 67 (⟨.other, 1, 8, [.nilf]⟩) .leaf .leaf))) (.node 73 (⟨(.array 10 3), 10, 80, (List.replicate 10 (.int .i64 0))⟩) (.node 71 (⟨.other, 1, 8, [.nilf]⟩) (.node 70 (⟨.other, 1, 0, []⟩) (.node 69 (⟨.other, 1, 8, [.nilf]⟩) .leaf .leaf) .leaf) (.node 72 (⟨.other, 1, 8, [.nilf]⟩) .leaf .leaf)) (.node 75 (⟨.other, 1, 0, []⟩) (.node 74 (⟨(.array 10 3), 10, 80, (List.replicate 10 (.int .i64 0))⟩) .leaf .leaf) (.node 76 (⟨.other, 1, 8, [.nilf]⟩) .leaf .leaf)))))) (.node 113 (⟨(.ptr 87), 1, 8, [.nilp]⟩) (.node 95 (⟨.other, 1, 8, [.nilf]⟩) (.node 86 (⟨(.array 10 85), 100, 100, (List.replicate 100 (.bool false))⟩) (.node 82 (⟨(.slice 74), 1, 24, [.sl [] 0 0 false true]⟩) (.node 80 (⟨.other, 1, 8, [.nilf]⟩) (.node 79 (⟨.other, 1, 0, []⟩) (.node 78 (⟨(.slice 4), 1, 24, [.sl [] 0 0 false true]⟩) .leaf .leaf) .leaf) (.node 81 (⟨.other, 1, 8, [.nilf]⟩) .leaf .leaf)) (.node 84 (⟨.other, 1, 8, [.nilf]⟩) (.node 83 (⟨.other, 1, 0, []⟩) .leaf .leaf) (.node 85 (⟨(.array 10 4), 10, 10, (List.replicate 10 (.bool false))⟩) .leaf .leaf))) (.node 91 (⟨.other, 1, 8, [.nilf]⟩) (.node 89 (⟨(.map 87 4), 1, 8, [.nilm]⟩) (.node 88 (⟨.other, 1, 8, [.nilf]⟩) (.node 87 (⟨(.array 10 85), 100, 100, (List.replicate 100 (.bool false))⟩) .leaf .leaf) .leaf) (.node 90 (⟨.other, 1, 8, [.nilf]⟩) .leaf .leaf)) (.node 93 (⟨.other, 1, 8, [.nilf]⟩) (.node 92 (⟨.other, 1, 8, [.nilf]⟩) .leaf .leaf) (.node 94 (⟨(.slice 97), 1, 24, [.sl [] 0 0 false true]⟩) .leaf .leaf)))) (.node 104 (⟨.other, 1, 8, [.nilf]⟩) (.node 100 (⟨.other, 1, 8, [.nilf]⟩) (.node 98 (⟨.other, 1, 8, [.nilf]⟩) (.node 97 (⟨(.struct [(0, 3), (1, 3)]), 2, 16, [.int .i64 0, .int .i64 0]⟩) (.node 96 (⟨(.struct [(0, 3), (1, 3)]), 2, 16, [.int .i64 0, .int .i64 0]⟩) .leaf .leaf) .leaf) (.node 99 (⟨(.array 100 4), 100, 100, (List.replicate 100 (.bool false))⟩) .leaf .leaf)) (.node 102 (⟨.other, 1, 8, [.nilf]⟩) (.node 101 (⟨.other, 1, 0, []⟩) .leaf .leaf) (.node 103 (⟨.other, 1, 8, [.nilf]⟩) .leaf .leaf))) (.node 109 (⟨.other, 1, 8, [.nilf]⟩) (.node 107 (⟨.other, 1, 8, [.nilf]⟩) (.node 106 (⟨(.map 3 3), 1, 8, [.nilm]⟩) (.node 105 (⟨(.map 3 4), 1, 8, [.nilm]⟩) .leaf .leaf) .leaf) (.node 108 (⟨.other, 1, 8, [.nilf]⟩) .leaf .leaf)) (.node 111 (⟨.other, 1, 8, [.nilf]⟩) (.node 110 (⟨.other, 1, 8, [.nilf]⟩) .leaf .leaf) (.node 112 (⟨.other, 1, 8, [.nilf]⟩) .leaf .leaf))))) (.node 131 (⟨(.int .u64), 1, 8, [.int .u64 0]⟩) (.node 122 (⟨.other, 1, 8, [.nilf]⟩) (.node 118 (⟨.other, 1, 8, [.nilf]⟩) (.node 116 (⟨.other, 1, 8, [.nilf]⟩) (.node 115 (⟨.other, 1, 8, [.nilf]⟩) (.node 114 (⟨.other, 1, 8, [.nilf]⟩) .leaf .leaf) .leaf) (.node 117 (⟨.other, 1, 8, [.nilf]⟩) .leaf .leaf)) (.node 120 (⟨.other, 1, 0, []⟩) (.node 119 (⟨(.int .i64), 1, 8, [.int .i64 0]⟩) .leaf .leaf) (.node 121 (⟨.other, 1, 8, [.nilf]⟩) .leaf .leaf))) (.node 127 (⟨.other, 1, 8, [.nilf]⟩) (.node 125 (⟨.other, 1, 0, []⟩) (.node 124 (⟨.other, 1, 8, [.nilf]⟩) (.node 123 (⟨.other, 1, 8, [.nilf]⟩) .leaf .leaf) .leaf) (.node 126 (⟨.other, 1, 8, [.nilf]⟩) .leaf .leaf)) (.node 129 (⟨.other, 1, 8, [.nilf]⟩) (.node 128 (⟨(.int .u32), 1, 4, [.int .u32 0]⟩) .leaf .leaf) (.node 130 (⟨(.int .u64), 1, 8, [.int .u64 0]⟩) .leaf .leaf)))) (.node 140 (⟨.other, 1, 8, [.nilf]⟩) (.node 136 (⟨.other, 1, 8, [.nilf]⟩) (.node 134 (⟨.other, 1, 8, [.nilf]⟩) (.node 133 (⟨.other, 1, 8, [.nilf]⟩) (.node 132 (⟨.other, 1, 8, [.nilf]⟩) .leaf .leaf) .leaf) (.node 135 (⟨(.ptr 3), 1, 8, [.nilp]⟩) .leaf .leaf)) (.node 138 (⟨.other, 1, 0, []⟩) (.node 137 (⟨(.ptr 131), 1, 8, [.nilp]⟩) .leaf .leaf) (.node 139 (⟨.other, 1, 8, [.nilf]⟩) .leaf .leaf))) (.node 150 (⟨(.ptr 5), 1, 8, [.nilp]⟩) (.node 148 (⟨(.int .u8), 1, 1, [.int .u8 0]⟩) (.node 147 (⟨(.int .u8), 1, 1, [.int .u8 0]⟩) (.node 146 (⟨.other, 1, 8, [.nilf]⟩) .leaf .leaf) .leaf) (.node 149 (⟨.other, 1, 8, [.nilf]⟩) .leaf .leaf)) (.node 152 (⟨(.int .i32), 1, 4, [.int .i32 0]⟩) (.node 151 (⟨(.int .i32), 1, 4, [.int .i32 0]⟩) .leaf .leaf) (.node 155 (⟨.other, 1, 8, []⟩) .leaf .leaf)))))))

noncomputable def aeRets : Tab (List Nat) :=
  (.node 57 [22] (.node 28 [3, 22, 26] (.node 14 [23, 26] (.node 7 [4] (.node 3 [4] (.node 1 [] (.node 0 [] .leaf .leaf) (.node 2 [] .leaf .leaf)) (.node 5 [4] (.node 4 [4] .leaf .leaf) (.node 6 [4] .leaf .leaf))) (.node 11 [4] (.node 9 [4] (.node 8 [4] .leaf .leaf) (.node 10 [4] .leaf .leaf)) (.node 13 [22] (.node 12 [4] .leaf .leaf) .leaf))) (.node 21 [4] (.node 18 [23] (.node 16 [4] (.node 15 [4] .leaf .leaf) (.node 17 [4] .leaf .leaf)) (.node 20 [23] (.node 19 [3, 22] .leaf .leaf) .leaf)) (.node 25 [3] (.node 23 [4] (.node 22 [22, 4, 26] .leaf .leaf) (.node 24 [4] .leaf .leaf)) (.node 27 [3] (.node 26 [4] .leaf .leaf) .leaf)))) (.node 43 [22, 26] (.node 36 [53] (.node 32 [3, 26] (.node 30 [4] (.node 29 [3] .leaf .leaf) (.node 31 [3] .leaf .leaf)) (.node 34 [9] (.node 33 [53, 26] .leaf .leaf) (.node 35 [22, 26] .leaf .leaf))) (.node 40 [4] (.node 38 [23] (.node 37 [23, 26] .leaf .leaf) (.node 39 [22, 26] .leaf .leaf)) (.node 42 [22, 26] (.node 41 [22] .leaf .leaf) .leaf))) (.node 50 [26] (.node 47 [66, 26] (.node 45 [66] (.node 44 [4] .leaf .leaf) (.node 46 [4] .leaf .leaf)) (.node 49 [4, 26] (.node 48 [4, 26] .leaf .leaf) .leaf)) (.node 54 [4, 3] (.node 52 [74, 4] (.node 51 [4] .leaf .leaf) (.node 53 [23] .leaf .leaf)) (.node 56 [82, 4] (.node 55 [22] .leaf .leaf) .leaf))))) (.node 86 [4] (.node 72 [23] (.node 65 [] (.node 61 [3] (.node 59 [4] (.node 58 [] .leaf .leaf) (.node 60 [92] .leaf .leaf)) (.node 63 [4] (.node 62 [94] .leaf .leaf) (.node 64 [82, 26] .leaf .leaf))) (.node 69 [66] (.node 67 [53] (.node 66 [3] .leaf .leaf) (.node 68 [22] .leaf .leaf)) (.node 71 [4] (.node 70 [4] .leaf .leaf) .leaf))) (.node 79 [3] (.node 76 [4] (.node 74 [25] (.node 73 [] .leaf .leaf) (.node 75 [] .leaf .leaf)) (.node 78 [] (.node 77 [3] .leaf .leaf) .leaf)) (.node 83 [3, 119] (.node 81 [] (.node 80 [] .leaf .leaf) (.node 82 [] .leaf .leaf)) (.node 85 [4] (.node 84 [] .leaf .leaf) .leaf)))) (.node 100 [9] (.node 93 [130] (.node 90 [3] (.node 88 [3, 4] (.node 87 [3] .leaf .leaf) (.node 89 [3] .leaf .leaf)) (.node 92 [45] (.node 91 [] .leaf .leaf) .leaf)) (.node 97 [3, 3] (.node 95 [3] (.node 94 [3] .leaf .leaf) (.node 96 [4] .leaf .leaf)) (.node 99 [] (.node 98 [9] .leaf .leaf) .leaf))) (.node 107 [] (.node 104 [9] (.node 102 [9] (.node 101 [] .leaf .leaf) (.node 103 [] .leaf .leaf)) (.node 106 [9] (.node 105 [] .leaf .leaf) .leaf)) (.node 111 [9] (.node 109 [] (.node 108 [9] .leaf .leaf) (.node 110 [3] .leaf .leaf)) (.node 113 [9] (.node 112 [] .leaf .leaf) .leaf))))))

noncomputable def aeIsoT : Tab Bool :=
  (.node 44 true (.node 23 true (.node 12 true (.node 7 true (.node 4 true (.node 3 true (.node 2 true .leaf .leaf) .leaf) (.node 6 true (.node 5 true .leaf .leaf) .leaf)) (.node 10 true (.node 9 true (.node 8 true .leaf .leaf) .leaf) (.node 11 true .leaf .leaf))) (.node 18 true (.node 15 true (.node 14 true (.node 13 true .leaf .leaf) .leaf) (.node 17 true (.node 16 true .leaf .leaf) .leaf)) (.node 21 true (.node 20 true (.node 19 true .leaf .leaf) .leaf) (.node 22 true .leaf .leaf)))) (.node 34 true (.node 29 true (.node 26 true (.node 25 true (.node 24 true .leaf .leaf) .leaf) (.node 28 true (.node 27 true .leaf .leaf) .leaf)) (.node 32 true (.node 31 true (.node 30 true .leaf .leaf) .leaf) (.node 33 true .leaf .leaf))) (.node 39 true (.node 37 true (.node 36 true (.node 35 true .leaf .leaf) .leaf) (.node 38 true .leaf .leaf)) (.node 42 true (.node 41 true (.node 40 true .leaf .leaf) .leaf) (.node 43 true .leaf .leaf))))) (.node 71 true (.node 55 true (.node 50 true (.node 47 true (.node 46 true (.node 45 true .leaf .leaf) .leaf) (.node 49 true (.node 48 true .leaf .leaf) .leaf)) (.node 53 true (.node 52 true (.node 51 true .leaf .leaf) .leaf) (.node 54 true .leaf .leaf))) (.node 66 true (.node 61 true (.node 57 true (.node 56 true .leaf .leaf) .leaf) (.node 64 true (.node 63 true .leaf .leaf) .leaf)) (.node 69 true (.node 68 true (.node 67 true .leaf .leaf) .leaf) (.node 70 true .leaf .leaf)))) (.node 88 true (.node 83 true (.node 79 true (.node 77 true (.node 72 true .leaf .leaf) .leaf) (.node 82 true (.node 81 true .leaf .leaf) .leaf)) (.node 86 true (.node 85 true (.node 84 true .leaf .leaf) .leaf) (.node 87 true .leaf .leaf))) (.node 93 true (.node 91 true (.node 90 true (.node 89 true .leaf .leaf) .leaf) (.node 92 true .leaf .leaf)) (.node 96 true (.node 95 true (.node 94 true .leaf .leaf) .leaf) (.node 97 true .leaf .leaf))))))

noncomputable def aeIso (f : FuncId) : Bool := (tget aeIsoT f).isSome

noncomputable def aePolT : Tab (Tab Pol) :=
  (.node 45 (.node 2 ⟨[0, 1, 5, 6, 7, 8], [], []⟩ (.node 0 ⟨[0, 1, 5, 6], [(5, 1)], []⟩ .leaf .leaf) .leaf) (.node 23 (.node 2 ⟨[0, 1, 5, 6, 7], [], []⟩ (.node 0 ⟨[0, 1, 5, 6], [], []⟩ .leaf .leaf) .leaf) (.node 11 (.node 2 ⟨[1, 5, 7, 8, 14, 15], [], []⟩ (.node 0 ⟨[1, 5, 6, 7], [], []⟩ .leaf .leaf) .leaf) (.node 7 (.node 2 ⟨[0, 1, 5, 7, 8, 10, 12], [], []⟩ (.node 0 ⟨[0, 1, 5, 6, 7], [], []⟩ .leaf .leaf) (.node 4 ⟨[0, 1, 5, 7, 8, 10, 12, 13, 14, 15], [], []⟩ .leaf .leaf)) (.node 4 (.node 3 ⟨[0, 2, 7, 8, 12], [], []⟩ (.node 0 ⟨[0, 2, 7, 8], [], []⟩ .leaf .leaf) (.node 5 ⟨[0, 2, 7, 8, 12, 13, 14, 15], [(13, 2)], []⟩ .leaf .leaf)) (.node 3 (.node 2 ⟨[0, 2, 8, 9, 10], [], []⟩ (.node 0 ⟨[0, 2, 7], [(7, 1)], []⟩ .leaf .leaf) (.node 5 ⟨[0, 2, 8, 10, 13, 15, 16, 17], [(15, 2)], []⟩ .leaf .leaf)) .leaf .leaf) (.node 5 (.node 2 ⟨[1, 13, 14, 15, 16, 17], [(16, 2)], []⟩ (.node 0 ⟨[1, 13, 14, 15], [(14, 1)], []⟩ .leaf .leaf) .leaf) .leaf .leaf)) (.node 9 (.node 0 ⟨[0, 3], [], []⟩ .leaf .leaf) (.node 8 (.node 2 ⟨[2, 7, 8, 21, 22], [], []⟩ (.node 0 ⟨[2, 7, 8, 9, 13, 14], [], []⟩ .leaf .leaf) .leaf) .leaf .leaf) (.node 10 (.node 4 ⟨[7, 8, 11, 15, 21, 22, 26], [], []⟩ (.node 2 ⟨[7, 8, 9, 11, 15, 21, 22, 23, 24, 25], [], []⟩ (.node 0 ⟨[7, 8, 9, 11, 15, 21, 22, 23], [], []⟩ .leaf .leaf) .leaf) (.node 6 ⟨[7, 27, 28, 29, 30], [], []⟩ .leaf .leaf)) .leaf .leaf))) (.node 18 (.node 2 ⟨[0, 1, 2, 7, 8, 9, 10, 11], [], []⟩ (.node 0 ⟨[0, 1, 2, 7, 8, 9], [(8, 1)], []⟩ .leaf .leaf) (.node 4 ⟨[0, 1, 2, 7, 8, 9, 10, 14], [], []⟩ .leaf .leaf)) (.node 16 (.node 0 ⟨[0, 1, 5, 6], [], []⟩ .leaf .leaf) (.node 13 (.node 0 ⟨[0, 1, 2, 7, 8], [(7, 1)], []⟩ .leaf .leaf) .leaf .leaf) (.node 17 (.node 0 ⟨[0, 1, 5], [], []⟩ .leaf .leaf) .leaf .leaf)) (.node 20 (.node 0 ⟨[0, 1, 5, 6], [(5, 1)], []⟩ .leaf .leaf) (.node 19 (.node 2 ⟨[0, 1, 6, 7, 8, 9, 10, 11], [], []⟩ (.node 0 ⟨[0, 1, 6, 7, 8, 9], [(7, 1)], []⟩ .leaf .leaf) .leaf) .leaf .leaf) (.node 22 (.node 2 ⟨[1, 2, 9, 11, 32, 33, 34, 38, 39], [], []⟩ (.node 0 ⟨[1, 2, 9, 32, 33, 34], [], []⟩ .leaf .leaf) .leaf) .leaf .leaf)))) (.node 36 (.node 2 ⟨[0, 1, 5, 6, 7, 8], [], []⟩ (.node 0 ⟨[0, 1, 5, 6], [(5, 1)], []⟩ .leaf .leaf) .leaf) (.node 30 (.node 2 ⟨[0, 1, 2, 7, 8], [], []⟩ (.node 0 ⟨[0, 1, 2, 7], [], []⟩ .leaf .leaf) .leaf) (.node 26 (.node 2 ⟨[0, 1, 5, 6], [], []⟩ (.node 0 ⟨[0, 1, 5], [], []⟩ .leaf .leaf) .leaf) (.node 24 (.node 2 ⟨[0, 1, 5, 6, 7], [], []⟩ (.node 0 ⟨[0, 1, 5, 6], [], []⟩ .leaf .leaf) .leaf) .leaf .leaf) (.node 29 (.node 6 ⟨[0, 1, 5, 6, 7, 9, 10, 11], [], []⟩ (.node 2 ⟨[0, 1, 5, 6, 7, 8], [], []⟩ (.node 0 ⟨[0, 1, 5, 6], [], []⟩ .leaf .leaf) (.node 4 ⟨[0, 1, 5, 6, 7, 9], [], []⟩ .leaf .leaf)) (.node 10 ⟨[0, 1, 5, 6, 7, 9, 10, 12, 13, 14], [], []⟩ (.node 8 ⟨[0, 1, 5, 6, 7, 9, 10, 12], [], []⟩ .leaf .leaf) (.node 12 ⟨[5, 15, 16], [], []⟩ .leaf .leaf))) .leaf .leaf)) (.node 34 (.node 0 ⟨[0, 3, 4], [], []⟩ .leaf .leaf) (.node 31 (.node 2 ⟨[0, 5, 6, 7, 8], [], []⟩ (.node 0 ⟨[0, 5, 6, 7], [], []⟩ .leaf .leaf) .leaf) .leaf .leaf) (.node 35 (.node 2 ⟨[0, 4, 5, 6, 8, 9, 16, 17], [(8, 2)], []⟩ (.node 0 ⟨[0, 4, 5, 16, 17], [(5, 1)], []⟩ .leaf .leaf) .leaf) .leaf .leaf))) (.node 40 (.node 0 ⟨[0, 1, 5, 6], [], []⟩ .leaf .leaf) (.node 38 (.node 0 ⟨[0, 1, 5, 6], [(5, 1)], []⟩ .leaf .leaf) (.node 37 (.node 0 ⟨[2, 10, 29, 30, 31], [(10, 1)], []⟩ .leaf .leaf) .leaf .leaf) (.node 39 (.node 2 ⟨[2, 13, 54, 55, 56], [(13, 1)], []⟩ (.node 0 ⟨[0, 1, 2, 10, 29, 30, 31], [], []⟩ .leaf .leaf) (.node 4 ⟨[2, 13, 16, 54, 55, 56, 60, 61, 62], [(16, 2)], []⟩ .leaf .leaf)) .leaf .leaf)) (.node 42 (.node 2 ⟨[0, 4, 5, 6, 7, 18, 19, 21, 22], [], []⟩ (.node 0 ⟨[0, 4, 5, 6, 18, 19], [(6, 10)], []⟩ .leaf .leaf) .leaf) (.node 41 (.node 2 ⟨[0, 1, 5, 6, 7, 8], [(7, 2)], []⟩ (.node 0 ⟨[0, 1, 5, 6], [(5, 1)], []⟩ .leaf .leaf) .leaf) .leaf .leaf) (.node 44 (.node 2 ⟨[0, 3, 4], [], []⟩ (.node 0 ⟨[0, 3], [], []⟩ .leaf .leaf) .leaf) .leaf .leaf))))) (.node 69 (.node 2 ⟨[0, 1, 5, 24, 25, 26], [], []⟩ (.node 0 ⟨[0, 1, 5, 14, 15], [], []⟩ .leaf .leaf) (.node 4 ⟨[0, 1, 5, 8, 9, 24, 25, 26, 39, 40], [], []⟩ .leaf .leaf)) (.node 58 (.node 0 ⟨[0, 2, 8, 9, 10], [], []⟩ .leaf .leaf) (.node 54 (.node 0 ⟨[0, 1, 6], [], []⟩ .leaf .leaf) (.node 52 (.node 0 ⟨[0, 4, 6, 7, 19, 20, 21], [], []⟩ .leaf .leaf) (.node 46 (.node 2 ⟨[0, 1, 5, 6], [], []⟩ (.node 0 ⟨[0, 1, 5], [], []⟩ .leaf .leaf) .leaf) .leaf .leaf) (.node 53 (.node 2 ⟨[4, 5, 7, 8, 10, 14, 15, 25, 26, 27], [], []⟩ (.node 0 ⟨[4, 5, 7, 8, 14, 15], [(7, 1)], []⟩ .leaf .leaf) .leaf) .leaf .leaf)) (.node 56 (.node 2 ⟨[0, 6, 7, 10, 18, 19, 20, 32, 33], [], []⟩ (.node 0 ⟨[0, 6, 7, 18, 19, 20], [(7, 10)], []⟩ .leaf .leaf) .leaf) (.node 55 (.node 2 ⟨[0, 3, 4, 5, 6], [(5, 2)], []⟩ (.node 0 ⟨[0, 3, 4], [(3, 1)], []⟩ .leaf .leaf) .leaf) .leaf .leaf) (.node 57 (.node 0 ⟨[3, 6, 7, 8], [(3, 1)], []⟩ .leaf .leaf) .leaf .leaf))) (.node 65 (.node 1 ⟨[0, 1, 2, 6, 10], [], []⟩ .leaf .leaf) (.node 61 (.node 0 ⟨[0, 1, 7, 8], [], []⟩ .leaf .leaf) (.node 59 (.node 2 ⟨[0, 4, 5, 6, 9, 10, 40, 41, 42], [(10, 2)], []⟩ .leaf .leaf) .leaf .leaf) (.node 63 (.node 2 ⟨[0, 1, 3, 6, 9, 10], [], []⟩ (.node 0 ⟨[0, 1, 3, 6, 9], [], []⟩ .leaf .leaf) .leaf) .leaf .leaf)) (.node 67 (.node 2 ⟨[5, 12, 13, 14, 18, 19, 20], [], []⟩ (.node 0 ⟨[5, 12, 13, 14], [], []⟩ .leaf .leaf) .leaf) (.node 66 (.node 2 ⟨[3, 5, 6, 7, 8, 9], [(3, 1)], []⟩ (.node 0 ⟨[3, 7, 8, 9], [(3, 1)], []⟩ .leaf .leaf) .leaf) .leaf .leaf) (.node 68 (.node 2 ⟨[0, 5, 7, 8, 10, 11, 12, 16, 17], [(8, 2)], []⟩ (.node 0 ⟨[0, 5, 10, 11, 12], [(5, 1)], []⟩ .leaf .leaf) .leaf) .leaf .leaf)))) (.node 81 (.node 2 ⟨[0, 6, 7, 10], [], []⟩ (.node 0 ⟨[0, 6, 7, 8, 9], [], []⟩ .leaf .leaf) .leaf) (.node 76 (.node 0 ⟨[0, 2, 3, 4, 5, 7, 8], [], []⟩ .leaf .leaf) (.node 71 (.node 2 ⟨[0, 1, 5, 8, 9, 12, 13], [], []⟩ (.node 0 ⟨[0, 1, 8, 9], [], []⟩ .leaf .leaf) .leaf) (.node 70 (.node 2 ⟨[5, 11, 12, 13, 18, 19, 20], [], []⟩ (.node 0 ⟨[11, 12, 13], [], []⟩ .leaf .leaf) .leaf) .leaf .leaf) (.node 72 (.node 0 ⟨[2, 3, 4, 7, 8], [(7, 1)], []⟩ .leaf .leaf) .leaf .leaf)) (.node 78 (.node 0 ⟨[0, 1, 2, 3, 8, 9], [], []⟩ .leaf .leaf) (.node 77 (.node 0 ⟨[3, 6, 7, 8], [], []⟩ .leaf .leaf) .leaf .leaf) (.node 80 (.node 2 ⟨[0, 1, 2, 6, 7], [], []⟩ (.node 0 ⟨[0, 1, 2, 6], [], []⟩ .leaf .leaf) .leaf) .leaf .leaf))) (.node 87 (.node 2 ⟨[0, 1, 9, 10], [], []⟩ (.node 0 ⟨[0, 1, 9, 10], [], []⟩ .leaf .leaf) (.node 4 ⟨[0, 1, 9, 10], [], []⟩ .leaf .leaf)) (.node 84 (.node 0 ⟨[0, 6, 7], [], []⟩ .leaf .leaf) (.node 82 (.node 0 ⟨[0, 1, 6, 7, 8, 9], [], []⟩ .leaf .leaf) .leaf .leaf) (.node 85 (.node 4 ⟨[0, 1, 2, 7, 8, 9], [], []⟩ (.node 2 ⟨[0, 1, 2, 7, 8], [], []⟩ (.node 0 ⟨[0, 1, 2, 7, 8], [], []⟩ .leaf .leaf) .leaf) (.node 6 ⟨[0, 1, 2, 7, 8, 10], [], []⟩ .leaf .leaf)) .leaf .leaf)) (.node 91 (.node 0 ⟨[0, 2, 3, 8], [], []⟩ .leaf .leaf) (.node 88 (.node 4 ⟨[0, 1, 10, 11], [], []⟩ (.node 2 ⟨[0, 1, 10, 11], [], []⟩ (.node 0 ⟨[0, 1, 10, 11], [], []⟩ .leaf .leaf) .leaf) (.node 8 ⟨[0, 1, 10, 11], [], []⟩ (.node 6 ⟨[0, 1, 10, 11], [], []⟩ .leaf .leaf) .leaf)) .leaf .leaf) .leaf)))))

noncomputable def aePol (f b : Nat) : Option Pol := match tget aePolT f with
  | some t => tget t b
  | none => none

noncomputable def aeXPolT : Tab (Tab Pol) :=
  (.node 44 (.node 2 ⟨[0, 3], [], []⟩ (.node 0 ⟨[], [], []⟩ .leaf .leaf) .leaf) (.node 23 (.node 2 ⟨[0, 1, 5, 6], [], []⟩ (.node 0 ⟨[0, 1], [], []⟩ .leaf .leaf) .leaf) (.node 11 (.node 2 ⟨[1, 7], [], []⟩ (.node 0 ⟨[], [], []⟩ .leaf .leaf) .leaf) (.node 7 (.node 2 ⟨[0, 1, 5, 7], [], []⟩ (.node 0 ⟨[], [], []⟩ .leaf .leaf) (.node 4 ⟨[0, 1, 5, 7, 8, 10, 12, 13, 14], [], []⟩ .leaf .leaf)) (.node 4 (.node 3 ⟨[0, 2, 7, 8], [], []⟩ (.node 0 ⟨[], [], []⟩ .leaf .leaf) (.node 5 ⟨[0, 2, 7, 8, 12, 13], [], []⟩ .leaf .leaf)) (.node 3 (.node 2 ⟨[], [], []⟩ (.node 0 ⟨[0, 2, 7], [], []⟩ .leaf .leaf) (.node 5 ⟨[0, 2, 8, 10, 15], [], []⟩ .leaf .leaf)) .leaf .leaf) (.node 5 (.node 2 ⟨[1, 13, 14, 15, 16], [], []⟩ (.node 0 ⟨[1, 14], [], []⟩ .leaf .leaf) .leaf) .leaf .leaf)) (.node 9 (.node 0 ⟨[], [], []⟩ .leaf .leaf) (.node 8 (.node 2 ⟨[], [], []⟩ (.node 0 ⟨[2, 7, 8], [], []⟩ .leaf .leaf) .leaf) .leaf .leaf) (.node 10 (.node 4 ⟨[7, 8, 11, 15, 21], [], []⟩ (.node 2 ⟨[7, 8, 9, 11, 15, 21, 22, 23, 24], [], []⟩ (.node 0 ⟨[7, 8, 11, 15, 21, 22], [], []⟩ .leaf .leaf) .leaf) (.node 6 ⟨[7, 28, 29], [], []⟩ .leaf .leaf)) .leaf .leaf))) (.node 18 (.node 2 ⟨[0, 1, 2, 7, 8, 9, 10], [], []⟩ (.node 1 ⟨[0, 1, 2, 7, 8, 9], [], []⟩ (.node 0 ⟨[8], [], []⟩ .leaf .leaf) .leaf) (.node 4 ⟨[0, 1, 2, 7, 8, 9, 10, 14], [], []⟩ .leaf .leaf)) (.node 16 (.node 0 ⟨[0, 1], [], []⟩ .leaf .leaf) (.node 13 (.node 0 ⟨[7], [], []⟩ .leaf .leaf) .leaf .leaf) (.node 17 (.node 0 ⟨[], [], []⟩ .leaf .leaf) .leaf .leaf)) (.node 20 (.node 0 ⟨[5], [], []⟩ .leaf .leaf) (.node 19 (.node 2 ⟨[0, 1, 6, 7, 8, 9, 10], [], []⟩ (.node 0 ⟨[0, 7], [], []⟩ .leaf .leaf) .leaf) .leaf .leaf) (.node 22 (.node 2 ⟨[1, 2, 9, 32, 33, 34], [], []⟩ (.node 0 ⟨[1, 2, 9], [], []⟩ .leaf .leaf) .leaf) .leaf .leaf)))) (.node 36 (.node 2 ⟨[0, 1, 5, 6, 7], [], []⟩ (.node 0 ⟨[5], [], []⟩ .leaf .leaf) .leaf) (.node 30 (.node 2 ⟨[0, 1, 2, 7], [], []⟩ (.node 0 ⟨[], [], []⟩ .leaf .leaf) .leaf) (.node 26 (.node 2 ⟨[0, 1, 5], [], []⟩ (.node 0 ⟨[], [], []⟩ .leaf .leaf) .leaf) (.node 24 (.node 2 ⟨[0, 1, 5, 6], [], []⟩ (.node 0 ⟨[0, 1, 5], [], []⟩ .leaf .leaf) .leaf) .leaf .leaf) (.node 29 (.node 6 ⟨[0, 1, 5, 6, 7, 9, 10], [], []⟩ (.node 2 ⟨[0, 1, 5, 6, 7], [], []⟩ (.node 0 ⟨[5], [], []⟩ .leaf .leaf) (.node 4 ⟨[0, 1, 6, 7], [], []⟩ .leaf .leaf)) (.node 10 ⟨[0, 1, 5, 6, 7, 9, 10, 12, 13], [], []⟩ (.node 8 ⟨[0, 1, 5, 6, 7, 9], [], []⟩ .leaf .leaf) (.node 12 ⟨[15], [], []⟩ .leaf .leaf))) .leaf .leaf)) (.node 34 (.node 0 ⟨[3], [], []⟩ .leaf .leaf) (.node 31 (.node 2 ⟨[0, 5, 6, 7], [], []⟩ (.node 0 ⟨[6], [], []⟩ .leaf .leaf) .leaf) .leaf .leaf) (.node 35 (.node 2 ⟨[0, 4, 5, 8, 16, 17], [], []⟩ (.node 0 ⟨[5], [], []⟩ .leaf .leaf) .leaf) .leaf .leaf))) (.node 40 (.node 0 ⟨[0, 1], [], []⟩ .leaf .leaf) (.node 38 (.node 0 ⟨[5], [], []⟩ .leaf .leaf) (.node 37 (.node 0 ⟨[10], [], []⟩ .leaf .leaf) .leaf .leaf) (.node 39 (.node 2 ⟨[13], [], []⟩ (.node 0 ⟨[0, 1, 2], [], []⟩ .leaf .leaf) (.node 4 ⟨[2, 13, 16, 54, 55, 56], [], []⟩ .leaf .leaf)) .leaf .leaf)) (.node 42 (.node 2 ⟨[0, 4, 5, 6, 7, 18, 19], [], []⟩ (.node 0 ⟨[0, 6], [], []⟩ .leaf .leaf) .leaf) (.node 41 (.node 2 ⟨[0, 1, 5, 6, 7], [], []⟩ (.node 0 ⟨[5], [], []⟩ .leaf .leaf) .leaf) .leaf .leaf) .leaf)))) (.node 68 (.node 2 ⟨[0, 5, 8, 10, 11, 12], [], []⟩ (.node 0 ⟨[5], [], []⟩ .leaf .leaf) .leaf) (.node 57 (.node 0 ⟨[3], [], []⟩ .leaf .leaf) (.node 53 (.node 1 ⟨[4, 5, 7, 8, 14, 15], [], []⟩ (.node 0 ⟨[7], [], []⟩ .leaf .leaf) (.node 2 ⟨[4, 5, 7, 8, 10, 14, 15], [], []⟩ .leaf .leaf)) (.node 46 (.node 2 ⟨[0, 1, 5], [], []⟩ (.node 0 ⟨[], [], []⟩ .leaf .leaf) .leaf) (.node 45 (.node 2 ⟨[0, 1, 5, 6, 7], [], []⟩ (.node 0 ⟨[5], [], []⟩ .leaf .leaf) .leaf) .leaf .leaf) (.node 52 (.node 0 ⟨[4, 6], [], []⟩ .leaf .leaf) .leaf .leaf)) (.node 55 (.node 2 ⟨[0, 3, 4, 5], [], []⟩ (.node 0 ⟨[3], [], []⟩ .leaf .leaf) .leaf) (.node 54 (.node 0 ⟨[], [], []⟩ .leaf .leaf) .leaf .leaf) (.node 56 (.node 2 ⟨[0, 6, 7, 10, 18, 19, 20], [], []⟩ (.node 0 ⟨[7], [], []⟩ .leaf .leaf) .leaf) .leaf .leaf))) (.node 63 (.node 2 ⟨[], [], []⟩ (.node 0 ⟨[0, 1, 3, 6, 9], [], []⟩ .leaf .leaf) (.node 3 ⟨[0, 1, 3, 6, 9, 10], [], []⟩ .leaf .leaf)) (.node 59 (.node 2 ⟨[0, 4, 5, 6, 9, 10], [], []⟩ (.node 0 ⟨[2, 3, 6], [], []⟩ .leaf .leaf) .leaf) (.node 58 (.node 0 ⟨[], [], []⟩ .leaf .leaf) .leaf .leaf) (.node 61 (.node 0 ⟨[], [], []⟩ .leaf .leaf) .leaf .leaf)) (.node 66 (.node 2 ⟨[3, 7, 8, 9], [], []⟩ (.node 0 ⟨[3], [], []⟩ .leaf .leaf) .leaf) (.node 65 (.node 1 ⟨[], [], []⟩ .leaf .leaf) .leaf .leaf) (.node 67 (.node 2 ⟨[5, 12, 13, 14], [], []⟩ (.node 0 ⟨[5], [], []⟩ .leaf .leaf) .leaf) .leaf .leaf)))) (.node 81 (.node 2 ⟨[], [], []⟩ (.node 0 ⟨[0, 6, 7, 8], [], []⟩ .leaf .leaf) .leaf) (.node 76 (.node 1 ⟨[0, 2, 3, 4, 5, 7, 8], [], []⟩ (.node 0 ⟨[0, 7], [], []⟩ .leaf .leaf) .leaf) (.node 70 (.node 2 ⟨[11, 12, 13], [], []⟩ (.node 0 ⟨[], [], []⟩ .leaf .leaf) .leaf) (.node 69 (.node 2 ⟨[5], [], []⟩ (.node 0 ⟨[0, 1, 5], [], []⟩ .leaf .leaf) (.node 4 ⟨[0, 1, 5, 24, 25, 26], [], []⟩ .leaf .leaf)) .leaf .leaf) (.node 71 (.node 2 ⟨[0, 1, 8, 9], [], []⟩ (.node 0 ⟨[], [], []⟩ .leaf .leaf) .leaf) .leaf .leaf)) (.node 78 (.node 1 ⟨[0, 1, 2, 3, 8, 9], [], []⟩ .leaf .leaf) (.node 77 (.node 0 ⟨[3], [], []⟩ .leaf .leaf) .leaf .leaf) (.node 80 (.node 2 ⟨[0, 1, 2, 6], [], []⟩ (.node 0 ⟨[], [], []⟩ .leaf .leaf) .leaf) .leaf .leaf))) (.node 87 (.node 2 ⟨[0, 1, 9, 10], [], []⟩ (.node 0 ⟨[9], [], []⟩ .leaf .leaf) (.node 4 ⟨[0, 1, 9, 10], [], []⟩ .leaf .leaf)) (.node 84 (.node 0 ⟨[], [], []⟩ .leaf .leaf) (.node 82 (.node 0 ⟨[], [], []⟩ .leaf .leaf) .leaf .leaf) (.node 85 (.node 4 ⟨[0, 1, 2, 7, 8], [], []⟩ (.node 2 ⟨[0, 1, 2, 7, 8], [], []⟩ (.node 0 ⟨[], [], []⟩ .leaf .leaf) .leaf) (.node 6 ⟨[0, 1, 2, 7, 8], [], []⟩ .leaf .leaf)) .leaf .leaf)) (.node 91 (.node 0 ⟨[], [], []⟩ .leaf .leaf) (.node 88 (.node 4 ⟨[0, 1, 11], [], []⟩ (.node 2 ⟨[0, 1, 10, 11], [], []⟩ (.node 0 ⟨[0, 1, 10, 11], [], []⟩ .leaf .leaf) .leaf) (.node 8 ⟨[0, 1, 10, 11], [], []⟩ (.node 6 ⟨[0, 1, 10, 11], [], []⟩ .leaf .leaf) .leaf)) .leaf .leaf) .leaf)))))

noncomputable def aeXPol (f b : Nat) : Option Pol := match tget aeXPolT f with
  | some t => tget t b
  | none => none

noncomputable def aePlanT : Tab (Tab Plan) :=
  (.node 46 (.node 7 ⟨[⟨0, false, [], false, none⟩, ⟨1, false, [], false, none⟩, ⟨2, false, [], false, none⟩, ⟨3, false, [], false, none⟩, ⟨4, false, [], false, none⟩, ⟨5, false, [], false, none⟩, ⟨6, false, [], false, none⟩, ⟨7, false, [], false, none⟩, ⟨8, false, [], false, none⟩, ⟨9, false, [], false, none⟩, ⟨10, false, [], false, none⟩, ⟨11, false, [], false, none⟩], [[], [], [], [1, 2], [1, 2, 3], [], [], [5, 6], [5, 6, 7], [0, 1, 2, 3, 4, 5, 6, 7, 8], [0, 1, 2, 3, 4, 5, 6, 7, 8, 9], [0, 1, 2, 3, 4, 5, 6, 7, 8, 9, 10]]⟩ .leaf .leaf) (.node 21 (.node 5 ⟨[⟨0, false, [], false, none⟩, ⟨1, false, [], false, none⟩, ⟨2, false, [], false, none⟩, ⟨3, false, [], false, none⟩, ⟨4, false, [], false, none⟩, ⟨5, false, [], false, none⟩, ⟨6, false, [], false, none⟩, ⟨7, false, [], false, none⟩, ⟨8, false, [], false, none⟩, ⟨9, false, [], false, none⟩, ⟨10, false, [], false, none⟩, ⟨11, false, [], false, none⟩], [[], [0], [0, 1], [], [3], [3, 4], [0, 1, 2, 3, 4, 5], [0, 1, 2, 3, 4, 5, 6], [0, 1, 2, 3, 4, 5, 6, 7], [0, 1, 2, 3, 4, 5, 6, 7], [0, 1, 2, 3, 4, 5, 6, 7, 8], [0, 1, 2, 3, 4, 5, 6, 7, 8, 9, 10]]⟩ .leaf .leaf) (.node 10 (.node 35 ⟨[⟨0, false, [], false, none⟩, ⟨1, false, [], false, none⟩, ⟨2, false, [], false, none⟩, ⟨3, false, [], false, none⟩, ⟨4, false, [], false, none⟩, ⟨5, false, [], false, none⟩, ⟨6, false, [], false, none⟩, ⟨7, false, [], false, none⟩, ⟨8, false, [], false, none⟩, ⟨9, false, [], false, none⟩, ⟨10, false, [], false, none⟩, ⟨11, false, [], false, none⟩, ⟨12, false, [], false, none⟩, ⟨13, false, [], false, none⟩, ⟨14, false, [], false, none⟩, ⟨15, false, [], false, none⟩], [[], [], [1], [1, 2], [], [], [5], [5, 6], [4, 5, 6, 7], [4, 5, 6, 7, 8], [0, 1, 2, 3, 4, 5, 6, 7, 8, 9], [0, 1, 2, 3, 4, 5, 6, 7, 8, 9, 10], [0, 1, 2, 3, 4, 5, 6, 7, 8, 9, 10, 11], [0, 1, 2, 3, 4, 5, 6, 7, 8, 9, 10, 11], [0, 1, 2, 3, 4, 5, 6, 7, 8, 9, 10, 11, 12], [0, 1, 2, 3, 4, 5, 6, 7, 8, 9, 10, 11, 12, 13, 14]]⟩ (.node 25 ⟨[⟨0, false, [], false, none⟩, ⟨1, false, [], false, none⟩, ⟨2, false, [], false, none⟩, ⟨3, false, [], false, none⟩, ⟨4, false, [], false, none⟩, ⟨5, false, [], false, none⟩, ⟨6, false, [], false, none⟩, ⟨7, false, [], false, none⟩, ⟨8, false, [], false, none⟩, ⟨9, false, [], false, none⟩, ⟨10, false, [], false, none⟩, ⟨11, false, [], false, none⟩, ⟨12, false, [], false, none⟩, ⟨13, false, [], false, none⟩, ⟨14, false, [], false, none⟩, ⟨15, false, [], false, none⟩, ⟨16, false, [], false, none⟩, ⟨17, false, [], false, none⟩], [[], [], [], [1, 2], [1, 2, 3], [], [1, 2, 3, 4, 5], [1, 2, 3, 4, 5, 6], [], [], [8, 9], [8, 9, 10], [], [8, 9, 10, 11, 12], [8, 9, 10, 11, 12, 13], [1, 2, 3, 4, 5, 6, 7, 8, 9, 10, 11, 12, 13, 14], [0, 1, 2, 3, 4, 5, 6, 7, 8, 9, 10, 11, 12, 13, 14, 15], [0, 1, 2, 3, 4, 5, 6, 7, 8, 9, 10, 11, 12, 13, 14, 15, 16]]⟩ (.node 24 ⟨[⟨0, false, [], false, none⟩, ⟨1, false, [], false, none⟩, ⟨2, false, [], false, none⟩, ⟨3, false, [], false, none⟩, ⟨4, false, [], false, none⟩, ⟨5, false, [], false, none⟩, ⟨6, false, [], false, none⟩, ⟨7, false, [], false, none⟩, ⟨8, false, [], false, none⟩, ⟨9, false, [], false, none⟩, ⟨10, false, [], false, none⟩, ⟨11, false, [], false, none⟩, ⟨12, false, [], false, none⟩, ⟨13, false, [], false, none⟩, ⟨14, false, [], false, none⟩, ⟨15, true, [], false, none⟩], [[], [], [], [], [2, 3], [2, 3, 4], [], [], [6, 7], [6, 7, 8], [], [6, 7, 8, 9, 10], [6, 7, 8, 9, 10, 11], [2, 3, 4, 5, 6, 7, 8, 9, 10, 11, 12], [0, 1, 2, 3, 4, 5, 6, 7, 8, 9, 10, 11, 12, 13], [0, 1, 2, 3, 4, 5, 6, 7, 8, 9, 10, 11, 12, 13, 14]]⟩ .leaf .leaf) .leaf) (.node 41 ⟨[⟨0, false, [], false, none⟩, ⟨1, false, [], false, none⟩, ⟨2, false, [], false, none⟩, ⟨3, false, [], false, none⟩, ⟨4, false, [], false, none⟩, ⟨5, false, [], false, none⟩, ⟨6, false, [], false, none⟩, ⟨7, false, [], false, none⟩, ⟨8, false, [], false, none⟩, ⟨9, false, [], false, none⟩, ⟨10, false, [], false, none⟩, ⟨11, false, [], false, none⟩, ⟨12, false, [], false, none⟩, ⟨13, false, [], false, none⟩, ⟨14, false, [], false, none⟩, ⟨15, false, [], false, none⟩, ⟨16, false, [], false, none⟩, ⟨17, false, [], false, none⟩, ⟨18, false, [], false, none⟩, ⟨19, false, [], false, none⟩, ⟨20, false, [], false, none⟩, ⟨21, false, [], false, none⟩, ⟨22, false, [], false, none⟩, ⟨23, false, [], false, none⟩, ⟨24, false, [], false, none⟩, ⟨25, false, [], false, none⟩, ⟨26, false, [], false, none⟩, ⟨27, false, [], false, none⟩, ⟨28, false, [], false, none⟩], [[], [], [0, 1], [0, 1, 2], [0, 1, 2, 3], [0, 1, 2, 3, 4], [0, 1, 2, 3, 4, 5], [0, 1, 2, 3, 4, 5, 6], [0, 1, 2, 3, 4, 5, 6], [0, 1, 2, 3, 4, 5, 6, 7, 8], [0, 1, 2, 3, 4, 5, 6, 7, 8, 9], [0, 1, 2, 3, 4, 5, 6, 7, 8, 9, 10], [0, 1, 2, 3, 4, 5, 6, 7, 8, 9, 10, 11], [0, 1, 2, 3, 4, 5, 6, 7, 8, 9, 10, 11, 12], [0, 1, 2, 3, 4, 5, 6, 7, 8, 9, 10, 11, 12, 13], [0, 1, 2, 3, 4, 5, 6, 7, 8, 9, 10, 11, 12, 13, 14], [0, 1, 2, 3, 4, 5, 6, 7, 8, 9, 10, 11, 12, 13, 14, 15], [0, 1, 2, 3, 4, 5, 6, 7, 8, 9, 10, 11, 12, 13, 14, 15, 16], [0, 1, 2, 3, 4, 5, 6, 7, 8, 9, 10, 11, 12, 13, 14, 15, 16], [0, 1, 2, 3, 4, 5, 6, 7, 8, 9, 10, 11, 12, 13, 14, 15, 16, 18], [0, 1, 2, 3, 4, 5, 6, 7, 8, 9, 10, 11, 12, 13, 14, 15, 16, 17, 18, 19], [0, 1, 2, 3, 4, 5, 6, 7, 8, 9, 10, 11, 12, 13, 14, 15, 16, 17, 18, 19, 20], [0, 1, 2, 3, 4, 5, 6, 7, 8, 9, 10, 11, 12, 13, 14, 15, 16], [0, 1, 2, 3, 4, 5, 6, 7, 8, 9, 10, 11, 12, 13, 14, 15, 16], [0, 1, 2, 3, 4, 5, 6, 7, 8, 9, 10, 11, 12, 13, 14, 15, 16, 22, 23], [0, 1, 2, 3, 4, 5, 6, 7, 8, 9, 10, 11, 12, 13, 14, 15, 16, 22, 23, 24], [0, 1, 2, 3, 4, 5, 6, 7, 8, 9, 10, 11, 12, 13, 14, 15, 16, 17, 18, 19, 20, 21, 22, 23, 24, 25], [0, 1, 2, 3, 4, 5, 6, 7, 8, 9, 10, 11, 12, 13, 14, 15, 16, 17, 18, 19, 20, 21, 22, 23, 24, 25, 26], [0, 1, 2, 3, 4, 5, 6, 7, 8, 9, 10, 11, 12, 13, 14, 15, 16, 17, 18, 19, 20, 21, 22, 23, 24, 25, 26, 27]]⟩ .leaf .leaf)) (.node 5 (.node 18 ⟨[⟨1, false, [], false, none⟩, ⟨2, false, [], false, none⟩, ⟨3, false, [], false, none⟩, ⟨4, false, [], false, none⟩, ⟨5, false, [], false, none⟩, ⟨6, false, [], false, none⟩, ⟨7, false, [], false, none⟩, ⟨8, false, [], false, none⟩, ⟨9, false, [], false, none⟩, ⟨10, false, [], false, none⟩, ⟨11, false, [], false, none⟩, ⟨12, false, [], false, none⟩, ⟨13, false, [], false, none⟩, ⟨14, true, [], false, none⟩, ⟨0, false, [14], false, none⟩, ⟨15, true, [], false, none⟩, ⟨16, false, [], false, none⟩], [[], [], [], [1, 2], [1, 2, 3], [], [], [], [6, 7], [6, 7, 8], [6, 7, 8, 9], [5, 6, 7, 8, 9, 10], [5, 6, 7, 8, 9, 10, 11], [1, 2, 3, 4, 5, 6, 7, 8, 9, 10, 11, 12], [1, 2, 3, 4, 5, 6, 7, 8, 9, 10, 11, 12, 13], [0, 1, 2, 3, 4, 5, 6, 7, 8, 9, 10, 11, 12, 13, 14], [0, 1, 2, 3, 4, 5, 6, 7, 8, 9, 10, 11, 12, 13, 14, 15]]⟩ (.node 7 ⟨[⟨0, false, [], false, none⟩, ⟨1, false, [], false, none⟩, ⟨2, false, [], false, none⟩, ⟨3, false, [], false, none⟩, ⟨4, false, [], false, none⟩, ⟨5, false, [], false, none⟩, ⟨6, false, [], false, none⟩, ⟨7, false, [], false, none⟩, ⟨8, false, [], false, none⟩, ⟨9, false, [], false, none⟩, ⟨10, false, [], false, none⟩, ⟨11, false, [], false, none⟩, ⟨12, false, [], false, none⟩, ⟨13, false, [], false, none⟩, ⟨14, false, [], false, none⟩, ⟨15, false, [], false, none⟩, ⟨16, false, [], false, none⟩, ⟨17, false, [], false, none⟩, ⟨18, false, [], false, none⟩, ⟨19, false, [], false, none⟩, ⟨20, false, [], false, none⟩, ⟨21, false, [], false, none⟩], [[], [0], [0, 1], [0, 1, 2], [0, 1, 2, 3], [0, 1, 2, 3, 4], [0, 1, 2, 3, 4, 5], [0, 1, 2, 3, 4, 5, 6], [0, 1, 2, 3, 4, 5, 6], [0, 1, 2, 3, 4, 5, 6, 7, 8], [0, 1, 2, 3, 4, 5, 6, 7, 8, 9], [0, 1, 2, 3, 4, 5, 6, 7, 8, 9, 10], [0, 1, 2, 3, 4, 5, 6, 7, 8, 9, 10, 11], [0, 1, 2, 3, 4, 5, 6, 7, 8, 9, 10, 11, 12], [0, 1, 2, 3, 4, 5, 6, 7, 8, 9, 10, 11, 12], [0, 1, 2, 3, 4, 5, 6, 7, 8, 9, 10, 11, 12, 13, 14], [0, 1, 2, 3, 4, 5, 6, 7, 8, 9, 10, 11, 12], [0, 1, 2, 3, 4, 5, 6, 7, 8, 9, 10, 11, 12], [0, 1, 2, 3, 4, 5, 6, 7, 8, 9, 10, 11, 12, 16, 17], [0, 1, 2, 3, 4, 5, 6, 7, 8, 9, 10, 11, 12, 13, 14, 15, 16, 17, 18], [0, 1, 2, 3, 4, 5, 6, 7, 8, 9, 10, 11, 12, 13, 14, 15, 16, 17, 18, 19], [0, 1, 2, 3, 4, 5, 6, 7, 8, 9, 10, 11, 12, 13, 14, 15, 16, 17, 18, 19, 20]]⟩ .leaf .leaf) (.node 22 ⟨[⟨0, false, [], false, none⟩, ⟨1, false, [], false, none⟩, ⟨2, false, [], false, none⟩, ⟨3, false, [], false, none⟩, ⟨4, false, [], false, none⟩, ⟨5, false, [], false, none⟩, ⟨6, false, [], false, none⟩, ⟨7, false, [], false, none⟩, ⟨8, false, [], false, none⟩, ⟨9, false, [], false, none⟩, ⟨10, false, [], false, none⟩, ⟨11, false, [], false, none⟩, ⟨12, false, [], false, none⟩, ⟨13, false, [], false, none⟩, ⟨14, true, [], false, none⟩, ⟨15, true, [], false, none⟩, ⟨16, false, [], false, none⟩, ⟨17, false, [], false, none⟩, ⟨18, false, [], false, none⟩, ⟨19, false, [], false, none⟩, ⟨20, false, [], false, none⟩, ⟨21, false, [], false, none⟩, ⟨22, false, [], false, none⟩, ⟨23, false, [], false, none⟩], [[], [0], [0, 1], [], [3], [3, 4], [0, 1, 2, 3, 4, 5], [], [7], [7, 8], [], [10], [10, 11], [7, 8, 9, 10, 11, 12], [0, 1, 2, 3, 4, 5, 6, 7, 8, 9, 10, 11, 12, 13], [0, 1, 2, 3, 4, 5, 6, 7, 8, 9, 10, 11, 12, 13, 14], [0, 1, 2, 3, 4, 5, 6, 7, 8, 9, 10, 11, 12, 13, 14, 15], [0, 1, 2, 3, 4, 5, 6, 7, 8, 9, 10, 11, 12, 13, 14, 15, 16], [0, 1, 2, 3, 4, 5, 6, 7, 8, 9, 10, 11, 12, 13, 14, 15, 16, 17], [0, 1, 2, 3, 4, 5, 6, 7, 8, 9, 10, 11, 12, 13, 14, 15, 16, 17], [0, 1, 2, 3, 4, 5, 6, 7, 8, 9, 10, 11, 12, 13, 14, 15, 16, 17], [0, 1, 2, 3, 4, 5, 6, 7, 8, 9, 10, 11, 12, 13, 14, 15, 16, 17, 18], [0, 1, 2, 3, 4, 5, 6, 7, 8, 9, 10, 11, 12, 13, 14, 15, 16, 17, 18, 19, 21], [0, 1, 2, 3, 4, 5, 6, 7, 8, 9, 10, 11, 12, 13, 14, 15, 16, 17, 18, 19, 20, 21, 22]]⟩ .leaf .leaf)) (.node 4 (.node 24 ⟨[⟨1, false, [], false, none⟩, ⟨2, false, [], false, none⟩, ⟨3, false, [], false, none⟩, ⟨4, false, [], false, none⟩, ⟨5, false, [], false, none⟩, ⟨6, false, [], false, none⟩, ⟨7, false, [], false, none⟩, ⟨8, false, [], false, none⟩, ⟨9, false, [], false, none⟩, ⟨10, false, [], false, none⟩, ⟨11, true, [], false, none⟩, ⟨0, false, [11], false, none⟩, ⟨12, true, [], false, none⟩, ⟨13, false, [], false, none⟩], [[], [], [], [1, 2], [1, 2, 3], [], [], [6], [5, 6, 7], [5, 6, 7, 8], [1, 2, 3, 4, 5, 6, 7, 8, 9], [1, 2, 3, 4, 5, 6, 7, 8, 9, 10], [0, 1, 2, 3, 4, 5, 6, 7, 8, 9, 10, 11], [0, 1, 2, 3, 4, 5, 6, 7, 8, 9, 10, 11, 12]]⟩ .leaf .leaf) (.node 3 (.node 18 ⟨[⟨0, false, [], false, none⟩, ⟨1, false, [], false, none⟩, ⟨2, false, [], false, none⟩, ⟨3, false, [], false, none⟩, ⟨4, false, [], false, none⟩, ⟨5, false, [], false, none⟩], [[], [], [1], [1, 2], [0], [0, 1, 2, 3, 4]]⟩ (.node 4 ⟨[⟨0, false, [], false, none⟩, ⟨1, false, [], false, none⟩, ⟨2, false, [], false, none⟩, ⟨3, false, [], false, none⟩, ⟨4, false, [], false, none⟩, ⟨5, false, [], false, none⟩, ⟨6, false, [], false, none⟩, ⟨7, false, [], false, none⟩], [[], [0], [0, 1], [], [3], [3, 4], [0, 1, 2], [0, 1, 2, 3, 4, 5, 6]]⟩ .leaf .leaf) (.node 24 ⟨[⟨1, false, [], false, none⟩, ⟨2, false, [], false, none⟩, ⟨3, false, [], false, none⟩, ⟨4, false, [], false, none⟩, ⟨5, false, [], false, none⟩, ⟨6, false, [], false, none⟩, ⟨7, false, [], false, none⟩, ⟨8, false, [], false, none⟩, ⟨9, false, [], false, none⟩, ⟨10, false, [], false, none⟩, ⟨11, true, [], false, none⟩, ⟨0, false, [11], false, none⟩, ⟨12, true, [], false, none⟩, ⟨13, false, [], false, none⟩], [[], [], [], [1, 2], [1, 2, 3], [], [], [6], [5, 6, 7], [5, 6, 7, 8], [1, 2, 3, 4, 5, 6, 7, 8, 9], [1, 2, 3, 4, 5, 6, 7, 8, 9, 10], [0, 1, 2, 3, 4, 5, 6, 7, 8, 9, 10, 11], [0, 1, 2, 3, 4, 5, 6, 7, 8, 9, 10, 11, 12]]⟩ .leaf .leaf)) .leaf .leaf) .leaf) (.node 8 (.node 11 ⟨[⟨0, false, [], false, none⟩, ⟨1, false, [], false, none⟩, ⟨2, false, [], false, none⟩, ⟨3, false, [], false, none⟩, ⟨4, false, [], false, none⟩, ⟨5, false, [], false, none⟩, ⟨6, false, [], false, none⟩, ⟨7, false, [], false, none⟩, ⟨8, false, [], false, none⟩, ⟨9, false, [], false, none⟩, ⟨10, false, [], false, none⟩, ⟨11, false, [], false, none⟩, ⟨12, false, [], false, none⟩, ⟨13, false, [], false, none⟩, ⟨14, false, [], false, none⟩, ⟨15, false, [], false, none⟩, ⟨16, false, [], false, none⟩, ⟨17, false, [], false, none⟩, ⟨18, false, [], false, none⟩, ⟨19, false, [], false, none⟩, ⟨20, false, [], false, none⟩], [[], [], [0, 1], [0, 1, 2], [], [], [4, 5], [4, 5, 6], [0, 1, 2, 3, 4, 5, 6, 7], [0, 1, 2, 3, 4, 5, 6, 7, 8], [0, 1, 2, 3, 4, 5, 6, 7, 8, 9], [0, 1, 2, 3, 4, 5, 6, 7, 8, 9, 10], [0, 1, 2, 3, 4, 5, 6, 7, 8, 9, 10, 11], [0, 1, 2, 3, 4, 5, 6, 7, 8, 9, 10, 11, 12], [0, 1, 2, 3, 4, 5, 6, 7, 8, 9, 10, 11, 12, 13], [0, 1, 2, 3, 4, 5, 6, 7, 8, 9, 10, 11, 12, 13], [0, 1, 2, 3, 4, 5, 6, 7, 8, 9, 10, 11, 12, 13], [0, 1, 2, 3, 4, 5, 6, 7, 8, 9, 10, 11, 12, 13, 15, 16], [0, 1, 2, 3, 4, 5, 6, 7, 8, 9, 10, 11, 12, 13, 14, 15, 16, 17], [0, 1, 2, 3, 4, 5, 6, 7, 8, 9, 10, 11, 12, 13, 14, 15, 16, 17, 18], [0, 1, 2, 3, 4, 5, 6, 7, 8, 9, 10, 11, 12, 13, 14, 15, 16, 17, 18, 19]]⟩ .leaf .leaf) (.node 7 (.node 18 ⟨[⟨0, false, [], false, none⟩, ⟨1, false, [], false, none⟩, ⟨2, false, [], false, none⟩, ⟨3, false, [], false, none⟩, ⟨4, false, [], false, none⟩, ⟨5, false, [], false, none⟩, ⟨6, false, [], false, none⟩, ⟨7, false, [], false, none⟩, ⟨8, false, [], false, none⟩, ⟨9, false, [], false, none⟩], [[], [], [0, 1], [0, 1, 2], [0, 1, 2, 3], [], [], [5, 6], [5, 6, 7], [0, 1, 2, 3, 4, 5, 6, 7, 8]]⟩ (.node 16 ⟨[⟨0, false, [], false, none⟩, ⟨1, false, [], false, none⟩, ⟨2, false, [], false, none⟩, ⟨3, false, [], false, none⟩, ⟨4, false, [], false, none⟩, ⟨5, false, [], false, none⟩, ⟨6, false, [], false, none⟩, ⟨7, false, [], false, none⟩, ⟨8, false, [], false, none⟩], [[], [], [0, 1], [0, 1, 2], [], [], [4, 5], [4, 5, 6], [0, 1, 2, 3, 4, 5, 6, 7]]⟩ .leaf .leaf) .leaf) .leaf .leaf) .leaf)) (.node 16 (.node 8 ⟨[⟨0, false, [], false, none⟩, ⟨1, false, [], false, none⟩, ⟨2, false, [], false, none⟩, ⟨3, false, [], false, none⟩, ⟨4, false, [], false, none⟩, ⟨5, false, [], false, none⟩, ⟨6, false, [], false, none⟩, ⟨7, false, [], false, none⟩], [[], [], [1], [0, 1, 2], [], [4], [0, 1, 2, 3, 4, 5], [0, 1, 2, 3, 4, 5, 6]]⟩ (.node 5 ⟨[⟨0, false, [], false, none⟩, ⟨1, false, [], false, none⟩, ⟨2, false, [], false, none⟩, ⟨3, false, [], false, none⟩, ⟨4, false, [], false, none⟩, ⟨5, false, [], false, none⟩, ⟨6, false, [], false, none⟩, ⟨7, false, [], false, none⟩, ⟨8, false, [], false, none⟩, ⟨9, false, [], false, none⟩, ⟨10, false, [], false, none⟩, ⟨11, false, [], false, none⟩], [[], [], [0, 1], [0, 1, 2], [0, 1, 2, 3], [], [], [5, 6], [5, 6, 7], [5, 6, 7, 8], [0, 1, 2, 3, 4], [0, 1, 2, 3, 4, 5, 6, 7, 8, 9, 10]]⟩ .leaf .leaf) .leaf) (.node 13 (.node 6 ⟨[⟨1, false, [], false, none⟩, ⟨2, false, [], false, none⟩, ⟨3, false, [], false, none⟩, ⟨4, false, [], false, none⟩, ⟨5, false, [], false, none⟩, ⟨6, false, [], false, none⟩, ⟨7, false, [], false, none⟩, ⟨8, false, [], false, none⟩, ⟨9, false, [], false, none⟩, ⟨10, false, [], false, none⟩, ⟨11, false, [], false, none⟩, ⟨12, false, [], false, none⟩, ⟨13, false, [], false, none⟩, ⟨14, true, [], false, none⟩, ⟨15, true, [], false, none⟩, ⟨0, false, [14, 15], false, none⟩, ⟨16, true, [], false, none⟩, ⟨17, false, [], false, none⟩], [[], [], [], [], [2, 3], [2, 3, 4], [], [], [6, 7], [6, 7, 8], [6, 7, 8, 9], [], [6, 7, 8, 9, 10, 11], [2, 3, 4, 5, 6, 7, 8, 9, 10, 11, 12], [1, 2, 3, 4, 5, 6, 7, 8, 9, 10, 11, 12, 13], [1, 2, 3, 4, 5, 6, 7, 8, 9, 10, 11, 12, 13, 14], [0, 1, 2, 3, 4, 5, 6, 7, 8, 9, 10, 11, 12, 13, 14, 15], [0, 1, 2, 3, 4, 5, 6, 7, 8, 9, 10, 11, 12, 13, 14, 15, 16]]⟩ .leaf .leaf) (.node 11 (.node 14 ⟨[⟨0, false, [], false, none⟩, ⟨1, false, [], false, none⟩, ⟨2, false, [], false, none⟩, ⟨3, false, [], false, none⟩, ⟨4, false, [], false, none⟩, ⟨5, false, [], false, none⟩, ⟨6, false, [], false, none⟩, ⟨7, false, [], false, none⟩, ⟨8, false, [], false, none⟩, ⟨9, false, [], false, none⟩], [[], [], [0, 1], [0, 1, 2], [], [], [4, 5], [4, 5, 6], [0, 1, 2, 3, 4, 5, 6, 7], [0, 1, 2, 3, 4, 5, 6, 7, 8]]⟩ .leaf .leaf) .leaf .leaf) .leaf) (.node 19 (.node 13 ⟨[⟨0, false, [], false, none⟩, ⟨1, false, [], false, none⟩, ⟨2, false, [], false, none⟩, ⟨3, false, [], false, none⟩, ⟨4, false, [], false, none⟩, ⟨5, false, [], false, none⟩, ⟨6, false, [], false, none⟩, ⟨7, false, [], false, none⟩, ⟨8, false, [], false, none⟩, ⟨9, false, [], false, none⟩, ⟨10, false, [], false, none⟩, ⟨11, false, [], false, none⟩, ⟨12, false, [], false, none⟩, ⟨13, false, [], false, none⟩, ⟨14, true, [], false, none⟩], [[], [], [], [], [2, 3], [2, 3, 4], [2, 3, 4, 5], [], [], [7, 8], [7, 8, 9], [7, 8, 9, 10], [2, 3, 4, 5, 6, 7, 8, 9, 10, 11], [0, 1, 2, 3, 4, 5, 6, 7, 8, 9, 10, 11, 12], [0, 1, 2, 3, 4, 5, 6, 7, 8, 9, 10, 11, 12, 13]]⟩ .leaf .leaf) (.node 17 (.node 6 ⟨[⟨0, false, [], false, none⟩, ⟨1, false, [], false, none⟩, ⟨2, false, [], false, none⟩, ⟨3, false, [], false, none⟩, ⟨4, false, [], false, none⟩, ⟨5, false, [], false, none⟩, ⟨6, false, [], false, none⟩, ⟨7, false, [], false, none⟩, ⟨8, false, [], false, none⟩], [[], [], [0, 1], [0, 1, 2], [], [], [4, 5], [4, 5, 6], [0, 1, 2, 3, 4, 5, 6, 7]]⟩ .leaf .leaf) .leaf .leaf) .leaf))) (.node 29 (.node 25 ⟨[⟨0, false, [], false, none⟩, ⟨1, false, [], false, none⟩, ⟨2, false, [], false, none⟩, ⟨3, false, [], false, none⟩, ⟨4, false, [], false, none⟩, ⟨5, false, [], false, none⟩, ⟨6, false, [], false, none⟩, ⟨7, false, [], false, none⟩, ⟨8, false, [], false, none⟩], [[], [], [0, 1], [0, 1, 2], [], [], [4, 5], [4, 5, 6], [0, 1, 2, 3, 4, 5, 6, 7]]⟩ (.node 17 ⟨[⟨0, false, [], false, none⟩, ⟨1, false, [], false, none⟩, ⟨2, false, [], false, none⟩, ⟨3, false, [], false, none⟩, ⟨4, false, [], false, none⟩, ⟨5, false, [], false, none⟩, ⟨6, false, [], false, none⟩, ⟨7, false, [], false, none⟩, ⟨8, false, [], false, none⟩, ⟨9, false, [], false, none⟩, ⟨10, false, [], false, none⟩, ⟨11, false, [], false, none⟩, ⟨12, false, [], false, none⟩, ⟨13, false, [], false, none⟩, ⟨14, false, [], false, none⟩, ⟨15, false, [], false, none⟩], [[], [], [], [1, 2], [1, 2, 3], [], [], [], [6, 7], [6, 7, 8], [1, 2, 3, 4, 5], [1, 2, 3, 4, 5, 6, 7, 8, 9, 10], [1, 2, 3, 4, 5, 6, 7, 8, 9, 10, 11], [1, 2, 3, 4, 5, 6, 7, 8, 9, 10, 11, 12], [0, 1, 2, 3, 4, 5, 6, 7, 8, 9, 10, 11, 12, 13], [0, 1, 2, 3, 4, 5, 6, 7, 8, 9, 10, 11, 12, 13, 14]]⟩ .leaf .leaf) (.node 27 ⟨[⟨0, false, [], false, none⟩, ⟨1, false, [], false, none⟩, ⟨2, false, [], false, none⟩, ⟨3, false, [], false, none⟩, ⟨4, false, [], false, none⟩, ⟨5, false, [], false, none⟩, ⟨6, false, [], false, none⟩, ⟨7, false, [], false, none⟩, ⟨8, false, [], false, none⟩, ⟨9, false, [], false, none⟩, ⟨10, false, [], false, none⟩, ⟨11, false, [], false, none⟩, ⟨12, false, [], false, none⟩, ⟨13, false, [], false, none⟩, ⟨14, true, [], false, none⟩], [[], [], [], [], [2, 3], [2, 3, 4], [], [], [6, 7], [6, 7, 8], [], [6, 7, 8, 9, 10], [2, 3, 4, 5, 6, 7, 8, 9, 10, 11], [0, 1, 2, 3, 4, 5, 6, 7, 8, 9, 10, 11, 12], [0, 1, 2, 3, 4, 5, 6, 7, 8, 9, 10, 11, 12, 13]]⟩ .leaf .leaf)) (.node 24 (.node 8 ⟨[⟨0, false, [], false, none⟩, ⟨1, false, [], false, none⟩, ⟨2, false, [], false, none⟩, ⟨3, false, [], false, none⟩, ⟨4, false, [], false, none⟩, ⟨5, false, [], false, none⟩, ⟨6, false, [], false, none⟩, ⟨7, false, [], false, none⟩, ⟨8, false, [], false, none⟩, ⟨9, false, [], false, none⟩, ⟨10, false, [], false, none⟩, ⟨11, false, [], false, none⟩, ⟨12, false, [], false, none⟩, ⟨13, false, [], false, none⟩, ⟨14, false, [], false, none⟩, ⟨15, false, [], false, none⟩, ⟨16, false, [], false, none⟩, ⟨17, false, [], false, none⟩], [[], [], [0, 1], [0, 1, 2], [], [0, 1, 2, 3, 4], [0, 1, 2, 3, 4, 5], [0, 1, 2, 3, 4, 5, 6], [], [], [8, 9], [8, 9, 10], [], [8, 9, 10, 11, 12], [8, 9, 10, 11, 12, 13], [8, 9, 10, 11, 12, 13, 14], [0, 1, 2, 3, 4, 5, 6, 7], [0, 1, 2, 3, 4, 5, 6, 7, 8, 9, 10, 11, 12, 13, 14, 15, 16]]⟩ .leaf .leaf) (.node 23 (.node 10 ⟨[⟨0, false, [], false, none⟩, ⟨1, false, [], false, none⟩, ⟨2, false, [], false, none⟩, ⟨3, false, [], false, none⟩, ⟨4, false, [], false, none⟩, ⟨5, false, [], false, none⟩, ⟨6, false, [], false, none⟩, ⟨7, false, [], false, none⟩, ⟨8, false, [], false, none⟩, ⟨9, false, [], false, none⟩, ⟨10, false, [], false, none⟩, ⟨11, false, [], false, none⟩, ⟨12, false, [], false, none⟩, ⟨13, false, [], false, none⟩, ⟨14, false, [], false, none⟩, ⟨15, false, [], false, none⟩, ⟨16, false, [], false, none⟩, ⟨17, false, [], false, none⟩], [[], [], [0, 1], [0, 1, 2], [], [0, 1, 2, 3, 4], [0, 1, 2, 3, 4, 5], [0, 1, 2, 3, 4, 5, 6], [], [], [8, 9], [8, 9, 10], [], [8, 9, 10, 11, 12], [8, 9, 10, 11, 12, 13], [8, 9, 10, 11, 12, 13, 14], [0, 1, 2, 3, 4, 5, 6, 7], [0, 1, 2, 3, 4, 5, 6, 7, 8, 9, 10, 11, 12, 13, 14, 15, 16]]⟩ .leaf .leaf) (.node 22 (.node 13 ⟨[⟨0, false, [], false, none⟩, ⟨1, false, [], false, none⟩, ⟨2, false, [], false, none⟩, ⟨3, false, [], false, none⟩, ⟨4, false, [], false, none⟩, ⟨5, false, [], false, none⟩, ⟨6, true, [], false, none⟩], [[], [], [1], [1, 2], [0], [0, 1, 2, 3, 4], [0, 1, 2, 3, 4, 5]]⟩ .leaf .leaf) .leaf .leaf) .leaf) (.node 28 (.node 11 ⟨[⟨0, false, [], false, none⟩, ⟨1, false, [], false, none⟩, ⟨2, false, [], false, none⟩, ⟨3, false, [], false, none⟩, ⟨4, false, [], false, none⟩], [[], [], [0], [0, 1, 2], [0, 1, 2, 3]]⟩ .leaf .leaf) (.node 26 (.node 11 ⟨[⟨0, false, [], false, none⟩, ⟨1, false, [], false, none⟩, ⟨2, false, [], false, none⟩, ⟨3, false, [], false, none⟩, ⟨4, false, [], false, none⟩, ⟨5, false, [], false, none⟩, ⟨6, false, [], false, none⟩, ⟨7, false, [], false, none⟩, ⟨8, false, [], false, none⟩, ⟨9, false, [], false, none⟩, ⟨10, false, [], false, none⟩, ⟨11, false, [], false, none⟩, ⟨12, false, [], false, none⟩, ⟨13, false, [], false, none⟩, ⟨14, false, [], false, none⟩], [[], [], [0, 1], [0, 1, 2], [], [0, 1, 2, 3, 4], [0, 1, 2, 3, 4, 5], [], [], [7, 8], [7, 8, 9], [], [7, 8, 9, 10, 11], [7, 8, 9, 10, 11, 12], [0, 1, 2, 3, 4, 5, 6, 7, 8, 9, 10, 11, 12, 13]]⟩ (.node 6 ⟨[⟨0, false, [], false, none⟩, ⟨1, false, [], false, none⟩, ⟨2, false, [], false, none⟩, ⟨3, false, [], false, none⟩, ⟨4, false, [], false, none⟩, ⟨5, false, [], false, none⟩, ⟨6, false, [], false, none⟩, ⟨7, false, [], false, none⟩, ⟨8, false, [], false, none⟩, ⟨9, false, [], false, none⟩, ⟨10, false, [], false, none⟩], [[], [], [0, 1], [0, 1, 2], [0, 1, 2, 3], [], [], [5, 6], [5, 6, 7], [5, 6, 7, 8], [0, 1, 2, 3, 4, 5, 6, 7, 8, 9]]⟩ .leaf .leaf) .leaf) .leaf .leaf) .leaf)) (.node 39 (.node 22 ⟨[⟨1, false, [], false, none⟩, ⟨2, false, [], false, none⟩, ⟨3, false, [], false, none⟩, ⟨4, false, [], false, none⟩, ⟨5, false, [], false, none⟩, ⟨6, false, [], false, none⟩, ⟨7, false, [], false, none⟩, ⟨8, false, [], false, none⟩, ⟨9, false, [], false, none⟩, ⟨10, false, [], false, none⟩, ⟨11, false, [], false, none⟩, ⟨12, true, [], false, none⟩, ⟨0, false, [12], false, none⟩, ⟨13, true, [], false, none⟩, ⟨14, false, [], false, none⟩], [[], [], [], [2], [1, 2, 3], [1, 2, 3, 4], [], [], [7], [6, 7, 8], [6, 7, 8, 9], [1, 2, 3, 4, 5, 6, 7, 8, 9, 10], [1, 2, 3, 4, 5, 6, 7, 8, 9, 10, 11], [0, 1, 2, 3, 4, 5, 6, 7, 8, 9, 10, 11, 12], [0, 1, 2, 3, 4, 5, 6, 7, 8, 9, 10, 11, 12, 13]]⟩ .leaf .leaf) (.node 35 (.node 15 ⟨[⟨13, true, [], false, none⟩, ⟨0, false, [13], false, none⟩, ⟨1, false, [13], false, none⟩, ⟨2, false, [13], false, none⟩, ⟨3, false, [13], false, none⟩, ⟨4, false, [13], false, none⟩, ⟨5, false, [13], false, none⟩, ⟨6, false, [13], false, none⟩, ⟨7, false, [13], false, none⟩, ⟨8, false, [13], false, none⟩, ⟨9, false, [13], false, none⟩, ⟨10, false, [13], false, none⟩, ⟨11, false, [13], false, none⟩, ⟨12, false, [13], false, none⟩, ⟨14, true, [], false, none⟩], [[], [], [0, 1], [], [0, 1, 2, 3], [], [], [5, 6], [], [5, 6, 7, 8], [], [5, 6, 7, 8, 9, 10], [0, 1, 2, 3, 4, 5, 6, 7, 8, 9, 10, 11], [], [0, 1, 2, 3, 4, 5, 6, 7, 8, 9, 10, 11, 12, 13]]⟩ .leaf .leaf) (.node 31 (.node 9 ⟨[⟨0, false, [], false, none⟩, ⟨1, false, [], false, none⟩, ⟨2, false, [], false, none⟩, ⟨3, false, [], false, none⟩, ⟨4, false, [], false, none⟩, ⟨5, false, [], false, none⟩, ⟨6, false, [], false, none⟩, ⟨7, false, [], false, none⟩, ⟨8, false, [], false, none⟩, ⟨9, false, [], false, none⟩, ⟨10, false, [], false, none⟩, ⟨11, false, [], false, none⟩, ⟨12, false, [], false, none⟩, ⟨13, false, [], false, none⟩], [[], [], [0, 1], [0, 1, 2], [], [0, 1, 2, 3, 4], [], [], [6, 7], [6, 7, 8], [], [10], [6, 7, 8, 9, 10, 11], [0, 1, 2, 3, 4, 5, 6, 7, 8, 9, 10, 11, 12]]⟩ .leaf .leaf) .leaf .leaf) .leaf) (.node 41 (.node 9 ⟨[⟨1, false, [], false, none⟩, ⟨2, false, [], false, none⟩, ⟨3, false, [], false, none⟩, ⟨4, false, [], false, none⟩, ⟨5, false, [], false, none⟩, ⟨6, false, [], false, none⟩, ⟨7, false, [], false, none⟩, ⟨8, false, [], false, none⟩, ⟨9, false, [], false, none⟩, ⟨10, false, [], false, none⟩, ⟨11, false, [], false, none⟩, ⟨12, false, [], false, none⟩, ⟨13, false, [], false, none⟩, ⟨14, false, [], false, none⟩, ⟨15, false, [], false, none⟩, ⟨16, false, [], false, none⟩, ⟨17, false, [], false, none⟩, ⟨18, false, [], false, none⟩, ⟨19, false, [], false, none⟩, ⟨20, false, [], false, none⟩, ⟨21, false, [], false, none⟩, ⟨22, false, [], false, none⟩, ⟨23, false, [], false, none⟩, ⟨24, true, [], false, none⟩, ⟨0, false, [24], false, none⟩, ⟨25, true, [], false, none⟩, ⟨26, false, [], false, none⟩], [[], [], [], [], [2, 3], [2, 3, 4], [], [2, 3, 4, 5, 6], [2, 3, 4, 5, 6, 7], [2, 3, 4, 5, 6, 7, 8], [1, 2, 3, 4, 5, 6, 7, 8, 9], [1, 2, 3, 4, 5, 6, 7, 8, 9, 10], [], [], [], [13, 14], [13, 14, 15], [], [13, 14, 15, 16, 17], [13, 14, 15, 16, 17, 18], [13, 14, 15, 16, 17, 18, 19], [12, 13, 14, 15, 16, 17, 18, 19, 20], [12, 13, 14, 15, 16, 17, 18, 19, 20, 21], [1, 2, 3, 4, 5, 6, 7, 8, 9, 10, 11, 12, 13, 14, 15, 16, 17, 18, 19, 20, 21, 22], [1, 2, 3, 4, 5, 6, 7, 8, 9, 10, 11, 12, 13, 14, 15, 16, 17, 18, 19, 20, 21, 22, 23], [0, 1, 2, 3, 4, 5, 6, 7, 8, 9, 10, 11, 12, 13, 14, 15, 16, 17, 18, 19, 20, 21, 22, 23, 24], [0, 1, 2, 3, 4, 5, 6, 7, 8, 9, 10, 11, 12, 13, 14, 15, 16, 17, 18, 19, 20, 21, 22, 23, 24, 25]]⟩ .leaf .leaf) .leaf .leaf)))) (.node 78 (.node 17 ⟨[⟨0, false, [], false, none⟩, ⟨1, false, [], false, none⟩, ⟨2, false, [], false, none⟩, ⟨3, false, [], false, none⟩, ⟨4, false, [], false, none⟩, ⟨5, false, [], false, none⟩, ⟨6, false, [], false, none⟩, ⟨7, false, [], false, none⟩, ⟨8, false, [], false, none⟩, ⟨9, false, [], false, none⟩, ⟨10, false, [], false, none⟩, ⟨11, false, [], false, none⟩, ⟨12, false, [], false, none⟩, ⟨13, false, [], false, none⟩, ⟨14, false, [], false, none⟩], [[], [0], [0, 1], [0, 1, 2], [0, 1, 2], [0, 1, 2, 4], [0, 1, 2, 3, 4, 5], [0, 1, 2, 3, 4, 5, 6], [0, 1, 2], [0, 1, 2], [0, 1, 2, 8, 9], [0, 1, 2, 8, 9, 10], [0, 1, 2, 3, 4, 5, 6, 7, 8, 9, 10, 11], [0, 1, 2, 3, 4, 5, 6, 7, 8, 9, 10, 11, 12], [0, 1, 2, 3, 4, 5, 6, 7, 8, 9, 10, 11, 12, 13]]⟩ .leaf .leaf) (.node 59 (.node 8 ⟨[⟨0, false, [], false, none⟩, ⟨1, false, [], false, none⟩, ⟨2, false, [], false, none⟩, ⟨3, false, [], false, none⟩, ⟨4, false, [], false, none⟩], [[], [0], [0, 1], [], [0, 1, 2, 3]]⟩ .leaf .leaf) (.node 55 (.node 9 ⟨[⟨1, false, [], false, none⟩, ⟨2, false, [], false, none⟩, ⟨3, false, [], false, none⟩, ⟨4, false, [], false, none⟩, ⟨5, false, [], false, none⟩, ⟨6, false, [], false, none⟩, ⟨7, false, [], false, none⟩, ⟨8, false, [], false, none⟩, ⟨9, false, [], false, none⟩, ⟨10, false, [], false, none⟩, ⟨11, false, [], false, none⟩, ⟨12, false, [], false, none⟩, ⟨13, false, [], false, none⟩, ⟨14, false, [], false, none⟩, ⟨15, false, [], false, none⟩, ⟨16, false, [], false, none⟩, ⟨17, true, [], false, none⟩, ⟨0, false, [17], false, none⟩, ⟨18, true, [], false, none⟩, ⟨19, false, [], false, none⟩], [[], [], [], [1, 2], [], [4], [1, 2, 3, 4, 5], [], [], [7, 8], [7, 8, 9], [], [7, 8, 9, 10, 11], [], [13], [7, 8, 9, 10, 11, 12, 13, 14], [1, 2, 3, 4, 5, 6, 7, 8, 9, 10, 11, 12, 13, 14, 15], [1, 2, 3, 4, 5, 6, 7, 8, 9, 10, 11, 12, 13, 14, 15, 16], [0, 1, 2, 3, 4, 5, 6, 7, 8, 9, 10, 11, 12, 13, 14, 15, 16, 17], [0, 1, 2, 3, 4, 5, 6, 7, 8, 9, 10, 11, 12, 13, 14, 15, 16, 17, 18]]⟩ .leaf .leaf) (.node 54 (.node 7 ⟨[⟨0, false, [], false, none⟩, ⟨1, false, [], false, none⟩, ⟨2, false, [], false, none⟩, ⟨3, false, [], false, none⟩, ⟨4, false, [], false, none⟩, ⟨5, false, [], false, none⟩, ⟨6, false, [], false, none⟩], [[], [], [0, 1], [0, 1, 2], [0, 1, 2, 3], [], [0, 1, 2, 3, 4, 5]]⟩ (.node 5 ⟨[⟨0, false, [], false, none⟩, ⟨1, false, [], false, none⟩, ⟨2, false, [], false, none⟩, ⟨3, false, [], false, none⟩, ⟨4, false, [], false, none⟩, ⟨5, false, [], false, none⟩, ⟨6, false, [], false, none⟩], [[], [], [0, 1], [0, 1, 2], [0, 1, 2, 3], [], [0, 1, 2, 3, 4, 5]]⟩ .leaf .leaf) .leaf) (.node 52 (.node 8 ⟨[⟨0, false, [], false, none⟩, ⟨1, false, [], false, none⟩, ⟨2, false, [], false, none⟩, ⟨3, false, [], false, none⟩, ⟨4, false, [], false, none⟩, ⟨5, false, [], false, none⟩], [[], [0], [], [2], [0, 1], [0, 1, 2, 3, 4]]⟩ .leaf .leaf) .leaf .leaf) .leaf) (.node 58 (.node 3 ⟨[⟨0, false, [], false, none⟩, ⟨1, false, [], false, none⟩, ⟨2, false, [], false, none⟩, ⟨3, false, [], false, none⟩, ⟨4, false, [], false, none⟩, ⟨10, false, [], false, none⟩, ⟨12, false, [], false, none⟩, ⟨13, false, [], false, none⟩, ⟨14, false, [], false, none⟩, ⟨15, true, [], false, none⟩, ⟨5, false, [15], false, none⟩, ⟨6, false, [15], false, none⟩, ⟨7, false, [15], false, none⟩, ⟨8, false, [15], false, none⟩, ⟨9, false, [15], false, none⟩, ⟨11, false, [15], false, none⟩, ⟨16, false, [15], false, none⟩, ⟨17, false, [15], false, none⟩, ⟨18, false, [], false, none⟩, ⟨19, true, [], false, none⟩], [[], [], [1], [], [3], [], [], [6], [], [8], [], [], [0], [0, 1, 2, 12], [0, 1, 2, 3, 4, 10, 12, 13], [0, 1, 2, 3, 4, 10, 12, 13, 14], [5], [5, 6, 7, 16], [0, 1, 2, 3, 4, 5, 6, 7, 8, 9, 10, 11, 12, 13, 14, 15, 16, 17], [0, 1, 2, 3, 4, 5, 6, 7, 8, 9, 10, 11, 12, 13, 14, 15, 16, 17, 18]]⟩ .leaf .leaf) (.node 56 (.node 16 ⟨[⟨0, false, [], false, none⟩, ⟨1, false, [], false, none⟩, ⟨2, false, [], false, none⟩, ⟨3, false, [], false, none⟩, ⟨4, false, [], false, none⟩, ⟨5, false, [], false, none⟩, ⟨6, true, [], false, none⟩], [[], [], [1], [1, 2], [0], [0, 1, 2, 3, 4], [0, 1, 2, 3, 4, 5]]⟩ (.node 14 ⟨[⟨0, false, [], false, none⟩, ⟨1, false, [], false, none⟩, ⟨2, false, [], false, none⟩, ⟨3, false, [], false, none⟩, ⟨4, false, [], false, none⟩, ⟨5, false, [], false, none⟩, ⟨6, false, [], false, none⟩], [[], [], [1], [1, 2], [0], [0, 1, 2, 3, 4], [0, 1, 2, 3, 4, 5]]⟩ .leaf .leaf) .leaf) .leaf .leaf) .leaf)) (.node 66 (.node 8 ⟨[⟨0, false, [], false, none⟩, ⟨1, false, [], false, none⟩, ⟨2, false, [], false, none⟩, ⟨3, false, [], false, none⟩, ⟨4, false, [], false, none⟩, ⟨5, false, [], false, none⟩, ⟨6, false, [], false, none⟩, ⟨7, false, [], false, none⟩], [[], [], [0, 1], [], [], [4], [3, 4, 5], [0, 1, 2, 3, 4, 5, 6]]⟩ .leaf .leaf) (.node 65 (.node 10 ⟨[⟨0, false, [], false, none⟩, ⟨1, false, [], false, none⟩, ⟨2, false, [], false, none⟩, ⟨3, false, [], false, none⟩, ⟨4, false, [], false, none⟩, ⟨5, false, [], false, none⟩, ⟨6, false, [], false, none⟩, ⟨7, false, [], false, none⟩, ⟨8, false, [], false, none⟩, ⟨9, false, [], false, none⟩, ⟨10, false, [], false, none⟩, ⟨11, false, [], false, none⟩, ⟨12, false, [], false, none⟩], [[], [0], [0, 1], [0, 1, 2], [0, 1, 2], [0, 1, 2], [0, 1, 2, 5], [0, 1, 2, 4, 5, 6], [0, 1, 2, 3, 4, 5, 6, 7], [0, 1, 2, 3, 4, 5, 6, 7, 8], [0, 1, 2], [0, 1, 2, 3, 4, 5, 6, 7, 8, 9, 10], [0, 1, 2, 3, 4, 5, 6, 7, 8, 9, 10, 11]]⟩ (.node 3 ⟨[⟨0, false, [], false, none⟩, ⟨1, false, [], false, none⟩, ⟨2, false, [], false, none⟩, ⟨3, false, [], false, none⟩, ⟨4, false, [], false, none⟩, ⟨5, false, [], false, none⟩, ⟨6, false, [], false, none⟩, ⟨7, false, [], false, none⟩, ⟨8, false, [], false, none⟩, ⟨9, false, [], false, none⟩, ⟨10, false, [], false, none⟩, ⟨11, false, [], false, none⟩, ⟨12, false, [], false, none⟩, ⟨13, false, [], false, none⟩, ⟨14, false, [], false, none⟩, ⟨15, false, [], false, none⟩, ⟨16, false, [], false, none⟩, ⟨17, false, [], false, none⟩, ⟨18, false, [], false, none⟩, ⟨19, false, [], false, none⟩, ⟨20, false, [], false, none⟩, ⟨21, false, [], false, none⟩, ⟨22, false, [], false, none⟩, ⟨23, true, [], false, none⟩], [[], [], [0, 1], [0, 1, 2], [], [], [], [5, 6], [5, 6, 7], [], [5, 6, 7, 8, 9], [5, 6, 7, 8, 9, 10], [5, 6, 7, 8, 9, 10, 11], [], [], [13, 14], [13, 14, 15], [], [13, 14, 15, 16, 17], [13, 14, 15, 16, 17, 18], [13, 14, 15, 16, 17, 18, 19], [5, 6, 7, 8, 9, 10, 11, 12, 13, 14, 15, 16, 17, 18, 19, 20], [0, 1, 2, 3, 4, 5, 6, 7, 8, 9, 10, 11, 12, 13, 14, 15, 16, 17, 18, 19, 20, 21], [0, 1, 2, 3, 4, 5, 6, 7, 8, 9, 10, 11, 12, 13, 14, 15, 16, 17, 18, 19, 20, 21, 22]]⟩ .leaf .leaf) .leaf) (.node 63 (.node 15 ⟨[⟨0, false, [], false, none⟩, ⟨1, false, [], false, none⟩, ⟨2, false, [], false, none⟩, ⟨3, false, [], false, none⟩, ⟨4, false, [], false, none⟩, ⟨5, false, [], false, none⟩, ⟨6, false, [], false, none⟩, ⟨7, false, [], false, none⟩, ⟨8, false, [], false, none⟩, ⟨9, false, [], false, none⟩, ⟨10, false, [], false, none⟩], [[], [], [], [], [], [4], [3, 4, 5], [], [7], [3, 4, 5, 6, 7, 8], [0, 1, 2, 3, 4, 5, 6, 7, 8, 9]]⟩ .leaf .leaf) .leaf .leaf) .leaf) (.node 71 (.node 7 ⟨[⟨0, false, [], false, none⟩, ⟨1, false, [], false, none⟩, ⟨2, false, [], false, none⟩, ⟨3, false, [], false, none⟩, ⟨4, false, [], false, none⟩, ⟨5, false, [], false, none⟩, ⟨6, false, [], false, none⟩, ⟨7, false, [], false, none⟩, ⟨8, false, [], false, none⟩, ⟨9, false, [], false, none⟩, ⟨10, false, [], false, none⟩, ⟨11, false, [], false, none⟩], [[], [], [], [1, 2], [1, 2, 3], [], [], [5, 6], [5, 6, 7], [0, 1, 2, 3, 4, 5, 6, 7, 8], [0, 1, 2, 3, 4, 5, 6, 7, 8, 9], [0, 1, 2, 3, 4, 5, 6, 7, 8, 9, 10]]⟩ .leaf .leaf) (.node 69 (.node 14 ⟨[⟨0, false, [], false, none⟩, ⟨1, false, [], false, none⟩, ⟨2, false, [], false, none⟩, ⟨3, false, [], false, none⟩, ⟨4, false, [], false, none⟩, ⟨5, false, [], false, none⟩, ⟨6, false, [], false, none⟩, ⟨7, false, [], false, none⟩, ⟨8, false, [], false, none⟩, ⟨9, false, [], false, none⟩, ⟨10, false, [], false, none⟩, ⟨11, false, [], false, none⟩, ⟨12, false, [], false, none⟩, ⟨13, true, [], false, none⟩], [[], [], [1], [1, 2], [0, 1, 2, 3], [0, 1, 2, 3, 4], [], [6], [6, 7], [0, 1, 2, 3, 4, 5, 6, 7, 8], [0, 1, 2, 3, 4, 5, 6, 7, 8, 9], [0, 1, 2, 3, 4, 5, 6, 7, 8, 9, 10], [0, 1, 2, 3, 4, 5, 6, 7, 8, 9, 10, 11], [0, 1, 2, 3, 4, 5, 6, 7, 8, 9, 10, 11, 12]]⟩ .leaf .leaf) .leaf .leaf) .leaf))) (.node 87 (.node 5 ⟨[⟨0, false, [], false, none⟩, ⟨1, false, [], false, none⟩, ⟨2, false, [], false, none⟩, ⟨3, false, [], false, none⟩, ⟨4, false, [], false, none⟩, ⟨5, false, [], false, none⟩, ⟨6, false, [], false, none⟩, ⟨7, false, [], false, none⟩, ⟨8, false, [], false, none⟩, ⟨9, false, [], false, none⟩, ⟨10, false, [], false, none⟩, ⟨11, false, [], false, none⟩, ⟨12, false, [], false, none⟩, ⟨13, false, [], false, none⟩], [[], [], [0, 1], [0, 1, 2], [0, 1, 2, 3], [0, 1, 2, 3], [0, 1, 2, 3, 4, 5], [0, 1, 2, 3, 4, 5, 6], [0, 1, 2, 3], [0, 1, 2, 3], [0, 1, 2, 3, 8, 9], [0, 1, 2, 3, 8, 9, 10], [0, 1, 2, 3, 4, 5, 6, 7, 8, 9, 10, 11], [0, 1, 2, 3, 4, 5, 6, 7, 8, 9, 10, 11, 12]]⟩ (.node 3 ⟨[⟨0, false, [], false, none⟩, ⟨1, false, [], false, none⟩, ⟨2, false, [], false, none⟩, ⟨3, false, [], false, none⟩, ⟨4, false, [], false, none⟩, ⟨5, false, [], false, none⟩, ⟨6, false, [], false, none⟩, ⟨7, false, [], false, none⟩, ⟨8, false, [], false, none⟩, ⟨9, false, [], false, none⟩, ⟨10, false, [], false, none⟩, ⟨11, false, [], false, none⟩, ⟨12, false, [], false, none⟩, ⟨13, false, [], false, none⟩, ⟨14, false, [], false, none⟩], [[], [], [0, 1], [0, 1, 2], [0, 1, 2, 3], [0, 1, 2, 3], [0, 1, 2, 3, 4, 5], [0, 1, 2, 3, 4, 5, 6], [0, 1, 2, 3], [0, 1, 2, 3], [0, 1, 2, 3, 8, 9], [0, 1, 2, 3, 8, 9, 10], [0, 1, 2, 3, 4, 5, 6, 7, 8, 9, 10, 11], [0, 1, 2, 3, 4, 5, 6, 7, 8, 9, 10, 11, 12], [0, 1, 2, 3, 4, 5, 6, 7, 8, 9, 10, 11, 12, 13]]⟩ (.node 1 ⟨[⟨0, false, [], false, none⟩, ⟨1, false, [], false, none⟩, ⟨4, false, [], false, none⟩, ⟨5, false, [], false, none⟩, ⟨6, false, [], false, none⟩, ⟨7, false, [], false, none⟩, ⟨8, false, [], false, none⟩, ⟨9, false, [], false, none⟩, ⟨10, false, [], false, none⟩, ⟨11, false, [], false, none⟩, ⟨12, false, [], false, none⟩, ⟨13, true, [], false, none⟩, ⟨2, false, [13], false, none⟩, ⟨3, false, [13], false, none⟩, ⟨14, false, [], false, none⟩, ⟨15, true, [], false, none⟩], [[], [], [], [], [], [], [4, 5], [4, 5, 6], [], [], [8, 9], [8, 9, 10], [0, 1, 4, 5, 6, 7, 8, 9, 10, 11], [0, 1, 4, 5, 6, 7, 8, 9, 10, 11, 12], [0, 1, 2, 3, 4, 5, 6, 7, 8, 9, 10, 11, 12, 13], [0, 1, 2, 3, 4, 5, 6, 7, 8, 9, 10, 11, 12, 13, 14]]⟩ .leaf .leaf) .leaf) (.node 8 ⟨[⟨0, false, [], false, none⟩, ⟨1, false, [], false, none⟩, ⟨4, false, [], false, none⟩, ⟨5, false, [], false, none⟩, ⟨6, false, [], false, none⟩, ⟨7, false, [], false, none⟩, ⟨8, false, [], false, none⟩, ⟨9, false, [], false, none⟩, ⟨10, false, [], false, none⟩, ⟨11, false, [], false, none⟩, ⟨12, false, [], false, none⟩, ⟨13, true, [], false, none⟩, ⟨2, false, [13], false, none⟩, ⟨3, false, [13], false, none⟩, ⟨14, false, [], false, none⟩, ⟨15, true, [], false, none⟩], [[], [], [], [], [], [], [4, 5], [4, 5, 6], [], [], [8, 9], [8, 9, 10], [0, 1, 4, 5, 6, 7, 8, 9, 10, 11], [0, 1, 4, 5, 6, 7, 8, 9, 10, 11, 12], [0, 1, 2, 3, 4, 5, 6, 7, 8, 9, 10, 11, 12, 13], [0, 1, 2, 3, 4, 5, 6, 7, 8, 9, 10, 11, 12, 13, 14]]⟩ .leaf .leaf)) (.node 82 (.node 10 ⟨[⟨0, false, [], false, none⟩, ⟨1, false, [], false, none⟩, ⟨6, false, [], false, none⟩, ⟨7, false, [], false, none⟩, ⟨8, false, [], false, none⟩, ⟨9, false, [], false, none⟩, ⟨10, false, [], false, none⟩, ⟨11, false, [], false, none⟩, ⟨12, false, [], false, none⟩, ⟨13, false, [], false, none⟩, ⟨14, false, [], false, none⟩, ⟨15, false, [], false, none⟩, ⟨16, false, [], false, none⟩, ⟨17, true, [], false, none⟩, ⟨2, false, [17], false, none⟩, ⟨3, false, [17], false, none⟩, ⟨4, false, [17], false, none⟩, ⟨5, false, [17], false, none⟩, ⟨18, false, [], false, none⟩, ⟨19, true, [], false, none⟩], [[], [], [], [], [], [3, 4], [], [], [], [7, 8], [6, 7, 8, 9], [6, 7, 8, 9, 10], [], [], [12, 13], [12, 13, 14], [0, 1, 6, 7, 8, 9, 10, 11, 12, 13, 14, 15], [0, 1, 6, 7, 8, 9, 10, 11, 12, 13, 14, 15, 16], [0, 1, 2, 3, 4, 5, 6, 7, 8, 9, 10, 11, 12, 13, 14, 15, 16, 17], [0, 1, 2, 3, 4, 5, 6, 7, 8, 9, 10, 11, 12, 13, 14, 15, 16, 17, 18]]⟩ .leaf .leaf) (.node 81 (.node 10 ⟨[⟨0, false, [], false, none⟩, ⟨1, false, [], false, none⟩, ⟨6, false, [], false, none⟩, ⟨7, false, [], false, none⟩, ⟨8, false, [], false, none⟩, ⟨9, false, [], false, none⟩, ⟨10, false, [], false, none⟩, ⟨11, false, [], false, none⟩, ⟨12, false, [], false, none⟩, ⟨13, false, [], false, none⟩, ⟨14, false, [], false, none⟩, ⟨15, false, [], false, none⟩, ⟨16, false, [], false, none⟩, ⟨17, true, [], false, none⟩, ⟨2, false, [17], false, none⟩, ⟨3, false, [17], false, none⟩, ⟨4, false, [17], false, none⟩, ⟨5, false, [17], false, none⟩, ⟨18, false, [], false, none⟩, ⟨19, true, [], false, none⟩], [[], [], [], [], [], [3, 4], [], [], [], [7, 8], [6, 7, 8, 9], [6, 7, 8, 9, 10], [], [], [12, 13], [12, 13, 14], [0, 1, 6, 7, 8, 9, 10, 11, 12, 13, 14, 15], [0, 1, 6, 7, 8, 9, 10, 11, 12, 13, 14, 15, 16], [0, 1, 2, 3, 4, 5, 6, 7, 8, 9, 10, 11, 12, 13, 14, 15, 16, 17], [0, 1, 2, 3, 4, 5, 6, 7, 8, 9, 10, 11, 12, 13, 14, 15, 16, 17, 18]]⟩ .leaf .leaf) (.node 80 (.node 6 ⟨[⟨0, false, [], false, none⟩, ⟨1, false, [], false, none⟩, ⟨5, false, [], false, none⟩, ⟨6, false, [], false, none⟩, ⟨7, false, [], false, none⟩, ⟨8, false, [], false, none⟩, ⟨9, false, [], false, none⟩, ⟨10, false, [], false, none⟩, ⟨11, false, [], false, none⟩, ⟨12, false, [], false, none⟩, ⟨13, false, [], false, none⟩, ⟨14, false, [], false, none⟩, ⟨15, true, [], false, none⟩, ⟨2, false, [15], false, none⟩, ⟨3, false, [15], false, none⟩, ⟨4, false, [15], false, none⟩, ⟨16, false, [], false, none⟩, ⟨17, true, [], false, none⟩], [[], [], [], [], [3], [], [], [6], [5, 6, 7], [5, 6, 7, 8], [], [], [10, 11], [10, 11, 12], [0, 1, 5, 6, 7, 8, 9, 10, 11, 12, 13], [0, 1, 5, 6, 7, 8, 9, 10, 11, 12, 13, 14], [0, 1, 2, 3, 4, 5, 6, 7, 8, 9, 10, 11, 12, 13, 14, 15], [0, 1, 2, 3, 4, 5, 6, 7, 8, 9, 10, 11, 12, 13, 14, 15, 16]]⟩ (.node 4 ⟨[⟨0, false, [], false, none⟩, ⟨1, false, [], false, none⟩, ⟨2, false, [], false, none⟩, ⟨3, false, [], false, none⟩, ⟨4, false, [], false, none⟩, ⟨5, false, [], false, none⟩, ⟨6, false, [], false, none⟩, ⟨7, false, [], false, none⟩, ⟨8, false, [], false, none⟩, ⟨9, false, [], false, none⟩, ⟨10, false, [], false, none⟩, ⟨11, false, [], false, none⟩, ⟨12, false, [], false, none⟩, ⟨13, false, [], false, none⟩, ⟨14, false, [], false, none⟩], [[], [], [0, 1], [0, 1, 2], [0, 1, 2, 3], [0, 1, 2, 3], [0, 1, 2, 3, 4, 5], [0, 1, 2, 3, 4, 5, 6], [0, 1, 2, 3], [0, 1, 2, 3], [0, 1, 2, 3, 9], [0, 1, 2, 3, 8, 9, 10], [0, 1, 2, 3, 8, 9, 10, 11], [0, 1, 2, 3, 4, 5, 6, 7, 8, 9, 10, 11, 12], [0, 1, 2, 3, 4, 5, 6, 7, 8, 9, 10, 11, 12, 13]]⟩ .leaf .leaf) .leaf) .leaf .leaf) .leaf) (.node 85 (.node 17 ⟨[⟨0, false, [], false, none⟩, ⟨1, false, [], false, none⟩, ⟨5, false, [], false, none⟩, ⟨6, false, [], false, none⟩, ⟨7, false, [], false, none⟩, ⟨8, false, [], false, none⟩, ⟨9, false, [], false, none⟩, ⟨10, false, [], false, none⟩, ⟨11, false, [], false, none⟩, ⟨12, false, [], false, none⟩, ⟨13, false, [], false, none⟩, ⟨14, false, [], false, none⟩, ⟨15, true, [], false, none⟩, ⟨2, false, [15], false, none⟩, ⟨3, false, [15], false, none⟩, ⟨4, false, [15], false, none⟩, ⟨16, false, [], false, none⟩, ⟨17, true, [], false, none⟩], [[], [], [], [], [3], [], [], [6], [5, 6, 7], [5, 6, 7, 8], [], [], [10, 11], [10, 11, 12], [0, 1, 5, 6, 7, 8, 9, 10, 11, 12, 13], [0, 1, 5, 6, 7, 8, 9, 10, 11, 12, 13, 14], [0, 1, 2, 3, 4, 5, 6, 7, 8, 9, 10, 11, 12, 13, 14, 15], [0, 1, 2, 3, 4, 5, 6, 7, 8, 9, 10, 11, 12, 13, 14, 15, 16]]⟩ (.node 11 ⟨[⟨0, false, [], false, none⟩, ⟨1, false, [], false, none⟩, ⟨5, false, [], false, none⟩, ⟨6, false, [], false, none⟩, ⟨7, false, [], false, none⟩, ⟨8, false, [], false, none⟩, ⟨9, false, [], false, none⟩, ⟨10, false, [], false, none⟩, ⟨11, false, [], false, none⟩, ⟨12, false, [], false, none⟩, ⟨13, false, [], false, none⟩, ⟨14, false, [], false, none⟩, ⟨15, true, [], false, none⟩, ⟨2, false, [15], false, none⟩, ⟨3, false, [15], false, none⟩, ⟨4, false, [15], false, none⟩, ⟨16, false, [], false, none⟩, ⟨17, true, [], false, none⟩], [[], [], [], [], [3], [], [], [6], [5, 6, 7], [5, 6, 7, 8], [], [], [10, 11], [10, 11, 12], [0, 1, 5, 6, 7, 8, 9, 10, 11, 12, 13], [0, 1, 5, 6, 7, 8, 9, 10, 11, 12, 13, 14], [0, 1, 2, 3, 4, 5, 6, 7, 8, 9, 10, 11, 12, 13, 14, 15], [0, 1, 2, 3, 4, 5, 6, 7, 8, 9, 10, 11, 12, 13, 14, 15, 16]]⟩ (.node 5 ⟨[⟨0, false, [], false, none⟩, ⟨1, false, [], false, none⟩, ⟨2, false, [], false, none⟩, ⟨3, false, [], false, none⟩, ⟨4, false, [], false, none⟩, ⟨5, false, [], false, none⟩, ⟨6, false, [], false, none⟩, ⟨7, false, [], false, none⟩, ⟨8, false, [], false, none⟩, ⟨9, false, [], false, none⟩, ⟨10, false, [], false, none⟩, ⟨11, false, [], false, none⟩, ⟨12, false, [], false, none⟩, ⟨13, false, [], false, none⟩, ⟨14, false, [], false, none⟩, ⟨15, false, [], false, none⟩], [[], [], [0, 1], [0, 1, 2], [0, 1, 2, 3], [0, 1, 2, 3], [0, 1, 2, 3, 4, 5], [0, 1, 2, 3, 4, 5, 6], [0, 1, 2, 3], [0, 1, 2, 3], [0, 1, 2, 3, 9], [0, 1, 2, 3, 8, 9, 10], [0, 1, 2, 3, 8, 9, 10, 11], [0, 1, 2, 3, 4, 5, 6, 7, 8, 9, 10, 11, 12], [0, 1, 2, 3, 4, 5, 6, 7, 8, 9, 10, 11, 12, 13], [0, 1, 2, 3, 4, 5, 6, 7, 8, 9, 10, 11, 12, 13, 14]]⟩ .leaf .leaf) (.node 16 ⟨[⟨0, false, [], false, none⟩, ⟨1, false, [], false, none⟩, ⟨2, false, [], false, none⟩, ⟨3, false, [], false, none⟩, ⟨4, false, [], false, none⟩, ⟨5, false, [], false, none⟩, ⟨6, false, [], false, none⟩, ⟨7, false, [], false, none⟩, ⟨8, false, [], false, none⟩, ⟨9, false, [], false, none⟩, ⟨10, false, [], false, none⟩], [[], [], [0, 1], [0, 1, 2], [], [], [5], [4, 5, 6], [4, 5, 6, 7], [0, 1, 2, 3, 4, 5, 6, 7, 8], [0, 1, 2, 3, 4, 5, 6, 7, 8, 9]]⟩ .leaf .leaf)) (.node 23 ⟨[⟨0, false, [], false, none⟩, ⟨1, false, [], false, none⟩, ⟨5, false, [], false, none⟩, ⟨6, false, [], false, none⟩, ⟨7, false, [], false, none⟩, ⟨8, false, [], false, none⟩, ⟨9, false, [], false, none⟩, ⟨10, false, [], false, none⟩, ⟨11, false, [], false, none⟩, ⟨12, false, [], false, none⟩, ⟨13, false, [], false, none⟩, ⟨14, false, [], false, none⟩, ⟨15, true, [], false, none⟩, ⟨2, false, [15], false, none⟩, ⟨3, false, [15], false, none⟩, ⟨4, false, [15], false, none⟩, ⟨16, false, [], false, none⟩, ⟨17, true, [], false, none⟩], [[], [], [], [], [3], [], [], [6], [5, 6, 7], [5, 6, 7, 8], [], [], [10, 11], [10, 11, 12], [0, 1, 5, 6, 7, 8, 9, 10, 11, 12, 13], [0, 1, 5, 6, 7, 8, 9, 10, 11, 12, 13, 14], [0, 1, 2, 3, 4, 5, 6, 7, 8, 9, 10, 11, 12, 13, 14, 15], [0, 1, 2, 3, 4, 5, 6, 7, 8, 9, 10, 11, 12, 13, 14, 15, 16]]⟩ (.node 22 ⟨[⟨0, false, [], false, none⟩, ⟨1, false, [], false, none⟩, ⟨2, false, [], false, none⟩, ⟨3, false, [], false, none⟩, ⟨4, false, [], false, none⟩, ⟨5, false, [], false, none⟩, ⟨6, false, [], false, none⟩, ⟨7, false, [], false, none⟩, ⟨8, false, [], false, none⟩, ⟨9, false, [], false, none⟩, ⟨10, false, [], false, none⟩], [[], [], [0, 1], [0, 1, 2], [], [], [5], [4, 5, 6], [4, 5, 6, 7], [0, 1, 2, 3, 4, 5, 6, 7, 8], [0, 1, 2, 3, 4, 5, 6, 7, 8, 9]]⟩ .leaf .leaf) .leaf)) (.node 84 (.node 3 ⟨[⟨0, false, [], false, none⟩, ⟨1, false, [], false, none⟩, ⟨4, false, [], false, none⟩, ⟨5, false, [], false, none⟩, ⟨6, false, [], false, none⟩, ⟨7, false, [], false, none⟩, ⟨8, false, [], false, none⟩, ⟨9, false, [], false, none⟩, ⟨10, false, [], false, none⟩, ⟨11, false, [], false, none⟩, ⟨12, false, [], false, none⟩, ⟨13, true, [], false, none⟩, ⟨2, false, [13], false, none⟩, ⟨3, false, [13], false, none⟩, ⟨14, false, [], false, none⟩, ⟨15, true, [], false, none⟩], [[], [], [], [], [], [], [4, 5], [4, 5, 6], [], [], [8, 9], [8, 9, 10], [0, 1, 4, 5, 6, 7, 8, 9, 10, 11], [0, 1, 4, 5, 6, 7, 8, 9, 10, 11, 12], [0, 1, 2, 3, 4, 5, 6, 7, 8, 9, 10, 11, 12, 13], [0, 1, 2, 3, 4, 5, 6, 7, 8, 9, 10, 11, 12, 13, 14]]⟩ .leaf .leaf) .leaf .leaf) .leaf)) (.node 93 (.node 2 ⟨[⟨0, false, [], false, none⟩, ⟨1, false, [], false, none⟩, ⟨2, false, [], false, none⟩, ⟨3, false, [], false, none⟩, ⟨4, false, [], false, none⟩, ⟨5, false, [], false, none⟩, ⟨6, false, [], false, none⟩, ⟨7, false, [], false, none⟩, ⟨8, false, [], false, none⟩, ⟨9, true, [], false, none⟩], [[], [0], [0, 1], [], [3], [3, 4], [3, 4, 5], [0, 1, 2, 3, 4, 5, 6], [0, 1, 2, 3, 4, 5, 6, 7], [0, 1, 2, 3, 4, 5, 6, 7, 8]]⟩ (.node 1 ⟨[⟨0, false, [], false, none⟩, ⟨1, false, [], false, none⟩, ⟨2, false, [], false, none⟩, ⟨3, false, [], false, none⟩, ⟨4, false, [], false, none⟩, ⟨5, false, [], false, none⟩, ⟨6, false, [], false, none⟩, ⟨7, false, [], false, none⟩, ⟨8, false, [], false, none⟩, ⟨9, true, [], false, none⟩], [[], [0], [0, 1], [], [3], [3, 4], [3, 4, 5], [0, 1, 2, 3, 4, 5, 6], [0, 1, 2, 3, 4, 5, 6, 7], [0, 1, 2, 3, 4, 5, 6, 7, 8]]⟩ .leaf .leaf) (.node 3 ⟨[⟨0, false, [], false, none⟩, ⟨1, false, [], false, none⟩, ⟨2, false, [], false, none⟩, ⟨3, false, [], false, none⟩, ⟨4, false, [], false, none⟩, ⟨5, false, [], false, none⟩, ⟨6, false, [], false, none⟩, ⟨7, false, [], false, none⟩, ⟨8, false, [], false, none⟩, ⟨9, true, [], false, none⟩], [[], [0], [0, 1], [], [3], [3, 4], [3, 4, 5], [0, 1, 2, 3, 4, 5, 6], [0, 1, 2, 3, 4, 5, 6, 7], [0, 1, 2, 3, 4, 5, 6, 7, 8]]⟩ .leaf .leaf)) (.node 91 (.node 5 ⟨[⟨0, false, [], false, none⟩, ⟨1, false, [], false, none⟩, ⟨2, false, [], false, none⟩, ⟨3, false, [], false, none⟩, ⟨4, false, [], false, none⟩, ⟨5, false, [], false, none⟩, ⟨6, false, [], false, none⟩, ⟨7, false, [], false, none⟩, ⟨8, false, [], false, none⟩, ⟨9, false, [], false, none⟩, ⟨10, false, [], false, none⟩, ⟨11, false, [], false, none⟩, ⟨12, false, [], false, none⟩, ⟨13, false, [], false, none⟩], [[], [], [], [1, 2], [0, 1, 2, 3], [0, 1, 2, 3, 4], [], [], [], [7, 8], [6, 7, 8, 9], [6, 7, 8, 9, 10], [0, 1, 2, 3, 4, 5, 6, 7, 8, 9, 10, 11], [0, 1, 2, 3, 4, 5, 6, 7, 8, 9, 10, 11, 12]]⟩ (.node 3 ⟨[⟨0, false, [], false, none⟩, ⟨1, false, [], false, none⟩, ⟨2, false, [], false, none⟩, ⟨3, false, [], false, none⟩, ⟨4, false, [], false, none⟩, ⟨5, false, [], false, none⟩, ⟨6, false, [], false, none⟩, ⟨7, false, [], false, none⟩, ⟨8, false, [], false, none⟩, ⟨9, false, [], false, none⟩, ⟨10, false, [], false, none⟩, ⟨11, false, [], false, none⟩, ⟨12, false, [], false, none⟩, ⟨13, false, [], false, none⟩, ⟨14, false, [], false, none⟩, ⟨15, false, [], false, none⟩, ⟨16, false, [], false, none⟩, ⟨17, false, [], false, none⟩, ⟨18, false, [], false, none⟩, ⟨19, false, [], false, none⟩], [[], [0], [], [0, 1, 2], [0, 1, 2, 3], [0, 1, 2, 3, 4], [0, 1, 2, 3, 4], [0, 1, 2, 3, 4], [0, 1, 2, 3, 4, 6, 7], [0, 1, 2, 3, 4, 5, 6, 7, 8], [0, 1, 2, 3, 4, 5, 6, 7, 8, 9], [0, 1, 2, 3, 4], [0, 1, 2, 3, 4], [0, 1, 2, 3, 4], [0, 1, 2, 3, 4, 12, 13], [0, 1, 2, 3, 4, 12, 13, 14], [0, 1, 2, 3, 4, 11, 12, 13, 14, 15], [0, 1, 2, 3, 4, 11, 12, 13, 14, 15, 16], [0, 1, 2, 3, 4, 5, 6, 7, 8, 9, 10, 11, 12, 13, 14, 15, 16, 17], [0, 1, 2, 3, 4, 5, 6, 7, 8, 9, 10, 11, 12, 13, 14, 15, 16, 17, 18]]⟩ .leaf .leaf) (.node 6 ⟨[⟨0, false, [], false, none⟩, ⟨1, false, [], false, none⟩, ⟨2, false, [], false, none⟩, ⟨3, false, [], false, none⟩, ⟨8, false, [], false, none⟩, ⟨9, false, [], false, none⟩, ⟨10, false, [], false, none⟩, ⟨11, false, [], false, none⟩, ⟨12, false, [], false, none⟩, ⟨13, false, [], false, none⟩, ⟨14, false, [], false, none⟩, ⟨15, false, [], false, none⟩, ⟨16, false, [], false, none⟩, ⟨17, false, [], false, none⟩, ⟨18, false, [], false, none⟩, ⟨19, false, [], false, none⟩, ⟨20, false, [], false, none⟩, ⟨21, true, [], false, none⟩, ⟨4, false, [21], false, none⟩, ⟨5, false, [21], false, none⟩, ⟨6, false, [21], false, none⟩, ⟨7, false, [21], false, none⟩, ⟨22, false, [], false, none⟩, ⟨23, true, [], false, none⟩], [[], [], [], [1, 2], [], [], [], [5, 6], [], [], [], [9, 10], [8, 9, 10, 11], [8, 9, 10, 11, 12], [], [], [], [15, 16], [14, 15, 16, 17], [14, 15, 16, 17, 18], [0, 1, 2, 3, 8, 9, 10, 11, 12, 13, 14, 15, 16, 17, 18, 19], [0, 1, 2, 3, 8, 9, 10, 11, 12, 13, 14, 15, 16, 17, 18, 19, 20], [0, 1, 2, 3, 4, 5, 6, 7, 8, 9, 10, 11, 12, 13, 14, 15, 16, 17, 18, 19, 20, 21], [0, 1, 2, 3, 4, 5, 6, 7, 8, 9, 10, 11, 12, 13, 14, 15, 16, 17, 18, 19, 20, 21, 22]]⟩ .leaf .leaf)) (.node 88 (.node 10 ⟨[⟨0, false, [], false, none⟩, ⟨1, false, [], false, none⟩, ⟨4, false, [], false, none⟩, ⟨5, false, [], false, none⟩, ⟨6, false, [], false, none⟩, ⟨7, false, [], false, none⟩, ⟨8, false, [], false, none⟩, ⟨9, false, [], false, none⟩, ⟨10, false, [], false, none⟩, ⟨11, false, [], false, none⟩, ⟨12, false, [], false, none⟩, ⟨13, true, [], false, none⟩, ⟨2, false, [13], false, none⟩, ⟨3, false, [13], false, none⟩, ⟨14, false, [], false, none⟩, ⟨15, true, [], false, none⟩], [[], [], [], [], [], [], [4, 5], [4, 5, 6], [], [], [8, 9], [8, 9, 10], [0, 1, 4, 5, 6, 7, 8, 9, 10, 11], [0, 1, 4, 5, 6, 7, 8, 9, 10, 11, 12], [0, 1, 2, 3, 4, 5, 6, 7, 8, 9, 10, 11, 12, 13], [0, 1, 2, 3, 4, 5, 6, 7, 8, 9, 10, 11, 12, 13, 14]]⟩ (.node 5 ⟨[⟨0, false, [], false, none⟩, ⟨1, false, [], false, none⟩, ⟨2, false, [], false, none⟩, ⟨3, false, [], false, none⟩, ⟨4, false, [], false, none⟩, ⟨5, false, [], false, none⟩, ⟨6, false, [], false, none⟩, ⟨7, false, [], false, none⟩, ⟨8, false, [], false, none⟩, ⟨9, false, [], false, none⟩, ⟨10, false, [], false, none⟩, ⟨11, false, [], false, none⟩, ⟨12, false, [], false, none⟩, ⟨13, false, [], false, none⟩, ⟨14, false, [], false, none⟩], [[], [], [0, 1], [0, 1, 2], [0, 1, 2, 3], [0, 1, 2, 3], [0, 1, 2, 3, 4, 5], [0, 1, 2, 3, 4, 5, 6], [0, 1, 2, 3], [0, 1, 2, 3], [0, 1, 2, 3, 8, 9], [0, 1, 2, 3, 8, 9, 10], [0, 1, 2, 3, 4, 5, 6, 7, 8, 9, 10, 11], [0, 1, 2, 3, 4, 5, 6, 7, 8, 9, 10, 11, 12], [0, 1, 2, 3, 4, 5, 6, 7, 8, 9, 10, 11, 12, 13]]⟩ (.node 3 ⟨[⟨0, false, [], false, none⟩, ⟨1, false, [], false, none⟩, ⟨2, false, [], false, none⟩, ⟨3, false, [], false, none⟩, ⟨4, false, [], false, none⟩, ⟨5, false, [], false, none⟩, ⟨6, false, [], false, none⟩, ⟨7, false, [], false, none⟩, ⟨8, false, [], false, none⟩, ⟨9, false, [], false, none⟩, ⟨10, false, [], false, none⟩, ⟨11, false, [], false, none⟩, ⟨12, false, [], false, none⟩, ⟨13, false, [], false, none⟩], [[], [], [0, 1], [0, 1, 2], [0, 1, 2, 3], [0, 1, 2, 3], [0, 1, 2, 3, 4, 5], [0, 1, 2, 3, 4, 5, 6], [0, 1, 2, 3], [0, 1, 2, 3], [0, 1, 2, 3, 8, 9], [0, 1, 2, 3, 8, 9, 10], [0, 1, 2, 3, 4, 5, 6, 7, 8, 9, 10, 11], [0, 1, 2, 3, 4, 5, 6, 7, 8, 9, 10, 11, 12]]⟩ (.node 1 ⟨[⟨0, false, [], false, none⟩, ⟨1, false, [], false, none⟩, ⟨4, false, [], false, none⟩, ⟨5, false, [], false, none⟩, ⟨6, false, [], false, none⟩, ⟨7, false, [], false, none⟩, ⟨8, false, [], false, none⟩, ⟨9, false, [], false, none⟩, ⟨10, false, [], false, none⟩, ⟨11, false, [], false, none⟩, ⟨12, false, [], false, none⟩, ⟨13, true, [], false, none⟩, ⟨2, false, [13], false, none⟩, ⟨3, false, [13], false, none⟩, ⟨14, false, [], false, none⟩, ⟨15, true, [], false, none⟩], [[], [], [], [], [], [], [4, 5], [4, 5, 6], [], [], [8, 9], [8, 9, 10], [0, 1, 4, 5, 6, 7, 8, 9, 10, 11], [0, 1, 4, 5, 6, 7, 8, 9, 10, 11, 12], [0, 1, 2, 3, 4, 5, 6, 7, 8, 9, 10, 11, 12, 13], [0, 1, 2, 3, 4, 5, 6, 7, 8, 9, 10, 11, 12, 13, 14]]⟩ .leaf .leaf) .leaf) (.node 8 ⟨[⟨0, false, [], false, none⟩, ⟨1, false, [], false, none⟩, ⟨4, false, [], false, none⟩, ⟨5, false, [], false, none⟩, ⟨6, false, [], false, none⟩, ⟨7, false, [], false, none⟩, ⟨8, false, [], false, none⟩, ⟨9, false, [], false, none⟩, ⟨10, false, [], false, none⟩, ⟨11, false, [], false, none⟩, ⟨12, false, [], false, none⟩, ⟨13, true, [], false, none⟩, ⟨2, false, [13], false, none⟩, ⟨3, false, [13], false, none⟩, ⟨14, false, [], false, none⟩, ⟨15, true, [], false, none⟩], [[], [], [], [], [], [], [4, 5], [4, 5, 6], [], [], [8, 9], [8, 9, 10], [0, 1, 4, 5, 6, 7, 8, 9, 10, 11], [0, 1, 4, 5, 6, 7, 8, 9, 10, 11, 12], [0, 1, 2, 3, 4, 5, 6, 7, 8, 9, 10, 11, 12, 13], [0, 1, 2, 3, 4, 5, 6, 7, 8, 9, 10, 11, 12, 13, 14]]⟩ .leaf .leaf)) (.node 18 ⟨[⟨0, false, [], false, none⟩, ⟨1, false, [], false, none⟩, ⟨4, false, [], false, none⟩, ⟨5, false, [], false, none⟩, ⟨6, false, [], false, none⟩, ⟨7, false, [], false, none⟩, ⟨8, false, [], false, none⟩, ⟨9, false, [], false, none⟩, ⟨10, false, [], false, none⟩, ⟨11, false, [], false, none⟩, ⟨12, false, [], false, none⟩, ⟨13, true, [], false, none⟩, ⟨2, false, [13], false, none⟩, ⟨3, false, [13], false, none⟩, ⟨14, false, [], false, none⟩, ⟨15, true, [], false, none⟩], [[], [], [], [], [], [], [4, 5], [4, 5, 6], [], [], [8, 9], [8, 9, 10], [0, 1, 4, 5, 6, 7, 8, 9, 10, 11], [0, 1, 4, 5, 6, 7, 8, 9, 10, 11, 12], [0, 1, 2, 3, 4, 5, 6, 7, 8, 9, 10, 11, 12, 13], [0, 1, 2, 3, 4, 5, 6, 7, 8, 9, 10, 11, 12, 13, 14]]⟩ (.node 15 ⟨[⟨0, false, [], false, none⟩, ⟨1, false, [], false, none⟩, ⟨2, false, [], false, none⟩, ⟨3, false, [], false, none⟩, ⟨4, false, [], false, none⟩, ⟨5, false, [], false, none⟩, ⟨6, false, [], false, none⟩, ⟨7, false, [], false, none⟩, ⟨8, false, [], false, none⟩, ⟨9, false, [], false, none⟩, ⟨10, false, [], false, none⟩, ⟨11, false, [], false, none⟩, ⟨12, false, [], false, none⟩, ⟨13, false, [], false, none⟩, ⟨14, false, [], false, none⟩], [[], [], [0, 1], [0, 1, 2], [0, 1, 2, 3], [0, 1, 2, 3], [0, 1, 2, 3, 4, 5], [0, 1, 2, 3, 4, 5, 6], [0, 1, 2, 3], [0, 1, 2, 3], [0, 1, 2, 3, 8, 9], [0, 1, 2, 3, 8, 9, 10], [0, 1, 2, 3, 4, 5, 6, 7, 8, 9, 10, 11], [0, 1, 2, 3, 4, 5, 6, 7, 8, 9, 10, 11, 12], [0, 1, 2, 3, 4, 5, 6, 7, 8, 9, 10, 11, 12, 13]]⟩ (.node 13 ⟨[⟨0, false, [], false, none⟩, ⟨1, false, [], false, none⟩, ⟨2, false, [], false, none⟩, ⟨3, false, [], false, none⟩, ⟨4, false, [], false, none⟩, ⟨5, false, [], false, none⟩, ⟨6, false, [], false, none⟩, ⟨7, false, [], false, none⟩, ⟨8, false, [], false, none⟩, ⟨9, false, [], false, none⟩, ⟨10, false, [], false, none⟩, ⟨11, false, [], false, none⟩, ⟨12, false, [], false, none⟩, ⟨13, false, [], false, none⟩], [[], [], [0, 1], [0, 1, 2], [0, 1, 2, 3], [0, 1, 2, 3], [0, 1, 2, 3, 4, 5], [0, 1, 2, 3, 4, 5, 6], [0, 1, 2, 3], [0, 1, 2, 3], [0, 1, 2, 3, 8, 9], [0, 1, 2, 3, 8, 9, 10], [0, 1, 2, 3, 4, 5, 6, 7, 8, 9, 10, 11], [0, 1, 2, 3, 4, 5, 6, 7, 8, 9, 10, 11, 12]]⟩ .leaf .leaf) .leaf) (.node 21 ⟨[⟨0, false, [], false, none⟩, ⟨1, false, [], false, none⟩, ⟨4, false, [], false, none⟩, ⟨5, false, [], false, none⟩, ⟨6, false, [], false, none⟩, ⟨7, false, [], false, none⟩, ⟨8, false, [], false, none⟩, ⟨9, false, [], false, none⟩, ⟨10, false, [], false, none⟩, ⟨11, false, [], false, none⟩, ⟨12, false, [], false, none⟩, ⟨13, true, [], false, none⟩, ⟨2, false, [13], false, none⟩, ⟨3, false, [13], false, none⟩, ⟨14, false, [], false, none⟩, ⟨15, true, [], false, none⟩], [[], [], [], [], [], [], [4, 5], [4, 5, 6], [], [], [8, 9], [8, 9, 10], [0, 1, 4, 5, 6, 7, 8, 9, 10, 11], [0, 1, 4, 5, 6, 7, 8, 9, 10, 11, 12], [0, 1, 2, 3, 4, 5, 6, 7, 8, 9, 10, 11, 12, 13], [0, 1, 2, 3, 4, 5, 6, 7, 8, 9, 10, 11, 12, 13, 14]]⟩ .leaf .leaf))) .leaf .leaf) .leaf) (.node 97 (.node 1 ⟨[⟨0, false, [], false, none⟩, ⟨1, false, [], false, none⟩, ⟨2, false, [], false, none⟩, ⟨3, false, [], false, none⟩, ⟨4, false, [], false, none⟩, ⟨5, false, [], false, none⟩, ⟨6, false, [], false, none⟩, ⟨7, false, [], false, none⟩, ⟨8, false, [], false, none⟩], [[], [], [0, 1], [0, 1, 2], [], [], [4, 5], [4, 5, 6], [0, 1, 2, 3, 4, 5, 6, 7]]⟩ .leaf .leaf) .leaf .leaf)))))

noncomputable def aePlan (f b : Nat) : Option Plan := match tget aePlanT f with
  | some t => tget t b
  | none => none

noncomputable def aeC : Ctx := ⟨aeT, aeRets, aeIso, aePol, aeXPol, aePlan, true⟩

noncomputable def aeF : Tab Func :=
  (.node 57 Try.f57 (.node 28 Try.f28 (.node 14 Try.f14 (.node 7 Try.f7 (.node 3 Try.f3 (.node 1 Try.f1 (.node 0 Try.f0 .leaf .leaf) (.node 2 Try.f2 .leaf .leaf)) (.node 5 Try.f5 (.node 4 Try.f4 .leaf .leaf) (.node 6 Try.f6 .leaf .leaf))) (.node 11 Try.f11 (.node 9 Try.f9 (.node 8 Try.f8 .leaf .leaf) (.node 10 Try.f10 .leaf .leaf)) (.node 13 Try.f13 (.node 12 Try.f12 .leaf .leaf) .leaf))) (.node 21 Try.f21 (.node 18 Try.f18 (.node 16 Try.f16 (.node 15 Try.f15 .leaf .leaf) (.node 17 Try.f17 .leaf .leaf)) (.node 20 Try.f20 (.node 19 Try.f19 .leaf .leaf) .leaf)) (.node 25 Try.f25 (.node 23 Try.f23 (.node 22 Try.f22 .leaf .leaf) (.node 24 Try.f24 .leaf .leaf)) (.node 27 Try.f27 (.node 26 Try.f26 .leaf .leaf) .leaf)))) (.node 43 Try.f43 (.node 36 Try.f36 (.node 32 Try.f32 (.node 30 Try.f30 (.node 29 Try.f29 .leaf .leaf) (.node 31 Try.f31 .leaf .leaf)) (.node 34 Try.f34 (.node 33 Try.f33 .leaf .leaf) (.node 35 Try.f35 .leaf .leaf))) (.node 40 Try.f40 (.node 38 Try.f38 (.node 37 Try.f37 .leaf .leaf) (.node 39 Try.f39 .leaf .leaf)) (.node 42 Try.f42 (.node 41 Try.f41 .leaf .leaf) .leaf))) (.node 50 Try.f50 (.node 47 Try.f47 (.node 45 Try.f45 (.node 44 Try.f44 .leaf .leaf) (.node 46 Try.f46 .leaf .leaf)) (.node 49 Try.f49 (.node 48 Try.f48 .leaf .leaf) .leaf)) (.node 54 Try.f54 (.node 52 Try.f52 (.node 51 Try.f51 .leaf .leaf) (.node 53 Try.f53 .leaf .leaf)) (.node 56 Try.f56 (.node 55 Try.f55 .leaf .leaf) .leaf))))) (.node 86 Try.f86 (.node 72 Try.f72 (.node 65 Try.f65 (.node 61 Try.f61 (.node 59 Try.f59 (.node 58 Try.f58 .leaf .leaf) (.node 60 Try.f60 .leaf .leaf)) (.node 63 Try.f63 (.node 62 Try.f62 .leaf .leaf) (.node 64 Try.f64 .leaf .leaf))) (.node 69 Try.f69 (.node 67 Try.f67 (.node 66 Try.f66 .leaf .leaf) (.node 68 Try.f68 .leaf .leaf)) (.node 71 Try.f71 (.node 70 Try.f70 .leaf .leaf) .leaf))) (.node 79 Try.f79 (.node 76 Try.f76 (.node 74 Try.f74 (.node 73 Try.f73 .leaf .leaf) (.node 75 Try.f75 .leaf .leaf)) (.node 78 Try.f78 (.node 77 Try.f77 .leaf .leaf) .leaf)) (.node 83 Try.f83 (.node 81 Try.f81 (.node 80 Try.f80 .leaf .leaf) (.node 82 Try.f82 .leaf .leaf)) (.node 85 Try.f85 (.node 84 Try.f84 .leaf .leaf) .leaf)))) (.node 100 Try.f100 (.node 93 Try.f93 (.node 90 Try.f90 (.node 88 Try.f88 (.node 87 Try.f87 .leaf .leaf) (.node 89 Try.f89 .leaf .leaf)) (.node 92 Try.f92 (.node 91 Try.f91 .leaf .leaf) .leaf)) (.node 97 Try.f97 (.node 95 Try.f95 (.node 94 Try.f94 .leaf .leaf) (.node 96 Try.f96 .leaf .leaf)) (.node 99 Try.f99 (.node 98 Try.f98 .leaf .leaf) .leaf))) (.node 107 Try.f107 (.node 104 Try.f104 (.node 102 Try.f102 (.node 101 Try.f101 .leaf .leaf) (.node 103 Try.f103 .leaf .leaf)) (.node 106 Try.f106 (.node 105 Try.f105 .leaf .leaf) .leaf)) (.node 111 Try.f111 (.node 109 Try.f109 (.node 108 Try.f108 .leaf .leaf) (.node 110 Try.f110 .leaf .leaf)) (.node 113 Try.f113 (.node 112 Try.f112 .leaf .leaf) .leaf))))))

end Go.Proofs.Ytigijjinlalnaaa

/- The abstract machine of the seat is sound: written by a program of this session (wip/tools/aectx.py). -/
namespace Go.Proofs.Ytigijjinlalnaaa
open Go Go.AE
set_option maxRecDepth 100000
theorem aeT_ok : tableOK Try.prog aeT = true := by decide +kernel
theorem aeE_ok : eqTab Try.prog aeT = true := by decide +kernel
theorem aeCode_ok : aeF.all (fun f fn => match fn.body with | some c => okCode aeC f fn.ntmps c | none => true) = true := by decide +kernel
theorem aeName_ok : aeF.all (fun _ fn => !(fn.name == "runtime.NumGoroutine")) = true := by decide +kernel
theorem aeAt_ok : aeF.All (fun f fn => Try.prog.funcs[f]? = some fn) :=
  ⟨rfl, ⟨rfl, ⟨rfl, ⟨rfl, ⟨rfl, ⟨rfl, ⟨rfl, trivial, trivial⟩, ⟨rfl, trivial, trivial⟩⟩, ⟨rfl, ⟨rfl, trivial, trivial⟩, ⟨rfl, trivial, trivial⟩⟩⟩, ⟨rfl, ⟨rfl, ⟨rfl, trivial, trivial⟩, ⟨rfl, trivial, trivial⟩⟩, ⟨rfl, ⟨rfl, trivial, trivial⟩, trivial⟩⟩⟩, ⟨rfl, ⟨rfl, ⟨rfl, ⟨rfl, trivial, trivial⟩, ⟨rfl, trivial, trivial⟩⟩, ⟨rfl, ⟨rfl, trivial, trivial⟩, trivial⟩⟩, ⟨rfl, ⟨rfl, ⟨rfl, trivial, trivial⟩, ⟨rfl, trivial, trivial⟩⟩, ⟨rfl, ⟨rfl, trivial, trivial⟩, trivial⟩⟩⟩⟩, ⟨rfl, ⟨rfl, ⟨rfl, ⟨rfl, ⟨rfl, trivial, trivial⟩, ⟨rfl, trivial, trivial⟩⟩, ⟨rfl, ⟨rfl, trivial, trivial⟩, ⟨rfl, trivial, trivial⟩⟩⟩, ⟨rfl, ⟨rfl, ⟨rfl, trivial, trivial⟩, ⟨rfl, trivial, trivial⟩⟩, ⟨rfl, ⟨rfl, trivial, trivial⟩, trivial⟩⟩⟩, ⟨rfl, ⟨rfl, ⟨rfl, ⟨rfl, trivial, trivial⟩, ⟨rfl, trivial, trivial⟩⟩, ⟨rfl, ⟨rfl, trivial, trivial⟩, trivial⟩⟩, ⟨rfl, ⟨rfl, ⟨rfl, trivial, trivial⟩, ⟨rfl, trivial, trivial⟩⟩, ⟨rfl, ⟨rfl, trivial, trivial⟩, trivial⟩⟩⟩⟩⟩, ⟨rfl, ⟨rfl, ⟨rfl, ⟨rfl, ⟨rfl, ⟨rfl, trivial, trivial⟩, ⟨rfl, trivial, trivial⟩⟩, ⟨rfl, ⟨rfl, trivial, trivial⟩, ⟨rfl, trivial, trivial⟩⟩⟩, ⟨rfl, ⟨rfl, ⟨rfl, trivial, trivial⟩, ⟨rfl, trivial, trivial⟩⟩, ⟨rfl, ⟨rfl, trivial, trivial⟩, trivial⟩⟩⟩, ⟨rfl, ⟨rfl, ⟨rfl, ⟨rfl, trivial, trivial⟩, ⟨rfl, trivial, trivial⟩⟩, ⟨rfl, ⟨rfl, trivial, trivial⟩, trivial⟩⟩, ⟨rfl, ⟨rfl, ⟨rfl, trivial, trivial⟩, ⟨rfl, trivial, trivial⟩⟩, ⟨rfl, ⟨rfl, trivial, trivial⟩, trivial⟩⟩⟩⟩, ⟨rfl, ⟨rfl, ⟨rfl, ⟨rfl, ⟨rfl, trivial, trivial⟩, ⟨rfl, trivial, trivial⟩⟩, ⟨rfl, ⟨rfl, trivial, trivial⟩, trivial⟩⟩, ⟨rfl, ⟨rfl, ⟨rfl, trivial, trivial⟩, ⟨rfl, trivial, trivial⟩⟩, ⟨rfl, ⟨rfl, trivial, trivial⟩, trivial⟩⟩⟩, ⟨rfl, ⟨rfl, ⟨rfl, ⟨rfl, trivial, trivial⟩, ⟨rfl, trivial, trivial⟩⟩, ⟨rfl, ⟨rfl, trivial, trivial⟩, trivial⟩⟩, ⟨rfl, ⟨rfl, ⟨rfl, trivial, trivial⟩, ⟨rfl, trivial, trivial⟩⟩, ⟨rfl, ⟨rfl, trivial, trivial⟩, trivial⟩⟩⟩⟩⟩⟩
theorem ae_mixed : Try.prog.follows .mixedOrders = true := Checked.mixed Try.checked
theorem ae_T : TOK Try.prog aeC.T := TOK.of_check aeT_ok
theorem ae_Q : EqOK Try.prog aeC.T := EqOK.of_check ae_T aeE_ok
theorem ae_fn {f : FuncId} {fn : Func} (h : tget aeF f = some fn) : FnOK Try.prog aeC f fn := by
  refine ⟨Tab.get_All aeAt_ok f fn h, ?_, fun c hc => ?_⟩
  · simpa using Tab.get_all aeName_ok f fn h
  · have := Tab.get_all aeCode_ok f fn h
    rw [hc] at this; exact this
theorem ae_direct {E : Ev} (hE : EvOK Try.prog E) (k : Nat) {f : FuncId} {fn : Func} {ds : List DV} {d : DV} (h : tget aeF f = some fn) (e : pureE aeC E k f fn ds = some d) : PureOK Try.prog f ds d := pureE_ok ae_T ae_Q ae_mixed hE (ae_fn h) e
theorem ae_pure {E : Ev} (hE : EvOK Try.prog E) {f : FuncId} {fn : Func} {ids : List Nat} {ds : List DV} {d : DV} (ok : OkSeg fn none ids) (h : tget aeF f = some fn) (hb : (fn.body.isSome && Nat.ble ds.length fn.ntmps) = true)
    (e : startF aeC E f 0 fn none ⟨envOf 0 (ds.map .d), [], []⟩ (doneE aeC fn 0 fun v h => freezeV h 4 v) = some d) (hfr : freshF f = false := by rfl) : PureOK Try.prog f ds d :=
  pure_of_go ae_T ae_Q ae_mixed hE (ae_fn h) ok hb e hfr
end Go.Proofs.Ytigijjinlalnaaa

/- Chapter 06: calls whose answers are told by tables; matrices as data. -/
namespace Go.Proofs.Ytigijjinlalnaaa
open Go Go.AE

/-- Calls are answered by a table of shapes, where 'ok' says so. -/
def evT (ok : Nat → List DV → Bool) (shape : Nat → List DV → DV) : Ev := { Ev.nil with pure := fun f ds => .node (ok f ds) (.leaf (shape f ds)) .fail }
/-- All others are walked. -/
noncomputable def evW (fs : List Nat) (ok : Nat → List DV → Bool) (shape : Nat → List DV → DV) : Ev := evO aeC aeF (evT ok shape) fs [] 30 40
open Classical in
noncomputable def okS (shape : Nat → List DV → DV) : Nat → List DV → Bool := fun f ds => isP (PureOK Try.prog f ds (shape f ds))

theorem evT_ok (shape : Nat → List DV → DV) : EvOK Try.prog (evT (okS shape) shape) := by
  refine ⟨fun f ds d e => ?_, (by intro f xs h v h' e; simp [evT, Ev.nil, Tr.val] at e), (by intro f xs h v h' e; simp [evT, Ev.nil, Tr.val] at e), (by intro l xs h v h' e; simp [evT, Ev.nil, Tr.val] at e)⟩
  simp only [evT, Tr.val] at e
  obtain ⟨h1, h2⟩ := cond_none e
  cases h2
  exact isP_iff.1 h1

theorem evW_ok (fs : List Nat) (shape : Nat → List DV → DV) : EvOK Try.prog (evW fs (okS shape) shape) :=
  evO_ok ae_T ae_Q ae_mixed (fun _ _ h => ae_fn h) (evT_ok shape) fs [] 30 40

theorem okS_is {shape : Nat → List DV → DV} {f : Nat} {ds : List DV} (h : PureOK Try.prog f ds (shape f ds)) : okS shape f ds = true := isP_iff.2 h
/-- A call by its walk. -/
theorem walk {fs : List Nat} {shape : Nat → List DV → DV} {f : FuncId} {fn : Func} {ds : List DV} {d : DV} (h : tget aeF f = some fn) (e : pureE aeC (evW fs (okS shape) shape) 30 f fn ds = some d) : PureOK Try.prog f ds d :=
  ae_direct (evW_ok fs shape) 30 h e

def noS : Nat → List DV → DV := fun _ _ => .nilp

end Go.Proofs.Ytigijjinlalnaaa

/- Chapter 04: what a program must do whatever the input is (21). -/
namespace Go.Proofs.Ytigijjinlalnaaa
open Go Go.AE
set_option maxRecDepth 100000
noncomputable def evA : Ev := evW [] (okS noS) noS
/-- A walk with all calls in it. -/
theorem walkA {f : FuncId} {fn : Func} {ds : List DV} {d : DV} (h : tget aeF f = some fn) (e : pureE aeC evA 30 f fn ds = some d) : PureOK Try.prog f ds d := walk h e
theorem awake_ok : PureOK Try.prog 21 [] (bD true) := walkA (by kernel_rfl : tget aeF 21 = some Try.f21) (by kernel_rfl)
end Go.Proofs.Ytigijjinlalnaaa

/- Chapter 04: law 9 (Makes): schedules made, at each number of teams. Written by wip/tools/gen4M.py. -/
namespace Go.Proofs.Ytigijjinlalnaaa
open Go Go.AE
set_option maxRecDepth 100000
def argD (i : Nat) (ds : List DV) : Int := match nth ds i with
  | some (.int _ n) => n
  | _ => 0
/-- A chain of calls. -/
def chkL {X : Type} (ok : Nat → List DV → Bool) (x : Option X) : List (Nat × List DV) → Option X
  | [] => x
  | c :: r => bif ok c.1 c.2 then chkL ok x r else none
theorem chkL_ok {X : Type} {ok : Nat → List DV → Bool} {x : Option X} : ∀ {l : List (Nat × List DV)}, (∀ c ∈ l, ok c.1 c.2 = true) → chkL ok x l = x
  | [], _ => rfl
  | c :: l, h => by
    unfold chkL
    rw [h c (List.mem_cons_self ..)]
    exact chkL_ok fun c hc => h c (List.mem_cons_of_mem _ hc)
/-- What a function answers: cells, how many, their size, whether it is nil, the error. -/
structure A9 where
  M : List DV
  k : Nat
  z : Nat
  nl : Bool
  e : Int
def no9 : A9 := ⟨[], 0, 0, true, 1⟩
def M35_2 : List DV := [DV.sl [iD 0, iD 1] 1 2 true false]
def M35_4 : List DV := [DV.sl [iD 0, iD 3, iD 1, iD 2] 2 2 false false, DV.sl [iD 3, iD 1, iD 2, iD 0] 2 2 false false, DV.sl [iD 2, iD 3, iD 0, iD 1] 2 2 false false]
def M35_6 : List DV := [DV.sl [iD 0, iD 5, iD 1, iD 4, iD 3, iD 2] 3 2 false false, DV.sl [iD 5, iD 1, iD 2, iD 0, iD 4, iD 3] 3 2 false false, DV.sl [iD 2, iD 5, iD 3, iD 1, iD 0, iD 4] 3 2 false false, DV.sl [iD 5, iD 3, iD 4, iD 2, iD 1, iD 0] 3 2 false false, DV.sl [iD 4, iD 5, iD 0, iD 3, iD 2, iD 1] 3 2 false false]
def M35_8 : List DV := [DV.sl [iD 0, iD 7, iD 1, iD 6, iD 5, iD 2, iD 3, iD 4] 4 2 false false, DV.sl [iD 7, iD 1, iD 2, iD 0, iD 6, iD 3, iD 4, iD 5] 4 2 false false, DV.sl [iD 2, iD 7, iD 3, iD 1, iD 0, iD 4, iD 5, iD 6] 4 2 false false, DV.sl [iD 7, iD 3, iD 4, iD 2, iD 1, iD 5, iD 6, iD 0] 4 2 false false, DV.sl [iD 4, iD 7, iD 5, iD 3, iD 2, iD 6, iD 0, iD 1] 4 2 false false, DV.sl [iD 7, iD 5, iD 6, iD 4, iD 3, iD 0, iD 1, iD 2] 4 2 false false, DV.sl [iD 6, iD 7, iD 0, iD 5, iD 4, iD 1, iD 2, iD 3] 4 2 false false]
def M35_10 : List DV := [DV.sl [iD 0, iD 9, iD 1, iD 8, iD 7, iD 2, iD 3, iD 6, iD 5, iD 4] 5 2 false false, DV.sl [iD 9, iD 1, iD 2, iD 0, iD 8, iD 3, iD 4, iD 7, iD 6, iD 5] 5 2 false false, DV.sl [iD 2, iD 9, iD 3, iD 1, iD 0, iD 4, iD 5, iD 8, iD 7, iD 6] 5 2 false false, DV.sl [iD 9, iD 3, iD 4, iD 2, iD 1, iD 5, iD 6, iD 0, iD 8, iD 7] 5 2 false false, DV.sl [iD 4, iD 9, iD 5, iD 3, iD 2, iD 6, iD 7, iD 1, iD 0, iD 8] 5 2 false false, DV.sl [iD 9, iD 5, iD 6, iD 4, iD 3, iD 7, iD 8, iD 2, iD 1, iD 0] 5 2 false false, DV.sl [iD 6, iD 9, iD 7, iD 5, iD 4, iD 8, iD 0, iD 3, iD 2, iD 1] 5 2 false false, DV.sl [iD 9, iD 7, iD 8, iD 6, iD 5, iD 0, iD 1, iD 4, iD 3, iD 2] 5 2 false false, DV.sl [iD 8, iD 9, iD 0, iD 7, iD 6, iD 1, iD 2, iD 5, iD 4, iD 3] 5 2 false false]
def M42_4 : List DV := [DV.sl [iD 0, iD 1, iD 2, iD 3] 2 2 false false, DV.sl [iD 0, iD 2, iD 1, iD 3] 2 2 false false, DV.sl [iD 0, iD 3, iD 1, iD 2] 2 2 false false]
def M42_8 : List DV := [DV.sl [iD 0, iD 1, iD 2, iD 3, iD 4, iD 5, iD 6, iD 7] 4 2 false false, DV.sl [iD 0, iD 2, iD 1, iD 3, iD 4, iD 6, iD 5, iD 7] 4 2 false false, DV.sl [iD 0, iD 4, iD 1, iD 5, iD 2, iD 6, iD 3, iD 7] 4 2 false false, DV.sl [iD 0, iD 3, iD 1, iD 2, iD 4, iD 7, iD 5, iD 6] 4 2 false false, DV.sl [iD 0, iD 6, iD 1, iD 7, iD 2, iD 4, iD 3, iD 5] 4 2 false false, DV.sl [iD 0, iD 7, iD 1, iD 6, iD 2, iD 5, iD 3, iD 4] 4 2 false false, DV.sl [iD 0, iD 5, iD 1, iD 4, iD 2, iD 7, iD 3, iD 6] 4 2 false false]
def q9 (f : Nat) (n : Int) : A9 :=
  bif Nat.beq f 42 then (bif decide (n = 4) then ⟨M42_4, 3, 1, false, 0⟩ else bif decide (n = 8) then ⟨M42_8, 7, 1, false, 0⟩ else no9) else
  bif Nat.beq f 43 && !(decide (n = 4) || (decide (n = 6) || decide (n = 8))) then no9 else
  bif decide (n = 2) then ⟨M35_2, 1, 1, false, 0⟩ else bif decide (n = 4) then ⟨M35_4, 3, 1, false, 0⟩ else bif decide (n = 6) then ⟨M35_6, 5, 1, false, 0⟩ else bif decide (n = 8) then ⟨M35_8, 7, 1, false, 0⟩ else bif decide (n = 10) then ⟨M35_10, 9, 1, false, 0⟩ else no9
def t9 (n : Int) : Bool := decide (n = 2) || (decide (n = 4) || (decide (n = 6) || (decide (n = 8) || decide (n = 10))))
def x9 (n : Int) : Int := IntKind.wrap IntKind.i64 (2 + IntKind.wrap IntKind.i64 (2 * IntKind.wrap IntKind.i64 (Int.tmod (IntKind.wrap IntKind.u64 n) (IntKind.wrap IntKind.u64 (IntKind.wrap IntKind.i64 (Int.tdiv 10 2))))))
structure T9 where
  q : Nat → Int → A9
  t : Int → Bool
  nx : Int → Int
  F : Int → List DV
  Fk : Int → Nat
def i9 (T : T9) (f : Nat) (ds : List DV) : DV := bif Nat.beq f 35 || (Nat.beq f 42 || Nat.beq f 43) then .tup [.sl (T.q f (argD 0 ds)).M (T.q f (argD 0 ds)).k (T.q f (argD 0 ds)).z false (T.q f (argD 0 ds)).nl, iD (T.q f (argD 0 ds)).e] else bif Nat.beq f 15 then bD (T.t (argD 0 ds)) else bif Nat.beq f 25 then iD 0 else bif Nat.beq f 31 then iD (argD 0 ds - 2) else bif Nat.beq f 45 then .sl (T.F (argD 0 ds)) (T.Fk (argD 0 ds)) 1 false false else bif Nat.beq f 27 then iD (T.nx (argD 0 ds)) else bD true
def s9 (n r : Int) : St := ⟨[(0, .d (iD n)), (3, .d (iD r))], [], []⟩
def F45_4 : List DV := [DV.sl [iD 0, iD 1, iD 1, iD 1] 4 1 false false, DV.sl [iD 1, iD 0, iD 1, iD 1] 4 1 false false, DV.sl [iD 1, iD 1, iD 0, iD 1] 4 1 false false, DV.sl [iD 1, iD 1, iD 1, iD 0] 4 1 false false]
def F45_8 : List DV := [DV.sl [iD 0, iD 1, iD 1, iD 1, iD 1, iD 1, iD 1, iD 1] 8 1 false false, DV.sl [iD 1, iD 0, iD 1, iD 1, iD 1, iD 1, iD 1, iD 1] 8 1 false false, DV.sl [iD 1, iD 1, iD 0, iD 1, iD 1, iD 1, iD 1, iD 1] 8 1 false false, DV.sl [iD 1, iD 1, iD 1, iD 0, iD 1, iD 1, iD 1, iD 1] 8 1 false false, DV.sl [iD 1, iD 1, iD 1, iD 1, iD 0, iD 1, iD 1, iD 1] 8 1 false false, DV.sl [iD 1, iD 1, iD 1, iD 1, iD 1, iD 0, iD 1, iD 1] 8 1 false false, DV.sl [iD 1, iD 1, iD 1, iD 1, iD 1, iD 1, iD 0, iD 1] 8 1 false false, DV.sl [iD 1, iD 1, iD 1, iD 1, iD 1, iD 1, iD 1, iD 0] 8 1 false false]
def T9v : T9 := ⟨q9, t9, x9, fun n => bif decide (n = 4) then F45_4 else F45_8, fun n => bif decide (n = 4) then 4 else 8⟩
def D9 (f : Nat) (n : Int) : DV := .sl (q9 f n).M (q9 f n).k 1 false (q9 f n).nl
/-- What is looked at with so many teams. -/
def calls9 (n : Int) : List (Nat × List DV) := [(35, [iD n]), (42, [iD n]), (43, [iD n]), (15, [iD n]), (25, [iD n, D9 35 n]), (31, [iD n, D9 35 n])] ++
  (bif decide (n = 4) || decide (n = 8) then [(25, [iD n, D9 42 n]), (45, [iD n, D9 42 n]), (44, [.sl (T9v.F n) (T9v.Fk n) 1 false false])] else []) ++
  (bif decide (n = 4) || (decide (n = 6) || decide (n = 8)) then [(25, [iD n, D9 43 n]), (46, [iD n, D9 43 n])] else []) ++ [(27, [iD n, iD 10])]
theorem t9_h (ok : Nat → List DV → Bool) (T : T9) (n : Int) : startS aeC (evT ok (i9 T)) 9 0 Try.f9 none ⟨envOf 0 [.d (iD n)], [], []⟩ (heldD aeC 9 0) = some (0, s9 n 0) := by kernel_rfl
theorem t9_e (ok : Nat → List DV → Bool) (T : T9) : nextS aeC (evT ok (i9 T)) 9 0 Try.f9 none 0 (.exit 0) ⟨[], [], []⟩ (doneE aeC Try.f9 0 fun v h => freezeP 9 h v) = bif ok 21 [] then some (bD true) else none := by kernel_rfl
theorem t9_x (ok : Nat → List DV → Bool) (T : T9) (n : Int) : startS aeC (evT ok (i9 T)) 9 0 Try.f9 (some 0) (s9 n 2) (roundD aeC 9 0 0) = some (Ex.exit 0, ⟨[], [], []⟩) := by kernel_rfl
theorem t9_2 (ok : Nat → List DV → Bool) (r : Int) : startS aeC (evT ok (i9 T9v)) 9 0 Try.f9 (some 0) (s9 2 r) (roundD aeC 9 0 0) = bif decide (r < 2) then chkL ok (some (Ex.norm, s9 (x9 2) (IntKind.wrap IntKind.i64 (r + 1)))) (calls9 2) else some (Ex.exit 0, ⟨[], [], []⟩) := by kernel_rfl
theorem t9_4 (ok : Nat → List DV → Bool) (r : Int) : startS aeC (evT ok (i9 T9v)) 9 0 Try.f9 (some 0) (s9 4 r) (roundD aeC 9 0 0) = bif decide (r < 2) then chkL ok (some (Ex.norm, s9 (x9 4) (IntKind.wrap IntKind.i64 (r + 1)))) (calls9 4) else some (Ex.exit 0, ⟨[], [], []⟩) := by kernel_rfl
theorem t9_6 (ok : Nat → List DV → Bool) (r : Int) : startS aeC (evT ok (i9 T9v)) 9 0 Try.f9 (some 0) (s9 6 r) (roundD aeC 9 0 0) = bif decide (r < 2) then chkL ok (some (Ex.norm, s9 (x9 6) (IntKind.wrap IntKind.i64 (r + 1)))) (calls9 6) else some (Ex.exit 0, ⟨[], [], []⟩) := by kernel_rfl
theorem t9_8 (ok : Nat → List DV → Bool) (r : Int) : startS aeC (evT ok (i9 T9v)) 9 0 Try.f9 (some 0) (s9 8 r) (roundD aeC 9 0 0) = bif decide (r < 2) then chkL ok (some (Ex.norm, s9 (x9 8) (IntKind.wrap IntKind.i64 (r + 1)))) (calls9 8) else some (Ex.exit 0, ⟨[], [], []⟩) := by kernel_rfl
theorem t9_10 (ok : Nat → List DV → Bool) (r : Int) : startS aeC (evT ok (i9 T9v)) 9 0 Try.f9 (some 0) (s9 10 r) (roundD aeC 9 0 0) = bif decide (r < 2) then chkL ok (some (Ex.norm, s9 (x9 10) (IntKind.wrap IntKind.i64 (r + 1)))) (calls9 10) else some (Ex.exit 0, ⟨[], [], []⟩) := by kernel_rfl
theorem t9_0 (ok : Nat → List DV → Bool) (T : T9) (n r : Int) : startS aeC (evT ok (i9 T)) 9 0 Try.f9 (some 0) (s9 n r) (roundD aeC 9 0 0) =
  bif decide (r < 2) then
    bif ok 35 [iD n] then
      bif A9.nl (T9.q T 35 (argD 0 [iD n])) || Nat.beq (A9.z (T9.q T 35 (argD 0 [iD n]))) 1 then
        bif ok 42 [iD n] then
          bif A9.nl (T9.q T 42 (argD 0 [iD n])) || Nat.beq (A9.z (T9.q T 42 (argD 0 [iD n]))) 1 then
            bif ok 43 [iD n] then
              bif A9.nl (T9.q T 43 (argD 0 [iD n])) || Nat.beq (A9.z (T9.q T 43 (argD 0 [iD n]))) 1 then
                bif ok 15 [iD n] then
                  bif !T9.t T (argD 0 [iD n]) then
                    bif !decide (A9.e (T9.q T 35 (argD 0 [iD n])) = 1) then
                      some (Ex.ret, ⟨[(2, .d (bD false))], [], []⟩)
                    else
                      bif !decide ((↑(A9.k (T9.q T 35 (argD 0 [iD n]))) : Int) = 0) then
                        some (Ex.ret, ⟨[(2, .d (bD false))], [], []⟩)
                      else
                        bif !decide (n = 4) then
                          bif !decide (n = 8) then
                            bif !decide (A9.e (T9.q T 42 (argD 0 [iD n])) = 1) then
                              some (Ex.ret, ⟨[(2, .d (bD false))], [], []⟩)
                            else
                              bif !decide ((↑(A9.k (T9.q T 42 (argD 0 [iD n]))) : Int) = 0) then
                                some (Ex.ret, ⟨[(2, .d (bD false))], [], []⟩)
                              else
                                bif !decide (n = 4) then
                                  bif !decide (n = 6) then
                                    bif !decide (n = 8) then
                                      bif !decide (A9.e (T9.q T 43 (argD 0 [iD n])) = 1) then
                                        some (Ex.ret, ⟨[(2, .d (bD false))], [], []⟩)
                                      else
                                        bif !decide ((↑(A9.k (T9.q T 43 (argD 0 [iD n]))) : Int) = 0) then
                                          some (Ex.ret, ⟨[(2, .d (bD false))], [], []⟩)
                                        else
                                          bif ok 27 [iD n, iD 10] then
                                            some (Ex.norm, ⟨[(0, .d (iD (T9.nx T (argD 0 [iD n, iD 10])))), (3, .d (iD (IntKind.wrap IntKind.i64 (r + 1))))], [], []⟩)
                                          else
                                            none
                                    else
                                      bif !decide (A9.e (T9.q T 43 (argD 0 [iD n])) = 0) then
                                        some (Ex.ret, ⟨[(2, .d (bD false))], [], []⟩)
                                      else
                                        bif ok 25 [iD n, DV.sl (A9.M (T9.q T 43 (argD 0 [iD n]))) (A9.k (T9.q T 43 (argD 0 [iD n]))) 1 false (A9.nl (T9.q T 43 (argD 0 [iD n])))] then
                                          bif ok 46 [iD n, DV.sl (A9.M (T9.q T 43 (argD 0 [iD n]))) (A9.k (T9.q T 43 (argD 0 [iD n]))) 1 false (A9.nl (T9.q T 43 (argD 0 [iD n])))] then
                                            bif ok 27 [iD n, iD 10] then
                                              some (Ex.norm, ⟨[(0, .d (iD (T9.nx T (argD 0 [iD n, iD 10])))), (3, .d (iD (IntKind.wrap IntKind.i64 (r + 1))))], [], []⟩)
                                            else
                                              none
                                          else
                                            none
                                        else
                                          none
                                  else
                                    bif !decide (A9.e (T9.q T 43 (argD 0 [iD n])) = 0) then
                                      some (Ex.ret, ⟨[(2, .d (bD false))], [], []⟩)
                                    else
                                      bif ok 25 [iD n, DV.sl (A9.M (T9.q T 43 (argD 0 [iD n]))) (A9.k (T9.q T 43 (argD 0 [iD n]))) 1 false (A9.nl (T9.q T 43 (argD 0 [iD n])))] then
                                        bif ok 46 [iD n, DV.sl (A9.M (T9.q T 43 (argD 0 [iD n]))) (A9.k (T9.q T 43 (argD 0 [iD n]))) 1 false (A9.nl (T9.q T 43 (argD 0 [iD n])))] then
                                          bif ok 27 [iD n, iD 10] then
                                            some (Ex.norm, ⟨[(0, .d (iD (T9.nx T (argD 0 [iD n, iD 10])))), (3, .d (iD (IntKind.wrap IntKind.i64 (r + 1))))], [], []⟩)
                                          else
                                            none
                                        else
                                          none
                                      else
                                        none
                                else
                                  bif !decide (A9.e (T9.q T 43 (argD 0 [iD n])) = 0) then
                                    some (Ex.ret, ⟨[(2, .d (bD false))], [], []⟩)
                                  else
                                    bif ok 25 [iD n, DV.sl (A9.M (T9.q T 43 (argD 0 [iD n]))) (A9.k (T9.q T 43 (argD 0 [iD n]))) 1 false (A9.nl (T9.q T 43 (argD 0 [iD n])))] then
                                      bif ok 46 [iD n, DV.sl (A9.M (T9.q T 43 (argD 0 [iD n]))) (A9.k (T9.q T 43 (argD 0 [iD n]))) 1 false (A9.nl (T9.q T 43 (argD 0 [iD n])))] then
                                        bif ok 27 [iD n, iD 10] then
                                          some (Ex.norm, ⟨[(0, .d (iD (T9.nx T (argD 0 [iD n, iD 10])))), (3, .d (iD (IntKind.wrap IntKind.i64 (r + 1))))], [], []⟩)
                                        else
                                          none
                                      else
                                        none
                                    else
                                      none
                          else
                            bif !decide (A9.e (T9.q T 42 (argD 0 [iD n])) = 0) then
                              some (Ex.ret, ⟨[(2, .d (bD false))], [], []⟩)
                            else
                              bif ok 25 [iD n, DV.sl (A9.M (T9.q T 42 (argD 0 [iD n]))) (A9.k (T9.q T 42 (argD 0 [iD n]))) 1 false (A9.nl (T9.q T 42 (argD 0 [iD n])))] then
                                bif ok 45 [iD n, DV.sl (A9.M (T9.q T 42 (argD 0 [iD n]))) (A9.k (T9.q T 42 (argD 0 [iD n]))) 1 false (A9.nl (T9.q T 42 (argD 0 [iD n])))] then
                                  bif ok 44 [DV.sl (T9.F T (argD 0 [iD n, DV.sl (A9.M (T9.q T 42 (argD 0 [iD n]))) (A9.k (T9.q T 42 (argD 0 [iD n]))) 1 false (A9.nl (T9.q T 42 (argD 0 [iD n])))])) (T9.Fk T (argD 0 [iD n, DV.sl (A9.M (T9.q T 42 (argD 0 [iD n]))) (A9.k (T9.q T 42 (argD 0 [iD n]))) 1 false (A9.nl (T9.q T 42 (argD 0 [iD n])))])) 1 false false] then
                                    bif !decide (n = 4) then
                                      bif !decide (n = 6) then
                                        bif !decide (n = 8) then
                                          bif !decide (A9.e (T9.q T 43 (argD 0 [iD n])) = 1) then
                                            some (Ex.ret, ⟨[(2, .d (bD false))], [], []⟩)
                                          else
                                            bif !decide ((↑(A9.k (T9.q T 43 (argD 0 [iD n]))) : Int) = 0) then
                                              some (Ex.ret, ⟨[(2, .d (bD false))], [], []⟩)
                                            else
                                              bif ok 27 [iD n, iD 10] then
                                                some (Ex.norm, ⟨[(0, .d (iD (T9.nx T (argD 0 [iD n, iD 10])))), (3, .d (iD (IntKind.wrap IntKind.i64 (r + 1))))], [], []⟩)
                                              else
                                                none
                                        else
                                          bif !decide (A9.e (T9.q T 43 (argD 0 [iD n])) = 0) then
                                            some (Ex.ret, ⟨[(2, .d (bD false))], [], []⟩)
                                          else
                                            bif ok 25 [iD n, DV.sl (A9.M (T9.q T 43 (argD 0 [iD n]))) (A9.k (T9.q T 43 (argD 0 [iD n]))) 1 false (A9.nl (T9.q T 43 (argD 0 [iD n])))] then
                                              bif ok 46 [iD n, DV.sl (A9.M (T9.q T 43 (argD 0 [iD n]))) (A9.k (T9.q T 43 (argD 0 [iD n]))) 1 false (A9.nl (T9.q T 43 (argD 0 [iD n])))] then
                                                bif ok 27 [iD n, iD 10] then
                                                  some (Ex.norm, ⟨[(0, .d (iD (T9.nx T (argD 0 [iD n, iD 10])))), (3, .d (iD (IntKind.wrap IntKind.i64 (r + 1))))], [], []⟩)
                                                else
                                                  none
                                              else
                                                none
                                            else
                                              none
                                      else
                                        bif !decide (A9.e (T9.q T 43 (argD 0 [iD n])) = 0) then
                                          some (Ex.ret, ⟨[(2, .d (bD false))], [], []⟩)
                                        else
                                          bif ok 25 [iD n, DV.sl (A9.M (T9.q T 43 (argD 0 [iD n]))) (A9.k (T9.q T 43 (argD 0 [iD n]))) 1 false (A9.nl (T9.q T 43 (argD 0 [iD n])))] then
                                            bif ok 46 [iD n, DV.sl (A9.M (T9.q T 43 (argD 0 [iD n]))) (A9.k (T9.q T 43 (argD 0 [iD n]))) 1 false (A9.nl (T9.q T 43 (argD 0 [iD n])))] then
                                              bif ok 27 [iD n, iD 10] then
                                                some (Ex.norm, ⟨[(0, .d (iD (T9.nx T (argD 0 [iD n, iD 10])))), (3, .d (iD (IntKind.wrap IntKind.i64 (r + 1))))], [], []⟩)
                                              else
                                                none
                                            else
                                              none
                                          else
                                            none
                                    else
                                      bif !decide (A9.e (T9.q T 43 (argD 0 [iD n])) = 0) then
                                        some (Ex.ret, ⟨[(2, .d (bD false))], [], []⟩)
                                      else
                                        bif ok 25 [iD n, DV.sl (A9.M (T9.q T 43 (argD 0 [iD n]))) (A9.k (T9.q T 43 (argD 0 [iD n]))) 1 false (A9.nl (T9.q T 43 (argD 0 [iD n])))] then
                                          bif ok 46 [iD n, DV.sl (A9.M (T9.q T 43 (argD 0 [iD n]))) (A9.k (T9.q T 43 (argD 0 [iD n]))) 1 false (A9.nl (T9.q T 43 (argD 0 [iD n])))] then
                                            bif ok 27 [iD n, iD 10] then
                                              some (Ex.norm, ⟨[(0, .d (iD (T9.nx T (argD 0 [iD n, iD 10])))), (3, .d (iD (IntKind.wrap IntKind.i64 (r + 1))))], [], []⟩)
                                            else
                                              none
                                          else
                                            none
                                        else
                                          none
                                  else
                                    none
                                else
                                  none
                              else
                                none
                        else
                          bif !decide (A9.e (T9.q T 42 (argD 0 [iD n])) = 0) then
                            some (Ex.ret, ⟨[(2, .d (bD false))], [], []⟩)
                          else
                            bif ok 25 [iD n, DV.sl (A9.M (T9.q T 42 (argD 0 [iD n]))) (A9.k (T9.q T 42 (argD 0 [iD n]))) 1 false (A9.nl (T9.q T 42 (argD 0 [iD n])))] then
                              bif ok 45 [iD n, DV.sl (A9.M (T9.q T 42 (argD 0 [iD n]))) (A9.k (T9.q T 42 (argD 0 [iD n]))) 1 false (A9.nl (T9.q T 42 (argD 0 [iD n])))] then
                                bif ok 44 [DV.sl (T9.F T (argD 0 [iD n, DV.sl (A9.M (T9.q T 42 (argD 0 [iD n]))) (A9.k (T9.q T 42 (argD 0 [iD n]))) 1 false (A9.nl (T9.q T 42 (argD 0 [iD n])))])) (T9.Fk T (argD 0 [iD n, DV.sl (A9.M (T9.q T 42 (argD 0 [iD n]))) (A9.k (T9.q T 42 (argD 0 [iD n]))) 1 false (A9.nl (T9.q T 42 (argD 0 [iD n])))])) 1 false false] then
                                  bif !decide (n = 4) then
                                    bif !decide (n = 6) then
                                      bif !decide (n = 8) then
                                        bif !decide (A9.e (T9.q T 43 (argD 0 [iD n])) = 1) then
                                          some (Ex.ret, ⟨[(2, .d (bD false))], [], []⟩)
                                        else
                                          bif !decide ((↑(A9.k (T9.q T 43 (argD 0 [iD n]))) : Int) = 0) then
                                            some (Ex.ret, ⟨[(2, .d (bD false))], [], []⟩)
                                          else
                                            bif ok 27 [iD n, iD 10] then
                                              some (Ex.norm, ⟨[(0, .d (iD (T9.nx T (argD 0 [iD n, iD 10])))), (3, .d (iD (IntKind.wrap IntKind.i64 (r + 1))))], [], []⟩)
                                            else
                                              none
                                      else
                                        bif !decide (A9.e (T9.q T 43 (argD 0 [iD n])) = 0) then
                                          some (Ex.ret, ⟨[(2, .d (bD false))], [], []⟩)
                                        else
                                          bif ok 25 [iD n, DV.sl (A9.M (T9.q T 43 (argD 0 [iD n]))) (A9.k (T9.q T 43 (argD 0 [iD n]))) 1 false (A9.nl (T9.q T 43 (argD 0 [iD n])))] then
                                            bif ok 46 [iD n, DV.sl (A9.M (T9.q T 43 (argD 0 [iD n]))) (A9.k (T9.q T 43 (argD 0 [iD n]))) 1 false (A9.nl (T9.q T 43 (argD 0 [iD n])))] then
                                              bif ok 27 [iD n, iD 10] then
                                                some (Ex.norm, ⟨[(0, .d (iD (T9.nx T (argD 0 [iD n, iD 10])))), (3, .d (iD (IntKind.wrap IntKind.i64 (r + 1))))], [], []⟩)
                                              else
                                                none
                                            else
                                              none
                                          else
                                            none
                                    else
                                      bif !decide (A9.e (T9.q T 43 (argD 0 [iD n])) = 0) then
                                        some (Ex.ret, ⟨[(2, .d (bD false))], [], []⟩)
                                      else
                                        bif ok 25 [iD n, DV.sl (A9.M (T9.q T 43 (argD 0 [iD n]))) (A9.k (T9.q T 43 (argD 0 [iD n]))) 1 false (A9.nl (T9.q T 43 (argD 0 [iD n])))] then
                                          bif ok 46 [iD n, DV.sl (A9.M (T9.q T 43 (argD 0 [iD n]))) (A9.k (T9.q T 43 (argD 0 [iD n]))) 1 false (A9.nl (T9.q T 43 (argD 0 [iD n])))] then
                                            bif ok 27 [iD n, iD 10] then
                                              some (Ex.norm, ⟨[(0, .d (iD (T9.nx T (argD 0 [iD n, iD 10])))), (3, .d (iD (IntKind.wrap IntKind.i64 (r + 1))))], [], []⟩)
                                            else
                                              none
                                          else
                                            none
                                        else
                                          none
                                  else
                                    bif !decide (A9.e (T9.q T 43 (argD 0 [iD n])) = 0) then
                                      some (Ex.ret, ⟨[(2, .d (bD false))], [], []⟩)
                                    else
                                      bif ok 25 [iD n, DV.sl (A9.M (T9.q T 43 (argD 0 [iD n]))) (A9.k (T9.q T 43 (argD 0 [iD n]))) 1 false (A9.nl (T9.q T 43 (argD 0 [iD n])))] then
                                        bif ok 46 [iD n, DV.sl (A9.M (T9.q T 43 (argD 0 [iD n]))) (A9.k (T9.q T 43 (argD 0 [iD n]))) 1 false (A9.nl (T9.q T 43 (argD 0 [iD n])))] then
                                          bif ok 27 [iD n, iD 10] then
                                            some (Ex.norm, ⟨[(0, .d (iD (T9.nx T (argD 0 [iD n, iD 10])))), (3, .d (iD (IntKind.wrap IntKind.i64 (r + 1))))], [], []⟩)
                                          else
                                            none
                                        else
                                          none
                                      else
                                        none
                                else
                                  none
                              else
                                none
                            else
                              none
                  else
                    bif !decide (A9.e (T9.q T 35 (argD 0 [iD n])) = 0) then
                      some (Ex.ret, ⟨[(2, .d (bD false))], [], []⟩)
                    else
                      bif ok 25 [iD n, DV.sl (A9.M (T9.q T 35 (argD 0 [iD n]))) (A9.k (T9.q T 35 (argD 0 [iD n]))) 1 false (A9.nl (T9.q T 35 (argD 0 [iD n])))] then
                        bif ok 31 [iD n, DV.sl (A9.M (T9.q T 35 (argD 0 [iD n]))) (A9.k (T9.q T 35 (argD 0 [iD n]))) 1 false (A9.nl (T9.q T 35 (argD 0 [iD n])))] then
                          bif !decide (argD 0 [iD n, DV.sl (A9.M (T9.q T 35 (argD 0 [iD n]))) (A9.k (T9.q T 35 (argD 0 [iD n]))) 1 false (A9.nl (T9.q T 35 (argD 0 [iD n])))] - 2 = IntKind.wrap IntKind.i64 (n - 2)) then
                            some (Ex.ret, ⟨[(2, .d (bD false))], [], []⟩)
                          else
                            bif !decide (n = 4) then
                              bif !decide (n = 8) then
                                bif !decide (A9.e (T9.q T 42 (argD 0 [iD n])) = 1) then
                                  some (Ex.ret, ⟨[(2, .d (bD false))], [], []⟩)
                                else
                                  bif !decide ((↑(A9.k (T9.q T 42 (argD 0 [iD n]))) : Int) = 0) then
                                    some (Ex.ret, ⟨[(2, .d (bD false))], [], []⟩)
                                  else
                                    bif !decide (n = 4) then
                                      bif !decide (n = 6) then
                                        bif !decide (n = 8) then
                                          bif !decide (A9.e (T9.q T 43 (argD 0 [iD n])) = 1) then
                                            some (Ex.ret, ⟨[(2, .d (bD false))], [], []⟩)
                                          else
                                            bif !decide ((↑(A9.k (T9.q T 43 (argD 0 [iD n]))) : Int) = 0) then
                                              some (Ex.ret, ⟨[(2, .d (bD false))], [], []⟩)
                                            else
                                              bif ok 27 [iD n, iD 10] then
                                                some (Ex.norm, ⟨[(0, .d (iD (T9.nx T (argD 0 [iD n, iD 10])))), (3, .d (iD (IntKind.wrap IntKind.i64 (r + 1))))], [], []⟩)
                                              else
                                                none
                                        else
                                          bif !decide (A9.e (T9.q T 43 (argD 0 [iD n])) = 0) then
                                            some (Ex.ret, ⟨[(2, .d (bD false))], [], []⟩)
                                          else
                                            bif ok 25 [iD n, DV.sl (A9.M (T9.q T 43 (argD 0 [iD n]))) (A9.k (T9.q T 43 (argD 0 [iD n]))) 1 false (A9.nl (T9.q T 43 (argD 0 [iD n])))] then
                                              bif ok 46 [iD n, DV.sl (A9.M (T9.q T 43 (argD 0 [iD n]))) (A9.k (T9.q T 43 (argD 0 [iD n]))) 1 false (A9.nl (T9.q T 43 (argD 0 [iD n])))] then
                                                bif ok 27 [iD n, iD 10] then
                                                  some (Ex.norm, ⟨[(0, .d (iD (T9.nx T (argD 0 [iD n, iD 10])))), (3, .d (iD (IntKind.wrap IntKind.i64 (r + 1))))], [], []⟩)
                                                else
                                                  none
                                              else
                                                none
                                            else
                                              none
                                      else
                                        bif !decide (A9.e (T9.q T 43 (argD 0 [iD n])) = 0) then
                                          some (Ex.ret, ⟨[(2, .d (bD false))], [], []⟩)
                                        else
                                          bif ok 25 [iD n, DV.sl (A9.M (T9.q T 43 (argD 0 [iD n]))) (A9.k (T9.q T 43 (argD 0 [iD n]))) 1 false (A9.nl (T9.q T 43 (argD 0 [iD n])))] then
                                            bif ok 46 [iD n, DV.sl (A9.M (T9.q T 43 (argD 0 [iD n]))) (A9.k (T9.q T 43 (argD 0 [iD n]))) 1 false (A9.nl (T9.q T 43 (argD 0 [iD n])))] then
                                              bif ok 27 [iD n, iD 10] then
                                                some (Ex.norm, ⟨[(0, .d (iD (T9.nx T (argD 0 [iD n, iD 10])))), (3, .d (iD (IntKind.wrap IntKind.i64 (r + 1))))], [], []⟩)
                                              else
                                                none
                                            else
                                              none
                                          else
                                            none
                                    else
                                      bif !decide (A9.e (T9.q T 43 (argD 0 [iD n])) = 0) then
                                        some (Ex.ret, ⟨[(2, .d (bD false))], [], []⟩)
                                      else
                                        bif ok 25 [iD n, DV.sl (A9.M (T9.q T 43 (argD 0 [iD n]))) (A9.k (T9.q T 43 (argD 0 [iD n]))) 1 false (A9.nl (T9.q T 43 (argD 0 [iD n])))] then
                                          bif ok 46 [iD n, DV.sl (A9.M (T9.q T 43 (argD 0 [iD n]))) (A9.k (T9.q T 43 (argD 0 [iD n]))) 1 false (A9.nl (T9.q T 43 (argD 0 [iD n])))] then
                                            bif ok 27 [iD n, iD 10] then
                                              some (Ex.norm, ⟨[(0, .d (iD (T9.nx T (argD 0 [iD n, iD 10])))), (3, .d (iD (IntKind.wrap IntKind.i64 (r + 1))))], [], []⟩)
                                            else
                                              none
                                          else
                                            none
                                        else
                                          none
                              else
                                bif !decide (A9.e (T9.q T 42 (argD 0 [iD n])) = 0) then
                                  some (Ex.ret, ⟨[(2, .d (bD false))], [], []⟩)
                                else
                                  bif ok 25 [iD n, DV.sl (A9.M (T9.q T 42 (argD 0 [iD n]))) (A9.k (T9.q T 42 (argD 0 [iD n]))) 1 false (A9.nl (T9.q T 42 (argD 0 [iD n])))] then
                                    bif ok 45 [iD n, DV.sl (A9.M (T9.q T 42 (argD 0 [iD n]))) (A9.k (T9.q T 42 (argD 0 [iD n]))) 1 false (A9.nl (T9.q T 42 (argD 0 [iD n])))] then
                                      bif ok 44 [DV.sl (T9.F T (argD 0 [iD n, DV.sl (A9.M (T9.q T 42 (argD 0 [iD n]))) (A9.k (T9.q T 42 (argD 0 [iD n]))) 1 false (A9.nl (T9.q T 42 (argD 0 [iD n])))])) (T9.Fk T (argD 0 [iD n, DV.sl (A9.M (T9.q T 42 (argD 0 [iD n]))) (A9.k (T9.q T 42 (argD 0 [iD n]))) 1 false (A9.nl (T9.q T 42 (argD 0 [iD n])))])) 1 false false] then
                                        bif !decide (n = 4) then
                                          bif !decide (n = 6) then
                                            bif !decide (n = 8) then
                                              bif !decide (A9.e (T9.q T 43 (argD 0 [iD n])) = 1) then
                                                some (Ex.ret, ⟨[(2, .d (bD false))], [], []⟩)
                                              else
                                                bif !decide ((↑(A9.k (T9.q T 43 (argD 0 [iD n]))) : Int) = 0) then
                                                  some (Ex.ret, ⟨[(2, .d (bD false))], [], []⟩)
                                                else
                                                  bif ok 27 [iD n, iD 10] then
                                                    some (Ex.norm, ⟨[(0, .d (iD (T9.nx T (argD 0 [iD n, iD 10])))), (3, .d (iD (IntKind.wrap IntKind.i64 (r + 1))))], [], []⟩)
                                                  else
                                                    none
                                            else
                                              bif !decide (A9.e (T9.q T 43 (argD 0 [iD n])) = 0) then
                                                some (Ex.ret, ⟨[(2, .d (bD false))], [], []⟩)
                                              else
                                                bif ok 25 [iD n, DV.sl (A9.M (T9.q T 43 (argD 0 [iD n]))) (A9.k (T9.q T 43 (argD 0 [iD n]))) 1 false (A9.nl (T9.q T 43 (argD 0 [iD n])))] then
                                                  bif ok 46 [iD n, DV.sl (A9.M (T9.q T 43 (argD 0 [iD n]))) (A9.k (T9.q T 43 (argD 0 [iD n]))) 1 false (A9.nl (T9.q T 43 (argD 0 [iD n])))] then
                                                    bif ok 27 [iD n, iD 10] then
                                                      some (Ex.norm, ⟨[(0, .d (iD (T9.nx T (argD 0 [iD n, iD 10])))), (3, .d (iD (IntKind.wrap IntKind.i64 (r + 1))))], [], []⟩)
                                                    else
                                                      none
                                                  else
                                                    none
                                                else
                                                  none
                                          else
                                            bif !decide (A9.e (T9.q T 43 (argD 0 [iD n])) = 0) then
                                              some (Ex.ret, ⟨[(2, .d (bD false))], [], []⟩)
                                            else
                                              bif ok 25 [iD n, DV.sl (A9.M (T9.q T 43 (argD 0 [iD n]))) (A9.k (T9.q T 43 (argD 0 [iD n]))) 1 false (A9.nl (T9.q T 43 (argD 0 [iD n])))] then
                                                bif ok 46 [iD n, DV.sl (A9.M (T9.q T 43 (argD 0 [iD n]))) (A9.k (T9.q T 43 (argD 0 [iD n]))) 1 false (A9.nl (T9.q T 43 (argD 0 [iD n])))] then
                                                  bif ok 27 [iD n, iD 10] then
                                                    some (Ex.norm, ⟨[(0, .d (iD (T9.nx T (argD 0 [iD n, iD 10])))), (3, .d (iD (IntKind.wrap IntKind.i64 (r + 1))))], [], []⟩)
                                                  else
                                                    none
                                                else
                                                  none
                                              else
                                                none
                                        else
                                          bif !decide (A9.e (T9.q T 43 (argD 0 [iD n])) = 0) then
                                            some (Ex.ret, ⟨[(2, .d (bD false))], [], []⟩)
                                          else
                                            bif ok 25 [iD n, DV.sl (A9.M (T9.q T 43 (argD 0 [iD n]))) (A9.k (T9.q T 43 (argD 0 [iD n]))) 1 false (A9.nl (T9.q T 43 (argD 0 [iD n])))] then
                                              bif ok 46 [iD n, DV.sl (A9.M (T9.q T 43 (argD 0 [iD n]))) (A9.k (T9.q T 43 (argD 0 [iD n]))) 1 false (A9.nl (T9.q T 43 (argD 0 [iD n])))] then
                                                bif ok 27 [iD n, iD 10] then
                                                  some (Ex.norm, ⟨[(0, .d (iD (T9.nx T (argD 0 [iD n, iD 10])))), (3, .d (iD (IntKind.wrap IntKind.i64 (r + 1))))], [], []⟩)
                                                else
                                                  none
                                              else
                                                none
                                            else
                                              none
                                      else
                                        none
                                    else
                                      none
                                  else
                                    none
                            else
                              bif !decide (A9.e (T9.q T 42 (argD 0 [iD n])) = 0) then
                                some (Ex.ret, ⟨[(2, .d (bD false))], [], []⟩)
                              else
                                bif ok 25 [iD n, DV.sl (A9.M (T9.q T 42 (argD 0 [iD n]))) (A9.k (T9.q T 42 (argD 0 [iD n]))) 1 false (A9.nl (T9.q T 42 (argD 0 [iD n])))] then
                                  bif ok 45 [iD n, DV.sl (A9.M (T9.q T 42 (argD 0 [iD n]))) (A9.k (T9.q T 42 (argD 0 [iD n]))) 1 false (A9.nl (T9.q T 42 (argD 0 [iD n])))] then
                                    bif ok 44 [DV.sl (T9.F T (argD 0 [iD n, DV.sl (A9.M (T9.q T 42 (argD 0 [iD n]))) (A9.k (T9.q T 42 (argD 0 [iD n]))) 1 false (A9.nl (T9.q T 42 (argD 0 [iD n])))])) (T9.Fk T (argD 0 [iD n, DV.sl (A9.M (T9.q T 42 (argD 0 [iD n]))) (A9.k (T9.q T 42 (argD 0 [iD n]))) 1 false (A9.nl (T9.q T 42 (argD 0 [iD n])))])) 1 false false] then
                                      bif !decide (n = 4) then
                                        bif !decide (n = 6) then
                                          bif !decide (n = 8) then
                                            bif !decide (A9.e (T9.q T 43 (argD 0 [iD n])) = 1) then
                                              some (Ex.ret, ⟨[(2, .d (bD false))], [], []⟩)
                                            else
                                              bif !decide ((↑(A9.k (T9.q T 43 (argD 0 [iD n]))) : Int) = 0) then
                                                some (Ex.ret, ⟨[(2, .d (bD false))], [], []⟩)
                                              else
                                                bif ok 27 [iD n, iD 10] then
                                                  some (Ex.norm, ⟨[(0, .d (iD (T9.nx T (argD 0 [iD n, iD 10])))), (3, .d (iD (IntKind.wrap IntKind.i64 (r + 1))))], [], []⟩)
                                                else
                                                  none
                                          else
                                            bif !decide (A9.e (T9.q T 43 (argD 0 [iD n])) = 0) then
                                              some (Ex.ret, ⟨[(2, .d (bD false))], [], []⟩)
                                            else
                                              bif ok 25 [iD n, DV.sl (A9.M (T9.q T 43 (argD 0 [iD n]))) (A9.k (T9.q T 43 (argD 0 [iD n]))) 1 false (A9.nl (T9.q T 43 (argD 0 [iD n])))] then
                                                bif ok 46 [iD n, DV.sl (A9.M (T9.q T 43 (argD 0 [iD n]))) (A9.k (T9.q T 43 (argD 0 [iD n]))) 1 false (A9.nl (T9.q T 43 (argD 0 [iD n])))] then
                                                  bif ok 27 [iD n, iD 10] then
                                                    some (Ex.norm, ⟨[(0, .d (iD (T9.nx T (argD 0 [iD n, iD 10])))), (3, .d (iD (IntKind.wrap IntKind.i64 (r + 1))))], [], []⟩)
                                                  else
                                                    none
                                                else
                                                  none
                                              else
                                                none
                                        else
                                          bif !decide (A9.e (T9.q T 43 (argD 0 [iD n])) = 0) then
                                            some (Ex.ret, ⟨[(2, .d (bD false))], [], []⟩)
                                          else
                                            bif ok 25 [iD n, DV.sl (A9.M (T9.q T 43 (argD 0 [iD n]))) (A9.k (T9.q T 43 (argD 0 [iD n]))) 1 false (A9.nl (T9.q T 43 (argD 0 [iD n])))] then
                                              bif ok 46 [iD n, DV.sl (A9.M (T9.q T 43 (argD 0 [iD n]))) (A9.k (T9.q T 43 (argD 0 [iD n]))) 1 false (A9.nl (T9.q T 43 (argD 0 [iD n])))] then
                                                bif ok 27 [iD n, iD 10] then
                                                  some (Ex.norm, ⟨[(0, .d (iD (T9.nx T (argD 0 [iD n, iD 10])))), (3, .d (iD (IntKind.wrap IntKind.i64 (r + 1))))], [], []⟩)
                                                else
                                                  none
                                              else
                                                none
                                            else
                                              none
                                      else
                                        bif !decide (A9.e (T9.q T 43 (argD 0 [iD n])) = 0) then
                                          some (Ex.ret, ⟨[(2, .d (bD false))], [], []⟩)
                                        else
                                          bif ok 25 [iD n, DV.sl (A9.M (T9.q T 43 (argD 0 [iD n]))) (A9.k (T9.q T 43 (argD 0 [iD n]))) 1 false (A9.nl (T9.q T 43 (argD 0 [iD n])))] then
                                            bif ok 46 [iD n, DV.sl (A9.M (T9.q T 43 (argD 0 [iD n]))) (A9.k (T9.q T 43 (argD 0 [iD n]))) 1 false (A9.nl (T9.q T 43 (argD 0 [iD n])))] then
                                              bif ok 27 [iD n, iD 10] then
                                                some (Ex.norm, ⟨[(0, .d (iD (T9.nx T (argD 0 [iD n, iD 10])))), (3, .d (iD (IntKind.wrap IntKind.i64 (r + 1))))], [], []⟩)
                                              else
                                                none
                                            else
                                              none
                                          else
                                            none
                                    else
                                      none
                                  else
                                    none
                                else
                                  none
                        else
                          none
                      else
                        none
                else
                  none
              else
                none
            else
              none
          else
            none
        else
          none
      else
        none
    else
      none
  else
    some (Ex.exit 0, ⟨[], [], []⟩) := by kernel_rfl
theorem k9 : OkSeg Try.f9 none [0] := ⟨by kernel_rfl, by kernel_rfl, by decide⟩
theorem k9_0 : OkSeg Try.f9 (some 0) [] := ⟨by kernel_rfl, by kernel_rfl, by decide⟩
theorem k35 : OkSeg Try.f35 none [0] := ⟨by kernel_rfl, by kernel_rfl, by decide⟩
theorem k42 : OkSeg Try.f42 none [0] := ⟨by kernel_rfl, by kernel_rfl, by decide⟩
theorem k43 : OkSeg Try.f43 none [] := ⟨by kernel_rfl, by kernel_rfl, by decide⟩
theorem b35 (n : Int) : startS aeC evA 35 0 Try.f35 none ⟨envOf 0 [.d (iD n)], [], []⟩ (doneE aeC Try.f35 0 fun v h => freezeP 35 h v) =
  bif decide (2 ≤ n) then
    bif decide (n ≤ 10) then
      bif !decide (Int.tmod n 2 = 0) then
        some (DV.tup [DV.sl [] 0 0 false true, iD 1])
      else
        none
    else
      some (DV.tup [DV.sl [] 0 0 false true, iD 1])
  else
    some (DV.tup [DV.sl [] 0 0 false true, iD 1]) := by kernel_rfl
theorem b42 (n : Int) : startS aeC evA 42 0 Try.f42 none ⟨envOf 0 [.d (iD n)], [], []⟩ (doneE aeC Try.f42 0 fun v h => freezeP 42 h v) =
  bif !decide (n = 4) then
    bif !decide (n = 8) then
      some (DV.tup [DV.sl [] 0 0 false true, iD 1])
    else
      none
  else
    none := by kernel_rfl
theorem b43 (ok : Nat → List DV → Bool) (n : Int) : startS aeC (evT ok noS) 43 0 Try.f43 none ⟨envOf 0 [.d (iD n)], [], []⟩ (doneE aeC Try.f43 0 fun v h => freezeP 43 h v) =
  bif !decide (n = 4) then
    bif !decide (n = 6) then
      bif !decide (n = 8) then
        some (DV.tup [DV.sl [] 0 0 false true, iD 1])
      else
        bif ok 35 [iD n] then
          none
        else
          none
    else
      bif ok 35 [iD n] then
        none
      else
        none
  else
    bif ok 35 [iD n] then
      none
    else
      none := by kernel_rfl
theorem b15 (n : Int) : pureE aeC evA 30 15 Try.f15 [iD n] =
  bif decide (2 ≤ n) then
    bif decide (n ≤ 10) then
      some (bD (decide (Int.tmod n 2 = 0)))
    else
      some (bD false)
  else
    some (bD false) := by kernel_rfl
theorem b27 (n k : Int) : pureE aeC evA 30 27 Try.f27 [iD n, iD k] =
  bif decide (IntKind.wrap IntKind.u64 (IntKind.wrap IntKind.i64 (Int.tdiv k 2)) = 0) then
    none
  else
    some (iD (IntKind.wrap IntKind.i64 (2 + IntKind.wrap IntKind.i64 (2 * IntKind.wrap IntKind.i64 (Int.tmod (IntKind.wrap IntKind.u64 n) (IntKind.wrap IntKind.u64 (IntKind.wrap IntKind.i64 (Int.tdiv k 2)))))))) := by kernel_rfl
theorem c35_2 : PureOK Try.prog 35 [iD 2] (.tup [.sl (q9 35 2).M (q9 35 2).k (q9 35 2).z false (q9 35 2).nl, iD (q9 35 2).e]) := walkA (by kernel_rfl : tget aeF 35 = some Try.f35) (by kernel_rfl)
theorem c25_2_35_2 : PureOK Try.prog 25 [iD 2, D9 35 2] (iD 0) := walkA (by kernel_rfl : tget aeF 25 = some Try.f25) (by kernel_rfl)
theorem c31_2_35_2 : PureOK Try.prog 31 [iD 2, D9 35 2] (iD (2 - 2)) := walkA (by kernel_rfl : tget aeF 31 = some Try.f31) (by kernel_rfl)
theorem c35_4 : PureOK Try.prog 35 [iD 4] (.tup [.sl (q9 35 4).M (q9 35 4).k (q9 35 4).z false (q9 35 4).nl, iD (q9 35 4).e]) := walkA (by kernel_rfl : tget aeF 35 = some Try.f35) (by kernel_rfl)
theorem c25_4_35_4 : PureOK Try.prog 25 [iD 4, D9 35 4] (iD 0) := walkA (by kernel_rfl : tget aeF 25 = some Try.f25) (by kernel_rfl)
theorem c31_4_35_4 : PureOK Try.prog 31 [iD 4, D9 35 4] (iD (4 - 2)) := walkA (by kernel_rfl : tget aeF 31 = some Try.f31) (by kernel_rfl)
theorem c35_6 : PureOK Try.prog 35 [iD 6] (.tup [.sl (q9 35 6).M (q9 35 6).k (q9 35 6).z false (q9 35 6).nl, iD (q9 35 6).e]) := walkA (by kernel_rfl : tget aeF 35 = some Try.f35) (by kernel_rfl)
theorem c25_6_35_6 : PureOK Try.prog 25 [iD 6, D9 35 6] (iD 0) := walkA (by kernel_rfl : tget aeF 25 = some Try.f25) (by kernel_rfl)
theorem c31_6_35_6 : PureOK Try.prog 31 [iD 6, D9 35 6] (iD (6 - 2)) := walkA (by kernel_rfl : tget aeF 31 = some Try.f31) (by kernel_rfl)
theorem c35_8 : PureOK Try.prog 35 [iD 8] (.tup [.sl (q9 35 8).M (q9 35 8).k (q9 35 8).z false (q9 35 8).nl, iD (q9 35 8).e]) := walkA (by kernel_rfl : tget aeF 35 = some Try.f35) (by kernel_rfl)
theorem c25_8_35_8 : PureOK Try.prog 25 [iD 8, D9 35 8] (iD 0) := walkA (by kernel_rfl : tget aeF 25 = some Try.f25) (by kernel_rfl)
theorem c31_8_35_8 : PureOK Try.prog 31 [iD 8, D9 35 8] (iD (8 - 2)) := walkA (by kernel_rfl : tget aeF 31 = some Try.f31) (by kernel_rfl)
theorem c35_10 : PureOK Try.prog 35 [iD 10] (.tup [.sl (q9 35 10).M (q9 35 10).k (q9 35 10).z false (q9 35 10).nl, iD (q9 35 10).e]) := walkA (by kernel_rfl : tget aeF 35 = some Try.f35) (by kernel_rfl)
theorem c25_10_35_10 : PureOK Try.prog 25 [iD 10, D9 35 10] (iD 0) := walkA (by kernel_rfl : tget aeF 25 = some Try.f25) (by kernel_rfl)
theorem c31_10_35_10 : PureOK Try.prog 31 [iD 10, D9 35 10] (iD (10 - 2)) := walkA (by kernel_rfl : tget aeF 31 = some Try.f31) (by kernel_rfl)
theorem c42_4 : PureOK Try.prog 42 [iD 4] (.tup [.sl (q9 42 4).M (q9 42 4).k (q9 42 4).z false (q9 42 4).nl, iD (q9 42 4).e]) := walkA (by kernel_rfl : tget aeF 42 = some Try.f42) (by kernel_rfl)
theorem c25_4_42_4 : PureOK Try.prog 25 [iD 4, D9 42 4] (iD 0) := walkA (by kernel_rfl : tget aeF 25 = some Try.f25) (by kernel_rfl)
theorem c45_4_42_4 : PureOK Try.prog 45 [iD 4, D9 42 4] (.sl F45_4 4 1 false false) := walkA (by kernel_rfl : tget aeF 45 = some Try.f45) (by kernel_rfl)
theorem c44_F4 : PureOK Try.prog 44 [.sl F45_4 4 1 false false] (bD true) := walkA (by kernel_rfl : tget aeF 44 = some Try.f44) (by kernel_rfl)
theorem c42_8 : PureOK Try.prog 42 [iD 8] (.tup [.sl (q9 42 8).M (q9 42 8).k (q9 42 8).z false (q9 42 8).nl, iD (q9 42 8).e]) := walkA (by kernel_rfl : tget aeF 42 = some Try.f42) (by kernel_rfl)
theorem c25_8_42_8 : PureOK Try.prog 25 [iD 8, D9 42 8] (iD 0) := walkA (by kernel_rfl : tget aeF 25 = some Try.f25) (by kernel_rfl)
theorem c45_8_42_8 : PureOK Try.prog 45 [iD 8, D9 42 8] (.sl F45_8 8 1 false false) := walkA (by kernel_rfl : tget aeF 45 = some Try.f45) (by kernel_rfl)
theorem c44_F8 : PureOK Try.prog 44 [.sl F45_8 8 1 false false] (bD true) := walkA (by kernel_rfl : tget aeF 44 = some Try.f44) (by kernel_rfl)
theorem c43_4 : PureOK Try.prog 43 [iD 4] (.tup [.sl (q9 43 4).M (q9 43 4).k (q9 43 4).z false (q9 43 4).nl, iD (q9 43 4).e]) := walkA (by kernel_rfl : tget aeF 43 = some Try.f43) (by kernel_rfl)
theorem c46_4_43_4 : PureOK Try.prog 46 [iD 4, D9 43 4] (bD true) := walkA (by kernel_rfl : tget aeF 46 = some Try.f46) (by kernel_rfl)
theorem c43_6 : PureOK Try.prog 43 [iD 6] (.tup [.sl (q9 43 6).M (q9 43 6).k (q9 43 6).z false (q9 43 6).nl, iD (q9 43 6).e]) := walkA (by kernel_rfl : tget aeF 43 = some Try.f43) (by kernel_rfl)
theorem c46_6_43_6 : PureOK Try.prog 46 [iD 6, D9 43 6] (bD true) := walkA (by kernel_rfl : tget aeF 46 = some Try.f46) (by kernel_rfl)
theorem c43_8 : PureOK Try.prog 43 [iD 8] (.tup [.sl (q9 43 8).M (q9 43 8).k (q9 43 8).z false (q9 43 8).nl, iD (q9 43 8).e]) := walkA (by kernel_rfl : tget aeF 43 = some Try.f43) (by kernel_rfl)
theorem c46_8_43_8 : PureOK Try.prog 46 [iD 8, D9 43 8] (bD true) := walkA (by kernel_rfl : tget aeF 46 = some Try.f46) (by kernel_rfl)
theorem t9_iff (n : Int) : t9 n = true ↔ 2 ≤ n ∧ n ≤ 10 ∧ Int.tmod n 2 = 0 := by
  simp only [t9, Bool.or_eq_true, decide_eq_true_eq]
  constructor
  · rintro (rfl | rfl | rfl | rfl | rfl) <;> decide
  · rintro ⟨h1, h2, h3⟩
    rw [Int.tmod_eq_emod_of_nonneg (by omega)] at h3
    omega
theorem c15 (n : Int) : PureOK Try.prog 15 [iD n] (bD (t9 n)) := by
  refine walkA (by kernel_rfl : tget aeF 15 = some Try.f15) ((b15 n).trans ?_)
  by_cases h1 : 2 ≤ n
  · by_cases h2 : n ≤ 10
    · rw [decide_eq_true h1, decide_eq_true h2]
      simp only [cond_true]
      congr 2
      rw [Bool.eq_iff_iff, t9_iff, decide_eq_true_eq]
      exact ⟨fun h => ⟨h1, h2, h⟩, fun h => h.2.2⟩
    · rw [decide_eq_true h1, decide_eq_false h2]
      have : t9 n = false := by rw [Bool.eq_false_iff, Ne, t9_iff]; omega
      rw [this]; rfl
  · rw [decide_eq_false h1]
    have : t9 n = false := by rw [Bool.eq_false_iff, Ne, t9_iff]; omega
    rw [this]; rfl
theorem c27 (n : Int) : PureOK Try.prog 27 [iD n, iD 10] (iD (x9 n)) := walkA (by kernel_rfl : tget aeF 27 = some Try.f27) ((b27 n 10).trans rfl)
theorem bad9 {n : Int} (h : t9 n = false) (f : Nat) : q9 f n = no9 := by
  simp only [t9, Bool.or_eq_false_iff] at h
  obtain ⟨h1, h2, h3, h4, h5⟩ := h
  unfold q9
  rw [h1, h2, h3, h4, h5]
  cases Nat.beq f 42 <;> cases Nat.beq f 43 <;> rfl
def nil9 : DV := .tup [.sl [] 0 0 false true, iD 1]
theorem c35_no {n : Int} (h : t9 n = false) : PureOK Try.prog 35 [iD n] nil9 := by
  refine ae_pure (evW_ok [] noS) (fn := Try.f35) k35 (by kernel_rfl) (by kernel_rfl) (startF_done k35 done_plain ((b35 n).trans ?_))
  have h' : ¬ (2 ≤ n ∧ n ≤ 10 ∧ Int.tmod n 2 = 0) := by rw [← t9_iff, h]; decide
  by_cases h1 : 2 ≤ n
  · by_cases h2 : n ≤ 10
    · rw [decide_eq_true h1, decide_eq_true h2, decide_eq_false (fun q => h' ⟨h1, h2, q⟩)]; rfl
    · rw [decide_eq_true h1, decide_eq_false h2]; rfl
  · rw [decide_eq_false h1]; rfl
theorem c42_no {n : Int} (h4 : n ≠ 4) (h8 : n ≠ 8) : PureOK Try.prog 42 [iD n] nil9 :=
  ae_pure (evW_ok [] noS) (fn := Try.f42) k42 (by kernel_rfl) (by kernel_rfl) (startF_done k42 done_plain ((b42 n).trans (by rw [decide_eq_false h4, decide_eq_false h8]; rfl)))
theorem c43_no {n : Int} (h4 : n ≠ 4) (h6 : n ≠ 6) (h8 : n ≠ 8) : PureOK Try.prog 43 [iD n] nil9 :=
  ae_pure (evT_ok noS) (fn := Try.f43) k43 (by kernel_rfl) (by kernel_rfl) (startF_done k43 done_plain ((b43 _ n).trans (by rw [decide_eq_false h4, decide_eq_false h6, decide_eq_false h8]; rfl)))
noncomputable abbrev ok9 : Nat → List DV → Bool := okS (i9 T9v)
/-- Any number of teams that is none. -/
theorem r9_no {n : Int} (h : t9 n = false) (r : Int) (hr : r < 2) : startS aeC (evT ok9 (i9 T9v)) 9 0 Try.f9 (some 0) (s9 n r) (roundD aeC 9 0 0) = some (Ex.norm, s9 (x9 n) (IntKind.wrap IntKind.i64 (r + 1))) := by
  have hq : ∀ f, T9v.q f (argD 0 [iD n]) = no9 := fun f => bad9 h f
  have ht : T9v.t (argD 0 [iD n]) = false := h
  have h' := h
  simp only [t9, Bool.or_eq_false_iff, decide_eq_false_iff_not] at h'
  obtain ⟨h2, h4, h6, h8, h10⟩ := h'
  have a : ∀ f, (Nat.beq f 35 || (Nat.beq f 42 || Nat.beq f 43)) = true → i9 T9v f [iD n] = nil9 := fun f hf => by
    unfold i9
    rw [hf]
    show DV.tup [.sl (q9 f n).M (q9 f n).k (q9 f n).z false (q9 f n).nl, iD (q9 f n).e] = _
    rw [bad9 h]; rfl
  have g35 : ok9 35 [iD n] = true := okS_is (by rw [a 35 rfl]; exact c35_no h)
  have g42 : ok9 42 [iD n] = true := okS_is (by rw [a 42 rfl]; exact c42_no h4 h8)
  have g43 : ok9 43 [iD n] = true := okS_is (by rw [a 43 rfl]; exact c43_no h4 h6 h8)
  have g15 : ok9 15 [iD n] = true := okS_is (c15 n)
  have g27 : ok9 27 [iD n, iD 10] = true := okS_is (c27 n)
  rw [t9_0]
  simp only [hq, ht, g35, g42, g43, g15, g27, hr, h4, h6, h8, decide_true, decide_false, cond_true, cond_false, Bool.not_false, Bool.not_true, no9, Bool.true_or]
  rfl
theorem r9_2 (r : Int) (hr : r < 2) : startS aeC (evT ok9 (i9 T9v)) 9 0 Try.f9 (some 0) (s9 2 r) (roundD aeC 9 0 0) = some (Ex.norm, s9 (x9 2) (IntKind.wrap IntKind.i64 (r + 1))) := by
  refine (t9_2 ok9 r).trans ((cnd_pos hr).trans (chkL_ok ?_))
  intro c hc
  have hl : calls9 2 = [_, _, _, _, _, _, _] := rfl
  rw [hl] at hc
  simp only [List.mem_cons, List.not_mem_nil, or_false] at hc
  rcases hc with rfl | rfl | rfl | rfl | rfl | rfl | rfl
  · exact okS_is (c35_2)
  · exact okS_is (c42_no (n := 2) (by decide) (by decide))
  · exact okS_is (c43_no (n := 2) (by decide) (by decide) (by decide))
  · exact okS_is (c15 2)
  · exact okS_is (c25_2_35_2)
  · exact okS_is (c31_2_35_2)
  · exact okS_is (c27 2)
theorem r9_4 (r : Int) (hr : r < 2) : startS aeC (evT ok9 (i9 T9v)) 9 0 Try.f9 (some 0) (s9 4 r) (roundD aeC 9 0 0) = some (Ex.norm, s9 (x9 4) (IntKind.wrap IntKind.i64 (r + 1))) := by
  refine (t9_4 ok9 r).trans ((cnd_pos hr).trans (chkL_ok ?_))
  intro c hc
  have hl : calls9 4 = [_, _, _, _, _, _, _, _, _, _, _, _] := rfl
  rw [hl] at hc
  simp only [List.mem_cons, List.not_mem_nil, or_false] at hc
  rcases hc with rfl | rfl | rfl | rfl | rfl | rfl | rfl | rfl | rfl | rfl | rfl | rfl
  · exact okS_is (c35_4)
  · exact okS_is (c42_4)
  · exact okS_is (c43_4)
  · exact okS_is (c15 4)
  · exact okS_is (c25_4_35_4)
  · exact okS_is (c31_4_35_4)
  · exact okS_is (c25_4_42_4)
  · exact okS_is (c45_4_42_4)
  · exact okS_is (c44_F4)
  · exact okS_is (c25_4_35_4)
  · exact okS_is (c46_4_43_4)
  · exact okS_is (c27 4)
theorem r9_6 (r : Int) (hr : r < 2) : startS aeC (evT ok9 (i9 T9v)) 9 0 Try.f9 (some 0) (s9 6 r) (roundD aeC 9 0 0) = some (Ex.norm, s9 (x9 6) (IntKind.wrap IntKind.i64 (r + 1))) := by
  refine (t9_6 ok9 r).trans ((cnd_pos hr).trans (chkL_ok ?_))
  intro c hc
  have hl : calls9 6 = [_, _, _, _, _, _, _, _, _] := rfl
  rw [hl] at hc
  simp only [List.mem_cons, List.not_mem_nil, or_false] at hc
  rcases hc with rfl | rfl | rfl | rfl | rfl | rfl | rfl | rfl | rfl
  · exact okS_is (c35_6)
  · exact okS_is (c42_no (n := 6) (by decide) (by decide))
  · exact okS_is (c43_6)
  · exact okS_is (c15 6)
  · exact okS_is (c25_6_35_6)
  · exact okS_is (c31_6_35_6)
  · exact okS_is (c25_6_35_6)
  · exact okS_is (c46_6_43_6)
  · exact okS_is (c27 6)
theorem r9_8 (r : Int) (hr : r < 2) : startS aeC (evT ok9 (i9 T9v)) 9 0 Try.f9 (some 0) (s9 8 r) (roundD aeC 9 0 0) = some (Ex.norm, s9 (x9 8) (IntKind.wrap IntKind.i64 (r + 1))) := by
  refine (t9_8 ok9 r).trans ((cnd_pos hr).trans (chkL_ok ?_))
  intro c hc
  have hl : calls9 8 = [_, _, _, _, _, _, _, _, _, _, _, _] := rfl
  rw [hl] at hc
  simp only [List.mem_cons, List.not_mem_nil, or_false] at hc
  rcases hc with rfl | rfl | rfl | rfl | rfl | rfl | rfl | rfl | rfl | rfl | rfl | rfl
  · exact okS_is (c35_8)
  · exact okS_is (c42_8)
  · exact okS_is (c43_8)
  · exact okS_is (c15 8)
  · exact okS_is (c25_8_35_8)
  · exact okS_is (c31_8_35_8)
  · exact okS_is (c25_8_42_8)
  · exact okS_is (c45_8_42_8)
  · exact okS_is (c44_F8)
  · exact okS_is (c25_8_35_8)
  · exact okS_is (c46_8_43_8)
  · exact okS_is (c27 8)
theorem r9_10 (r : Int) (hr : r < 2) : startS aeC (evT ok9 (i9 T9v)) 9 0 Try.f9 (some 0) (s9 10 r) (roundD aeC 9 0 0) = some (Ex.norm, s9 (x9 10) (IntKind.wrap IntKind.i64 (r + 1))) := by
  refine (t9_10 ok9 r).trans ((cnd_pos hr).trans (chkL_ok ?_))
  intro c hc
  have hl : calls9 10 = [_, _, _, _, _, _, _] := rfl
  rw [hl] at hc
  simp only [List.mem_cons, List.not_mem_nil, or_false] at hc
  rcases hc with rfl | rfl | rfl | rfl | rfl | rfl | rfl
  · exact okS_is (c35_10)
  · exact okS_is (c42_no (n := 10) (by decide) (by decide))
  · exact okS_is (c43_no (n := 10) (by decide) (by decide) (by decide))
  · exact okS_is (c15 10)
  · exact okS_is (c25_10_35_10)
  · exact okS_is (c31_10_35_10)
  · exact okS_is (c27 10)
theorem r9 (n r : Int) (hr : r < 2) : startS aeC (evT ok9 (i9 T9v)) 9 0 Try.f9 (some 0) (s9 n r) (roundD aeC 9 0 0) = some (Ex.norm, s9 (x9 n) (IntKind.wrap IntKind.i64 (r + 1))) := by
  cases h : t9 n with
  | false => exact r9_no h r hr
  | true =>
    simp only [t9, Bool.or_eq_true, decide_eq_true_eq] at h
    rcases h with rfl | rfl | rfl | rfl | rfl
    · exact r9_2 r hr
    · exact r9_4 r hr
    · exact r9_6 r hr
    · exact r9_8 r hr
    · exact r9_10 r hr
/-- Law 9 on data. -/
theorem makes_pure (n : Int) : PureOK Try.prog 9 [iD n] (bD true) := by
  have g21 : ok9 21 [] = true := okS_is awake_ok
  refine ae_pure (evT_ok (i9 T9v)) (fn := Try.f9) k9 (by kernel_rfl) (by kernel_rfl) ((startF_seg k9 (t9_h ok9 T9v n) (.next k9_0 (r9 n 0 (by decide)) (.next k9_0 (r9 (x9 n) 1 (by decide)) (.out k9_0 (by simp) (t9_x ..))))).trans (nextF_done k9 done_plain ((t9_e ..).trans ?_)))
  rw [g21]; rfl
end Go.Proofs.Ytigijjinlalnaaa
