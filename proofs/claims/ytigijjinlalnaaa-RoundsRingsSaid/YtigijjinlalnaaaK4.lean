/- Part 4 of what the law stands on: the abstract machine over the model, and what the functions answer. No condition. -/
import Derived.Test.YtigijjinlalnaaaProg
import Derived.Test.YtigijjinlalnaaaChecked
import Derived.Test.YtigijjinlalnaaaK3
set_option linter.unusedSimpArgs false
set_option linter.unusedVariables false

/- The tables of the seat for the abstract machine, written by a program of this session (wip/tools/aectx.py). -/
namespace Go.Proofs.Ytigijjinlalnaaa
open Go Go.AE

noncomputable def aeT : Tab TI :=
  (.node 77 (⟨.other, 1, 8, [.nilf]⟩) (.node 41 (⟨.other, 1, 8, [.nilf]⟩) (.node 23 (⟨(.slice 3), 1, 24, [.sl [] 0 0 false true]⟩) (.node 10 (⟨.str, 1, 16, [.str ⟨#[]⟩]⟩) (.node 4 (⟨.bool, 1, 1, [.bool false]⟩) (.node 2 (⟨(.int .i64), 1, 8, [.int .i64 0]⟩) (.node 1 (⟨.other, 1, 8, [.nilf]⟩) (.node 0 (⟨.other, 1, 0, []⟩) .leaf .leaf) .leaf) (.node 3 (⟨(.int .i64), 1, 8, [.int .i64 0]⟩) .leaf .leaf)) (.node 6 (⟨(.int .u8), 1, 1, [.int .u8 0]⟩) (.node 5 (⟨(.int .u8), 1, 1, [.int .u8 0]⟩) .leaf .leaf) (.node 9 (⟨.str, 1, 16, [.str ⟨#[]⟩]⟩) .leaf .leaf))) (.node 17 (⟨(.ptr 154), 1, 8, [.nilp]⟩) (.node 15 (⟨(.ptr 142), 1, 8, [.nilp]⟩) (.node 12 (⟨(.int .u64), 1, 8, [.int .u64 0]⟩) (.node 11 (⟨.str, 1, 16, [.str ⟨#[]⟩]⟩) .leaf .leaf) .leaf) (.node 16 (⟨(.ptr 145), 1, 8, [.nilp]⟩) .leaf .leaf)) (.node 21 (⟨(.int .i32), 1, 4, [.int .i32 0]⟩) (.node 20 (⟨.other, 1, 16, [.nili]⟩) .leaf .leaf) (.node 22 (⟨(.slice 25), 1, 24, [.sl [] 0 0 false true]⟩) .leaf .leaf)))) (.node 32 (⟨.other, 1, 8, [.nilf]⟩) (.node 28 (⟨.other, 1, 8, [.nilf]⟩) (.node 26 (⟨(.int .i64), 1, 8, [.int .i64 0]⟩) (.node 25 (⟨(.slice 36), 1, 24, [.sl [] 0 0 false true]⟩) (.node 24 (⟨.other, 1, 8, [.nilf]⟩) .leaf .leaf) .leaf) (.node 27 (⟨.other, 1, 0, []⟩) .leaf .leaf)) (.node 30 (⟨.other, 1, 8, [.nilf]⟩) (.node 29 (⟨.other, 1, 8, [.nilf]⟩) .leaf .leaf) (.node 31 (⟨.other, 1, 8, [.nilf]⟩) .leaf .leaf))) (.node 37 (⟨.other, 1, 8, [.nilf]⟩) (.node 35 (⟨.other, 1, 8, [.nilf]⟩) (.node 34 (⟨.other, 1, 8, [.nilf]⟩) (.node 33 (⟨.other, 1, 0, []⟩) .leaf .leaf) .leaf) (.node 36 (⟨(.array 2 3), 2, 16, [.int .i64 0, .int .i64 0]⟩) .leaf .leaf)) (.node 39 (⟨.other, 1, 0, []⟩) (.node 38 (⟨.other, 1, 8, [.nilf]⟩) .leaf .leaf) (.node 40 (⟨.other, 1, 8, [.nilf]⟩) .leaf .leaf))))) (.node 59 (⟨.other, 1, 8, [.nilf]⟩) (.node 50 (⟨.other, 1, 8, [.nilf]⟩) (.node 46 (⟨.other, 1, 8, [.nilf]⟩) (.node 44 (⟨.other, 1, 8, [.nilf]⟩) (.node 43 (⟨.other, 1, 8, [.nilf]⟩) (.node 42 (⟨.other, 1, 8, [.nilf]⟩) .leaf .leaf) .leaf) (.node 45 (⟨(.int .u64), 1, 8, [.int .u64 0]⟩) .leaf .leaf)) (.node 48 (⟨.other, 1, 8, [.nilf]⟩) (.node 47 (⟨.other, 1, 0, []⟩) .leaf .leaf) (.node 49 (⟨.other, 1, 8, [.nilf]⟩) .leaf .leaf))) (.node 55 (⟨.other, 1, 8, [.nilf]⟩) (.node 53 (⟨(.slice 9), 1, 24, [.sl [] 0 0 false true]⟩) (.node 52 (⟨.other, 1, 8, [.nilf]⟩) (.node 51 (⟨.other, 1, 0, []⟩) .leaf .leaf) .leaf) (.node 54 (⟨.other, 1, 0, []⟩) .leaf .leaf)) (.node 57 (⟨.other, 1, 0, []⟩) (.node 56 (⟨.other, 1, 8, [.nilf]⟩) .leaf .leaf) (.node 58 (⟨.other, 1, 8, [.nilf]⟩) .leaf .leaf)))) (.node 68 (⟨.other, 1, 0, []⟩) (.node 64 (⟨.other, 1, 8, [.nilf]⟩) (.node 62 (⟨.other, 1, 8, [.nilf]⟩) (.node 61 (⟨.other, 1, 8, [.nilf]⟩) (.node 60 (⟨.other, 1, 8, [.nilf]⟩) .leaf .leaf) .leaf) (.node 63 (⟨.other, 1, 8, [.nilf]⟩) .leaf .leaf)) (.node 66 (⟨(.slice 23), 1, 24, [.sl [] 0 0 false true]⟩) (.node 65 (⟨.other, 1, 8, [.nilf]⟩) .leaf .leaf) (.node 67 (⟨.other, 1, 8, [.nilf]⟩) .leaf .leaf))) (.node 73 (⟨(.array 10 3), 10, 80, (List.replicate 10 (.int .i64 0))⟩) (.node 71 (⟨.other, 1, 8, [.nilf]⟩) (.node 70 (⟨.other, 1, 0, []⟩) (.node 69 (⟨.other, 1, 8, [.nilf]⟩) .leaf .leaf) .leaf) (.node 72 (⟨.other, 1, 8, [.nilf]⟩) .leaf .leaf)) (.node 75 (⟨.other, 1, 0, []⟩) (.node 74 (⟨(.array 10 3), 10, 80, (List.replicate 10 (.int .i64 0))⟩) .leaf .leaf) (.node 76 (⟨.other, 1, 8, [.nilf]⟩) .leaf .leaf)))))) (.node 113 (⟨(.ptr 87), 1, 8, [.nilp]⟩) (.node 95 (⟨.other, 1, 8, [.nilf]⟩) (.node 86 (⟨(.array 10 85), 100, 100, (List.replicate 100 (.bool false))⟩) (.node 82 (⟨(.slice 74), 1, 24, [.sl [] 0 0 false true]⟩) (.node 80 (⟨.other, 1, 8, [.nilf]⟩) (.node 79 (⟨.other, 1, 0, []⟩) (.node 78 (⟨(.slice 4), 1, 24, [.sl [] 0 0 false true]⟩) .leaf .leaf) .leaf) (.node 81 (⟨.other, 1, 8, [.nilf]⟩) .leaf .leaf)) (.node 84 (⟨.other, 1, 8, [.nilf]⟩) (.node 83 (⟨.other, 1, 0, []⟩) .leaf .leaf) (.node 85 (⟨(.array 10 4), 10, 10, (List.replicate 10 (.bool false))⟩) .leaf .leaf))) (.node 91 (⟨.other, 1, 8, [.nilf]⟩) (.node 89 (⟨(.map 87 4), 1, 8, [.nilm]⟩) (.node 88 (⟨.other, 1, 8, [.nilf]⟩) (.node 87 (⟨(.array 10 85), 100, 100, (List.replicate 100 (.bool false))⟩) .leaf .leaf) .leaf) (.node 90 (⟨.other, 1, 8, [.nilf]⟩) .leaf .leaf)) (.node 93 (⟨.other, 1, 8, [.nilf]⟩) (.node 92 (⟨.other, 1, 8, [.nilf]⟩) .leaf .leaf) (.node 94 (⟨(.slice 97), 1, 24, [.sl [] 0 0 false true]⟩) .leaf .leaf)))) (.node 104 (⟨.other, 1, 8, [.nilf]⟩) (.node 100 (⟨.other, 1, 8, [.nilf]⟩) (.node 98 (⟨.other, 1, 8, [.nilf]⟩) (.node 97 (⟨(.struct [(0, 3), (1, 3)]), 2, 16, [.int .i64 0, .int .i64 0]⟩) (.node 96 (⟨(.struct [(0, 3), (1, 3)]), 2, 16, [.int .i64 0, .int .i64 0]⟩) .leaf .leaf) .leaf) (.node 99 (⟨(.array 100 4), 100, 100, (List.replicate 100 (.bool false))⟩) .leaf .leaf)) (.node 102 (⟨.other, 1, 8, [.nilf]⟩) (.node 101 (⟨.other, 1, 0, []⟩) .leaf .leaf) (.node 103 (⟨.other, 1, 8, [.nilf]⟩) .leaf .leaf))) (.node 109 (⟨.other, 1, 8, [.nilf]⟩) (.node 107 (⟨.other, 1, 8, [.nilf]⟩) (.node 106 (⟨(.map 3 3), 1, 8, [.nilm]⟩) (.node 105 (⟨(.map 3 4), 1, 8, [.nilm]⟩) .leaf .leaf) .leaf) (.node 108 (⟨.other, 1, 8, [.nilf]⟩) .leaf .leaf)) (.node 111 (⟨.other, 1, 8, [.nilf]⟩) (.node 110 (⟨.other, 1, 8, [.nilf]⟩) .leaf .leaf) (.node 112 (⟨.other, 1, 8, [.nilf]⟩) .leaf .leaf))))) (.node 131 (⟨(.int .u64), 1, 8, [.int .u64 0]⟩) (.node 122 (⟨.other, 1, 8, [.nilf]⟩) (.node 118 (⟨.other, 1, 8, [.nilf]⟩) (.node 116 (⟨.other, 1, 8, [.nilf]⟩) (.node 115 (⟨.other, 1, 8, [.nilf]⟩) (.node 114 (⟨.other, 1, 8, [.nilf]⟩) .leaf .leaf) .leaf) (.node 117 (⟨.other, 1, 8, [.nilf]⟩) .leaf .leaf)) (.node 120 (⟨.other, 1, 0, []⟩) (.node 119 (⟨(.int .i64), 1, 8, [.int .i64 0]⟩) .leaf .leaf) (.node 121 (⟨.other, 1, 8, [.nilf]⟩) .leaf .leaf))) (.node 127 (⟨.other, 1, 8, [.nilf]⟩) (.node 125 (⟨.other, 1, 0, []⟩) (.node 124 (⟨.other, 1, 8, [.nilf]⟩) (.node 123 (⟨.other, 1, 8, [.nilf]⟩) .leaf .leaf) .leaf) (.node 126 (⟨.other, 1, 8, [.nilf]⟩) .leaf .leaf)) (.node 129 (⟨.other, 1, 8, [.nilf]⟩) (.node 128 (⟨(.int .u32), 1, 4, [.int .u32 0]⟩) .leaf .leaf) (.node 130 (⟨(.int .u64), 1, 8, [.int .u64 0]⟩) .leaf .leaf)))) (.node 140 (⟨.other, 1, 8, [.nilf]⟩) (.node 136 (⟨.other, 1, 8, [.nilf]⟩) (.node 134 (⟨.other, 1, 8, [.nilf]⟩) (.node 133 (⟨.other, 1, 8, [.nilf]⟩) (.node 132 (⟨.other, 1, 8, [.nilf]⟩) .leaf .leaf) .leaf) (.node 135 (⟨(.ptr 3), 1, 8, [.nilp]⟩) .leaf .leaf)) (.node 138 (⟨.other, 1, 0, []⟩) (.node 137 (⟨(.ptr 131), 1, 8, [.nilp]⟩) .leaf .leaf) (.node 139 (⟨.other, 1, 8, [.nilf]⟩) .leaf .leaf))) (.node 150 (⟨(.ptr 5), 1, 8, [.nilp]⟩) (.node 148 (⟨(.int .u8), 1, 1, [.int .u8 0]⟩) (.node 147 (⟨(.int .u8), 1, 1, [.int .u8 0]⟩) (.node 146 (⟨.other, 1, 8, [.nilf]⟩) .leaf .leaf) .leaf) (.node 149 (⟨.other, 1, 8, [.nilf]⟩) .leaf .leaf)) (.node 152 (⟨(.int .i32), 1, 4, [.int .i32 0]⟩) (.node 151 (⟨(.int .i32), 1, 4, [.int .i32 0]⟩) .leaf .leaf) (.node 155 (⟨.other, 1, 8, []⟩) .leaf .leaf)))))))

noncomputable def aeRets : Tab (List Nat) :=
  (.node 57 [22] (.node 28 [3, 22, 26] (.node 14 [23, 26] (.node 7 [4] (.node 3 [4] (.node 1 [] (.node 0 [] .leaf .leaf) (.node 2 [] .leaf .leaf)) (.node 5 [4] (.node 4 [4] .leaf .leaf) (.node 6 [4] .leaf .leaf))) (.node 11 [4] (.node 9 [4] (.node 8 [4] .leaf .leaf) (.node 10 [4] .leaf .leaf)) (.node 13 [22] (.node 12 [4] .leaf .leaf) .leaf))) (.node 21 [4] (.node 18 [23] (.node 16 [4] (.node 15 [4] .leaf .leaf) (.node 17 [4] .leaf .leaf)) (.node 20 [23] (.node 19 [3, 22] .leaf .leaf) .leaf)) (.node 25 [3] (.node 23 [4] (.node 22 [22, 4, 26] .leaf .leaf) (.node 24 [4] .leaf .leaf)) (.node 27 [3] (.node 26 [4] .leaf .leaf) .leaf)))) (.node 43 [22, 26] (.node 36 [53] (.node 32 [3, 26] (.node 30 [4] (.node 29 [3] .leaf .leaf) (.node 31 [3] .leaf .leaf)) (.node 34 [9] (.node 33 [53, 26] .leaf .leaf) (.node 35 [22, 26] .leaf .leaf))) (.node 40 [4] (.node 38 [23] (.node 37 [23, 26] .leaf .leaf) (.node 39 [22, 26] .leaf .leaf)) (.node 42 [22, 26] (.node 41 [22] .leaf .leaf) .leaf))) (.node 50 [26] (.node 47 [66, 26] (.node 45 [66] (.node 44 [4] .leaf .leaf) (.node 46 [4] .leaf .leaf)) (.node 49 [4, 26] (.node 48 [4, 26] .leaf .leaf) .leaf)) (.node 54 [4, 3] (.node 52 [74, 4] (.node 51 [4] .leaf .leaf) (.node 53 [23] .leaf .leaf)) (.node 56 [82, 4] (.node 55 [22] .leaf .leaf) .leaf))))) (.node 86 [4] (.node 72 [23] (.node 65 [] (.node 61 [3] (.node 59 [4] (.node 58 [] .leaf .leaf) (.node 60 [92] .leaf .leaf)) (.node 63 [4] (.node 62 [94] .leaf .leaf) (.node 64 [82, 26] .leaf .leaf))) (.node 69 [66] (.node 67 [53] (.node 66 [3] .leaf .leaf) (.node 68 [22] .leaf .leaf)) (.node 71 [4] (.node 70 [4] .leaf .leaf) .leaf))) (.node 79 [3] (.node 76 [4] (.node 74 [25] (.node 73 [] .leaf .leaf) (.node 75 [] .leaf .leaf)) (.node 78 [] (.node 77 [3] .leaf .leaf) .leaf)) (.node 83 [3, 119] (.node 81 [] (.node 80 [] .leaf .leaf) (.node 82 [] .leaf .leaf)) (.node 85 [4] (.node 84 [] .leaf .leaf) .leaf)))) (.node 100 [9] (.node 93 [130] (.node 90 [3] (.node 88 [3, 4] (.node 87 [3] .leaf .leaf) (.node 89 [3] .leaf .leaf)) (.node 92 [45] (.node 91 [] .leaf .leaf) .leaf)) (.node 97 [3, 3] (.node 95 [3] (.node 94 [3] .leaf .leaf) (.node 96 [4] .leaf .leaf)) (.node 99 [] (.node 98 [9] .leaf .leaf) .leaf))) (.node 107 [] (.node 104 [9] (.node 102 [9] (.node 101 [] .leaf .leaf) (.node 103 [] .leaf .leaf)) (.node 106 [9] (.node 105 [] .leaf .leaf) .leaf)) (.node 111 [9] (.node 109 [] (.node 108 [9] .leaf .leaf) (.node 110 [3] .leaf .leaf)) (.node 113 [9] (.node 112 [] .leaf .leaf) .leaf))))))

noncomputable def aeIsoT : Tab Bool :=
  (.node 44 true (.node 23 true (.node 12 true (.node 7 true (.node 4 true (.node 3 true (.node 2 true .leaf .leaf) .leaf) (.node 6 true (.node 5 true .leaf .leaf) .leaf)) (.node 10 true (.node 9 true (.node 8 true .leaf .leaf) .leaf) (.node 11 true .leaf .leaf))) (.node 18 true (.node 15 true (.node 14 true (.node 13 true .leaf .leaf) .leaf) (.node 17 true (.node 16 true .leaf .leaf) .leaf)) (.node 21 true (.node 20 true (.node 19 true .leaf .leaf) .leaf) (.node 22 true .leaf .leaf)))) (.node 34 true (.node 29 true (.node 26 true (.node 25 true (.node 24 true .leaf .leaf) .leaf) (.node 28 true (.node 27 true .leaf .leaf) .leaf)) (.node 32 true (.node 31 true (.node 30 true .leaf .leaf) .leaf) (.node 33 true .leaf .leaf))) (.node 39 true (.node 37 true (.node 36 true (.node 35 true .leaf .leaf) .leaf) (.node 38 true .leaf .leaf)) (.node 42 true (.node 41 true (.node 40 true .leaf .leaf) .leaf) (.node 43 true .leaf .leaf))))) (.node 71 true (.node 55 true (.node 50 true (.node 47 true (.node 46 true (.node 45 true .leaf .leaf) .leaf) (.node 49 true (.node 48 true .leaf .leaf) .leaf)) (.node 53 true (.node 52 true (.node 51 true .leaf .leaf) .leaf) (.node 54 true .leaf .leaf))) (.node 66 true (.node 61 true (.node 57 true (.node 56 true .leaf .leaf) .leaf) (.node 64 true (.node 63 true .leaf .leaf) .leaf)) (.node 69 true (.node 68 true (.node 67 true .leaf .leaf) .leaf) (.node 70 true .leaf .leaf)))) (.node 88 true (.node 83 true (.node 79 true (.node 77 true (.node 72 true .leaf .leaf) .leaf) (.node 82 true (.node 81 true .leaf .leaf) .leaf)) (.node 86 true (.node 85 true (.node 84 true .leaf .leaf) .leaf) (.node 87 true .leaf .leaf))) (.node 93 true (.node 91 true (.node 90 true (.node 89 true .leaf .leaf) .leaf) (.node 92 true .leaf .leaf)) (.node 96 true (.node 95 true (.node 94 true .leaf .leaf) .leaf) (.node 97 true .leaf .leaf))))))

noncomputable def aeIso (f : FuncId) : Bool := (tget aeIsoT f).isSome

noncomputable def aePolT : Tab (Tab Pol) :=
  (.node 45 (.node 2 ⟨[0, 1, 5, 6, 7, 8], [], []⟩ (.node 0 ⟨[0, 1, 5, 6], [(5, 1)], []⟩ .leaf .leaf) .leaf) (.node 23 (.node 2 ⟨[0, 1, 5, 6, 7], [], []⟩ (.node 0 ⟨[0, 1, 5, 6], [], []⟩ .leaf .leaf) .leaf) (.node 11 (.node 2 ⟨[1, 5, 7, 8, 14, 15], [], []⟩ (.node 0 ⟨[1, 5, 6, 7], [], []⟩ .leaf .leaf) .leaf) (.node 7 (.node 2 ⟨[0, 1, 5, 7, 8, 10, 12], [], []⟩ (.node 0 ⟨[0, 1, 5, 6, 7], [], []⟩ .leaf .leaf) (.node 4 ⟨[0, 1, 5, 7, 8, 10, 12, 13, 14, 15], [], []⟩ .leaf .leaf)) (.node 4 (.node 3 ⟨[0, 2, 7, 8, 12], [], []⟩ (.node 0 ⟨[0, 2, 7, 8], [], []⟩ .leaf .leaf) (.node 5 ⟨[0, 2, 7, 8, 12, 13, 14, 15], [(13, 2)], []⟩ .leaf .leaf)) (.node 3 (.node 2 ⟨[0, 2, 8, 9, 10], [], []⟩ (.node 0 ⟨[0, 2, 7], [(7, 1)], []⟩ .leaf .leaf) (.node 5 ⟨[0, 2, 8, 10, 13, 15, 16, 17], [(15, 2)], []⟩ .leaf .leaf)) .leaf .leaf) (.node 5 (.node 2 ⟨[1, 13, 14, 15, 16, 17], [(16, 2)], []⟩ (.node 0 ⟨[1, 13, 14, 15], [(14, 1)], []⟩ .leaf .leaf) .leaf) .leaf .leaf)) (.node 9 (.node 0 ⟨[0, 3], [], []⟩ .leaf .leaf) (.node 8 (.node 2 ⟨[2, 7, 8, 21, 22], [], []⟩ (.node 0 ⟨[2, 7, 8, 9, 13, 14], [], []⟩ .leaf .leaf) .leaf) .leaf .leaf) (.node 10 (.node 4 ⟨[7, 8, 11, 15, 21, 22, 26], [], []⟩ (.node 2 ⟨[7, 8, 9, 11, 15, 21, 22, 23, 24, 25], [], []⟩ (.node 0 ⟨[7, 8, 9, 11, 15, 21, 22, 23], [], []⟩ .leaf .leaf) .leaf) (.node 6 ⟨[7, 27, 28, 29, 30], [], []⟩ .leaf .leaf)) .leaf .leaf))) (.node 18 (.node 2 ⟨[0, 1, 2, 7, 8, 9, 10, 11], [], []⟩ (.node 0 ⟨[0, 1, 2, 7, 8, 9], [(8, 1)], []⟩ .leaf .leaf) (.node 4 ⟨[0, 1, 2, 7, 8, 9, 10, 14], [], []⟩ .leaf .leaf)) (.node 16 (.node 0 ⟨[0, 1, 5, 6], [], []⟩ .leaf .leaf) (.node 13 (.node 0 ⟨[0, 1, 2, 7, 8], [(7, 1)], []⟩ .leaf .leaf) .leaf .leaf) (.node 17 (.node 0 ⟨[0, 1, 5], [], []⟩ .leaf .leaf) .leaf .leaf)) (.node 20 (.node 0 ⟨[0, 1, 5, 6], [(5, 1)], []⟩ .leaf .leaf) (.node 19 (.node 2 ⟨[0, 1, 6, 7, 8, 9, 10, 11], [], []⟩ (.node 0 ⟨[0, 1, 6, 7, 8, 9], [(7, 1)], []⟩ .leaf .leaf) .leaf) .leaf .leaf) (.node 22 (.node 2 ⟨[1, 2, 9, 11, 32, 33, 34, 38, 39], [], []⟩ (.node 0 ⟨[1, 2, 9, 32, 33, 34], [], []⟩ .leaf .leaf) .leaf) .leaf .leaf)))) (.node 36 (.node 2 ⟨[0, 1, 5, 6, 7, 8], [], []⟩ (.node 0 ⟨[0, 1, 5, 6], [(5, 1)], []⟩ .leaf .leaf) .leaf) (.node 30 (.node 2 ⟨[0, 1, 2, 7, 8], [], []⟩ (.node 0 ⟨[0, 1, 2, 7], [], []⟩ .leaf .leaf) .leaf) (.node 26 (.node 2 ⟨[0, 1, 5, 6], [], []⟩ (.node 0 ⟨[0, 1, 5], [], []⟩ .leaf .leaf) .leaf) (.node 24 (.node 2 ⟨[0, 1, 5, 6, 7], [], []⟩ (.node 0 ⟨[0, 1, 5, 6], [], []⟩ .leaf .leaf) .leaf) .leaf .leaf) (.node 29 (.node 6 ⟨[0, 1, 5, 6, 7, 9, 10, 11], [], []⟩ (.node 2 ⟨[0, 1, 5, 6, 7, 8], [], []⟩ (.node 0 ⟨[0, 1, 5, 6], [], []⟩ .leaf .leaf) (.node 4 ⟨[0, 1, 5, 6, 7, 9], [], []⟩ .leaf .leaf)) (.node 10 ⟨[0, 1, 5, 6, 7, 9, 10, 12, 13, 14], [], []⟩ (.node 8 ⟨[0, 1, 5, 6, 7, 9, 10, 12], [], []⟩ .leaf .leaf) (.node 12 ⟨[5, 15, 16], [], []⟩ .leaf .leaf))) .leaf .leaf)) (.node 34 (.node 0 ⟨[0, 3, 4], [], []⟩ .leaf .leaf) (.node 31 (.node 2 ⟨[0, 5, 6, 7, 8], [], []⟩ (.node 0 ⟨[0, 5, 6, 7], [], []⟩ .leaf .leaf) .leaf) .leaf .leaf) (.node 35 (.node 2 ⟨[0, 4, 5, 6, 8, 9, 16, 17], [(8, 2)], []⟩ (.node 0 ⟨[0, 4, 5, 16, 17], [(5, 1)], []⟩ .leaf .leaf) .leaf) .leaf .leaf))) (.node 40 (.node 0 ⟨[0, 1, 5, 6], [], []⟩ .leaf .leaf) (.node 38 (.node 0 ⟨[0, 1, 5, 6], [(5, 1)], []⟩ .leaf .leaf) (.node 37 (.node 0 ⟨[2, 10, 29, 30, 31], [(10, 1)], []⟩ .leaf .leaf) .leaf .leaf) (.node 39 (.node 2 ⟨[2, 13, 54, 55, 56], [(13, 1)], []⟩ (.node 0 ⟨[0, 1, 2, 10, 29, 30, 31], [], []⟩ .leaf .leaf) (.node 4 ⟨[2, 13, 16, 54, 55, 56, 60, 61, 62], [(16, 2)], []⟩ .leaf .leaf)) .leaf .leaf)) (.node 42 (.node 2 ⟨[0, 4, 5, 6, 7, 18, 19, 21, 22], [], []⟩ (.node 0 ⟨[0, 4, 5, 6, 18, 19], [(6, 10)], []⟩ .leaf .leaf) .leaf) (.node 41 (.node 2 ⟨[0, 1, 5, 6, 7, 8], [(7, 2)], []⟩ (.node 0 ⟨[0, 1, 5, 6], [(5, 1)], []⟩ .leaf .leaf) .leaf) .leaf .leaf) (.node 44 (.node 2 ⟨[0, 3, 4], [], []⟩ (.node 0 ⟨[0, 3], [], []⟩ .leaf .leaf) .leaf) .leaf .leaf))))) (.node 69 (.node 2 ⟨[0, 1, 5, 24, 25, 26], [], []⟩ (.node 0 ⟨[0, 1, 5, 14, 15], [], []⟩ .leaf .leaf) (.node 4 ⟨[0, 1, 5, 8, 9, 24, 25, 26, 39, 40], [], []⟩ .leaf .leaf)) (.node 58 (.node 0 ⟨[0, 2, 8, 9, 10], [], []⟩ .leaf .leaf) (.node 54 (.node 0 ⟨[0, 1, 6], [], []⟩ .leaf .leaf) (.node 52 (.node 0 ⟨[0, 4, 6, 7, 19, 20, 21], [], []⟩ .leaf .leaf) (.node 46 (.node 2 ⟨[0, 1, 5, 6], [], []⟩ (.node 0 ⟨[0, 1, 5], [], []⟩ .leaf .leaf) .leaf) .leaf .leaf) (.node 53 (.node 2 ⟨[4, 5, 7, 8, 10, 14, 15, 25, 26, 27], [], []⟩ (.node 0 ⟨[4, 5, 7, 8, 14, 15], [(7, 1)], []⟩ .leaf .leaf) .leaf) .leaf .leaf)) (.node 56 (.node 2 ⟨[0, 6, 7, 10, 18, 19, 20, 32, 33], [], []⟩ (.node 0 ⟨[0, 6, 7, 18, 19, 20], [(7, 10)], []⟩ .leaf .leaf) .leaf) (.node 55 (.node 2 ⟨[0, 3, 4, 5, 6], [(5, 2)], []⟩ (.node 0 ⟨[0, 3, 4], [(3, 1)], []⟩ .leaf .leaf) .leaf) .leaf .leaf) (.node 57 (.node 0 ⟨[3, 6, 7, 8], [(3, 1)], []⟩ .leaf .leaf) .leaf .leaf))) (.node 65 (.node 1 ⟨[0, 1, 2, 6, 10], [], []⟩ .leaf .leaf) (.node 61 (.node 0 ⟨[0, 1, 7, 8], [], []⟩ .leaf .leaf) (.node 59 (.node 2 ⟨[0, 4, 5, 6, 9, 10, 40, 41, 42], [(10, 2)], []⟩ .leaf .leaf) .leaf .leaf) (.node 63 (.node 2 ⟨[0, 1, 3, 6, 9, 10], [], []⟩ (.node 0 ⟨[0, 1, 3, 6, 9], [], []⟩ .leaf .leaf) .leaf) .leaf .leaf)) (.node 67 (.node 2 ⟨[5, 12, 13, 14, 18, 19, 20], [], []⟩ (.node 0 ⟨[5, 12, 13, 14], [], []⟩ .leaf .leaf) .leaf) (.node 66 (.node 2 ⟨[3, 5, 6, 7, 8, 9], [(3, 1)], []⟩ (.node 0 ⟨[3, 7, 8, 9], [(3, 1)], []⟩ .leaf .leaf) .leaf) .leaf .leaf) (.node 68 (.node 2 ⟨[0, 5, 7, 8, 10, 11, 12, 16, 17], [(8, 2)], []⟩ (.node 0 ⟨[0, 5, 10, 11, 12], [(5, 1)], []⟩ .leaf .leaf) .leaf) .leaf .leaf)))) (.node 81 (.node 2 ⟨[0, 6, 7, 10], [], []⟩ (.node 0 ⟨[0, 6, 7, 8, 9], [], []⟩ .leaf .leaf) .leaf) (.node 76 (.node 0 ⟨[0, 2, 3, 4, 5, 7, 8], [], []⟩ .leaf .leaf) (.node 71 (.node 2 ⟨[0, 1, 5, 8, 9, 12, 13], [], []⟩ (.node 0 ⟨[0, 1, 8, 9], [], []⟩ .leaf .leaf) .leaf) (.node 70 (.node 2 ⟨[5, 11, 12, 13, 18, 19, 20], [], []⟩ (.node 0 ⟨[11, 12, 13], [], []⟩ .leaf .leaf) .leaf) .leaf .leaf) (.node 72 (.node 0 ⟨[2, 3, 4, 7, 8], [(7, 1)], []⟩ .leaf .leaf) .leaf .leaf)) (.node 78 (.node 0 ⟨[0, 1, 2, 3, 8, 9], [], []⟩ .leaf .leaf) (.node 77 (.node 0 ⟨[3, 6, 7, 8], [], []⟩ .leaf .leaf) .leaf .leaf) (.node 80 (.node 2 ⟨[0, 1, 2, 6, 7], [], []⟩ (.node 0 ⟨[0, 1, 2, 6], [], []⟩ .leaf .leaf) .leaf) .leaf .leaf))) (.node 87 (.node 2 ⟨[0, 1, 9, 10], [], []⟩ (.node 0 ⟨[0, 1, 9, 10], [], []⟩ .leaf .leaf) (.node 4 ⟨[0, 1, 9, 10], [], []⟩ .leaf .leaf)) (.node 84 (.node 0 ⟨[0, 6, 7], [], []⟩ .leaf .leaf) (.node 82 (.node 0 ⟨[0, 1, 6, 7, 8, 9], [], []⟩ .leaf .leaf) .leaf .leaf) (.node 85 (.node 4 ⟨[0, 1, 2, 7, 8, 9], [], []⟩ (.node 2 ⟨[0, 1, 2, 7, 8], [], []⟩ (.node 0 ⟨[0, 1, 2, 7, 8], [], []⟩ .leaf .leaf) .leaf) (.node 6 ⟨[0, 1, 2, 7, 8, 10], [], []⟩ .leaf .leaf)) .leaf .leaf)) (.node 91 (.node 0 ⟨[0, 2, 3, 8], [], []⟩ .leaf .leaf) (.node 88 (.node 4 ⟨[0, 1, 10, 11], [], []⟩ (.node 2 ⟨[0, 1, 10, 11], [], []⟩ (.node 0 ⟨[0, 1, 10, 11], [], []⟩ .leaf .leaf) .leaf) (.node 8 ⟨[0, 1, 10, 11], [], []⟩ (.node 6 ⟨[0, 1, 10, 11], [], []⟩ .leaf .leaf) .leaf)) .leaf .leaf) .leaf)))))

noncomputable def aePol (f b : Nat) : Option Pol := match tget aePolT f with
  | some t => tget t b
  | none => none

noncomputable def aeXPolT : Tab (Tab Pol) :=
  (.node 44 (.node 2 ⟨[0, 3], [], []⟩ (.node 0 ⟨[], [], []⟩ .leaf .leaf) .leaf) (.node 23 (.node 2 ⟨[0, 1, 5, 6], [], []⟩ (.node 0 ⟨[0, 1], [], []⟩ .leaf .leaf) .leaf) (.node 11 (.node 2 ⟨[1, 7], [], []⟩ (.node 0 ⟨[], [], []⟩ .leaf .leaf) .leaf) (.node 7 (.node 2 ⟨[0, 1, 5, 7], [], []⟩ (.node 0 ⟨[], [], []⟩ .leaf .leaf) (.node 4 ⟨[0, 1, 5, 7, 8, 10, 12, 13, 14], [], []⟩ .leaf .leaf)) (.node 4 (.node 3 ⟨[0, 2, 7, 8], [], []⟩ (.node 0 ⟨[], [], []⟩ .leaf .leaf) (.node 5 ⟨[0, 2, 7, 8, 12, 13], [], []⟩ .leaf .leaf)) (.node 3 (.node 2 ⟨[], [], []⟩ (.node 0 ⟨[0, 2, 7], [], []⟩ .leaf .leaf) (.node 5 ⟨[0, 2, 8, 10, 15], [], []⟩ .leaf .leaf)) .leaf .leaf) (.node 5 (.node 2 ⟨[1, 13, 14, 15, 16], [], []⟩ (.node 0 ⟨[1, 14], [], []⟩ .leaf .leaf) .leaf) .leaf .leaf)) (.node 9 (.node 0 ⟨[], [], []⟩ .leaf .leaf) (.node 8 (.node 2 ⟨[], [], []⟩ (.node 0 ⟨[2, 7, 8], [], []⟩ .leaf .leaf) .leaf) .leaf .leaf) (.node 10 (.node 4 ⟨[7, 8, 11, 15, 21], [], []⟩ (.node 2 ⟨[7, 8, 9, 11, 15, 21, 22, 23, 24], [], []⟩ (.node 0 ⟨[7, 8, 11, 15, 21, 22], [], []⟩ .leaf .leaf) .leaf) (.node 6 ⟨[7, 28, 29], [], []⟩ .leaf .leaf)) .leaf .leaf))) (.node 18 (.node 2 ⟨[0, 1, 2, 7, 8, 9, 10], [], []⟩ (.node 1 ⟨[0, 1, 2, 7, 8, 9], [], []⟩ (.node 0 ⟨[8], [], []⟩ .leaf .leaf) .leaf) (.node 4 ⟨[0, 1, 2, 7, 8, 9, 10, 14], [], []⟩ .leaf .leaf)) (.node 16 (.node 0 ⟨[0, 1], [], []⟩ .leaf .leaf) (.node 13 (.node 0 ⟨[7], [], []⟩ .leaf .leaf) .leaf .leaf) (.node 17 (.node 0 ⟨[], [], []⟩ .leaf .leaf) .leaf .leaf)) (.node 20 (.node 0 ⟨[5], [], []⟩ .leaf .leaf) (.node 19 (.node 2 ⟨[0, 1, 6, 7, 8, 9, 10], [], []⟩ (.node 0 ⟨[0, 7], [], []⟩ .leaf .leaf) .leaf) .leaf .leaf) (.node 22 (.node 2 ⟨[1, 2, 9, 32, 33, 34], [], []⟩ (.node 0 ⟨[1, 2, 9], [], []⟩ .leaf .leaf) .leaf) .leaf .leaf)))) (.node 36 (.node 2 ⟨[0, 1, 5, 6, 7], [], []⟩ (.node 0 ⟨[5], [], []⟩ .leaf .leaf) .leaf) (.node 30 (.node 2 ⟨[0, 1, 2, 7], [], []⟩ (.node 0 ⟨[], [], []⟩ .leaf .leaf) .leaf) (.node 26 (.node 2 ⟨[0, 1, 5], [], []⟩ (.node 0 ⟨[], [], []⟩ .leaf .leaf) .leaf) (.node 24 (.node 2 ⟨[0, 1, 5, 6], [], []⟩ (.node 0 ⟨[0, 1, 5], [], []⟩ .leaf .leaf) .leaf) .leaf .leaf) (.node 29 (.node 6 ⟨[0, 1, 5, 6, 7, 9, 10], [], []⟩ (.node 2 ⟨[0, 1, 5, 6, 7], [], []⟩ (.node 0 ⟨[5], [], []⟩ .leaf .leaf) (.node 4 ⟨[0, 1, 6, 7], [], []⟩ .leaf .leaf)) (.node 10 ⟨[0, 1, 5, 6, 7, 9, 10, 12, 13], [], []⟩ (.node 8 ⟨[0, 1, 5, 6, 7, 9], [], []⟩ .leaf .leaf) (.node 12 ⟨[15], [], []⟩ .leaf .leaf))) .leaf .leaf)) (.node 34 (.node 0 ⟨[3], [], []⟩ .leaf .leaf) (.node 31 (.node 2 ⟨[0, 5, 6, 7], [], []⟩ (.node 0 ⟨[6], [], []⟩ .leaf .leaf) .leaf) .leaf .leaf) (.node 35 (.node 2 ⟨[0, 4, 5, 8, 16, 17], [], []⟩ (.node 0 ⟨[5], [], []⟩ .leaf .leaf) .leaf) .leaf .leaf))) (.node 40 (.node 0 ⟨[0, 1], [], []⟩ .leaf .leaf) (.node 38 (.node 0 ⟨[5], [], []⟩ .leaf .leaf) (.node 37 (.node 0 ⟨[10], [], []⟩ .leaf .leaf) .leaf .leaf) (.node 39 (.node 2 ⟨[13], [], []⟩ (.node 0 ⟨[0, 1, 2], [], []⟩ .leaf .leaf) (.node 4 ⟨[2, 13, 16, 54, 55, 56], [], []⟩ .leaf .leaf)) .leaf .leaf)) (.node 42 (.node 2 ⟨[0, 4, 5, 6, 7, 18, 19], [], []⟩ (.node 0 ⟨[0, 6], [], []⟩ .leaf .leaf) .leaf) (.node 41 (.node 2 ⟨[0, 1, 5, 6, 7], [], []⟩ (.node 0 ⟨[5], [], []⟩ .leaf .leaf) .leaf) .leaf .leaf) .leaf)))) (.node 68 (.node 2 ⟨[0, 5, 8, 10, 11, 12], [], []⟩ (.node 0 ⟨[5], [], []⟩ .leaf .leaf) .leaf) (.node 57 (.node 0 ⟨[3], [], []⟩ .leaf .leaf) (.node 53 (.node 1 ⟨[4, 5, 7, 8, 14, 15], [], []⟩ (.node 0 ⟨[7], [], []⟩ .leaf .leaf) (.node 2 ⟨[4, 5, 7, 8, 10, 14, 15], [], []⟩ .leaf .leaf)) (.node 46 (.node 2 ⟨[0, 1, 5], [], []⟩ (.node 0 ⟨[], [], []⟩ .leaf .leaf) .leaf) (.node 45 (.node 2 ⟨[0, 1, 5, 6, 7], [], []⟩ (.node 0 ⟨[5], [], []⟩ .leaf .leaf) .leaf) .leaf .leaf) (.node 52 (.node 0 ⟨[4, 6], [], []⟩ .leaf .leaf) .leaf .leaf)) (.node 55 (.node 2 ⟨[0, 3, 4, 5], [], []⟩ (.node 0 ⟨[3], [], []⟩ .leaf .leaf) .leaf) (.node 54 (.node 0 ⟨[], [], []⟩ .leaf .leaf) .leaf .leaf) (.node 56 (.node 2 ⟨[0, 6, 7, 10, 18, 19, 20], [], []⟩ (.node 0 ⟨[7], [], []⟩ .leaf .leaf) .leaf) .leaf .leaf))) (.node 63 (.node 2 ⟨[], [], []⟩ (.node 0 ⟨[0, 1, 3, 6, 9], [], []⟩ .leaf .leaf) (.node 3 ⟨[0, 1, 3, 6, 9, 10], [], []⟩ .leaf .leaf)) (.node 59 (.node 2 ⟨[0, 4, 5, 6, 9, 10], [], []⟩ (.node 0 ⟨[2, 3, 6], [], []⟩ .leaf .leaf) .leaf) (.node 58 (.node 0 ⟨[], [], []⟩ .leaf .leaf) .leaf .leaf) (.node 61 (.node 0 ⟨[], [], []⟩ .leaf .leaf) .leaf .leaf)) (.node 66 (.node 2 ⟨[3, 7, 8, 9], [], []⟩ (.node 0 ⟨[3], [], []⟩ .leaf .leaf) .leaf) (.node 65 (.node 1 ⟨[], [], []⟩ .leaf .leaf) .leaf .leaf) (.node 67 (.node 2 ⟨[5, 12, 13, 14], [], []⟩ (.node 0 ⟨[5], [], []⟩ .leaf .leaf) .leaf) .leaf .leaf)))) (.node 81 (.node 2 ⟨[], [], []⟩ (.node 0 ⟨[0, 6, 7, 8], [], []⟩ .leaf .leaf) .leaf) (.node 76 (.node 1 ⟨[0, 2, 3, 4, 5, 7, 8], [], []⟩ (.node 0 ⟨[0, 7], [], []⟩ .leaf .leaf) .leaf) (.node 70 (.node 2 ⟨[11, 12, 13], [], []⟩ (.node 0 ⟨[], [], []⟩ .leaf .leaf) .leaf) (.node 69 (.node 2 ⟨[5], [], []⟩ (.node 0 ⟨[0, 1, 5], [], []⟩ .leaf .leaf) (.node 4 ⟨[0, 1, 5, 24, 25, 26], [], []⟩ .leaf .leaf)) .leaf .leaf) (.node 71 (.node 2 ⟨[0, 1, 8, 9], [], []⟩ (.node 0 ⟨[], [], []⟩ .leaf .leaf) .leaf) .leaf .leaf)) (.node 78 (.node 1 ⟨[0, 1, 2, 3, 8, 9], [], []⟩ .leaf .leaf) (.node 77 (.node 0 ⟨[3], [], []⟩ .leaf .leaf) .leaf .leaf) (.node 80 (.node 2 ⟨[0, 1, 2, 6], [], []⟩ (.node 0 ⟨[], [], []⟩ .leaf .leaf) .leaf) .leaf .leaf))) (.node 87 (.node 2 ⟨[0, 1, 9, 10], [], []⟩ (.node 0 ⟨[9], [], []⟩ .leaf .leaf) (.node 4 ⟨[0, 1, 9, 10], [], []⟩ .leaf .leaf)) (.node 84 (.node 0 ⟨[], [], []⟩ .leaf .leaf) (.node 82 (.node 0 ⟨[], [], []⟩ .leaf .leaf) .leaf .leaf) (.node 85 (.node 4 ⟨[0, 1, 2, 7, 8], [], []⟩ (.node 2 ⟨[0, 1, 2, 7, 8], [], []⟩ (.node 0 ⟨[], [], []⟩ .leaf .leaf) .leaf) (.node 6 ⟨[0, 1, 2, 7, 8], [], []⟩ .leaf .leaf)) .leaf .leaf)) (.node 91 (.node 0 ⟨[], [], []⟩ .leaf .leaf) (.node 88 (.node 4 ⟨[0, 1, 11], [], []⟩ (.node 2 ⟨[0, 1, 10, 11], [], []⟩ (.node 0 ⟨[0, 1, 10, 11], [], []⟩ .leaf .leaf) .leaf) (.node 8 ⟨[0, 1, 10, 11], [], []⟩ (.node 6 ⟨[0, 1, 10, 11], [], []⟩ .leaf .leaf) .leaf)) .leaf .leaf) .leaf)))))

noncomputable def aeXPol (f b : Nat) : Option Pol := match tget aeXPolT f with
  | some t => tget t b
  | none => none

noncomputable def aePlanT : Tab (Tab Plan) :=
  (.node 46 (.node 7 ⟨[⟨0, false, [], false, none⟩, ⟨1, false, [], false, none⟩, ⟨2, false, [], false, none⟩, ⟨3, false, [], false, none⟩, ⟨4, false, [], false, none⟩, ⟨5, false, [], false, none⟩, ⟨6, false, [], false, none⟩, ⟨7, false, [], false, none⟩, ⟨8, false, [], false, none⟩, ⟨9, false, [], false, none⟩, ⟨10, false, [], false, none⟩, ⟨11, false, [], false, none⟩], [[], [], [], [1, 2], [1, 2, 3], [], [], [5, 6], [5, 6, 7], [0, 1, 2, 3, 4, 5, 6, 7, 8], [0, 1, 2, 3, 4, 5, 6, 7, 8, 9], [0, 1, 2, 3, 4, 5, 6, 7, 8, 9, 10]]⟩ .leaf .leaf) (.node 21 (.node 5 ⟨[⟨0, false, [], false, none⟩, ⟨1, false, [], false, none⟩, ⟨2, false, [], false, none⟩, ⟨3, false, [], false, none⟩, ⟨4, false, [], false, none⟩, ⟨5, false, [], false, none⟩, ⟨6, false, [], false, none⟩, ⟨7, false, [], false, none⟩, ⟨8, false, [], false, none⟩, ⟨9, false, [], false, none⟩, ⟨10, false, [], false, none⟩, ⟨11, false, [], false, none⟩], [[], [0], [0, 1], [], [3], [3, 4], [0, 1, 2, 3, 4, 5], [0, 1, 2, 3, 4, 5, 6], [0, 1, 2, 3, 4, 5, 6, 7], [0, 1, 2, 3, 4, 5, 6, 7], [0, 1, 2, 3, 4, 5, 6, 7, 8], [0, 1, 2, 3, 4, 5, 6, 7, 8, 9, 10]]⟩ .leaf .leaf) (.node 10 (.node 35 ⟨[⟨0, false, [], false, none⟩, ⟨1, false, [], false, none⟩, ⟨2, false, [], false, none⟩, ⟨3, false, [], false, none⟩, ⟨4, false, [], false, none⟩, ⟨5, false, [], false, none⟩, ⟨6, false, [], false, none⟩, ⟨7, false, [], false, none⟩, ⟨8, false, [], false, none⟩, ⟨9, false, [], false, none⟩, ⟨10, false, [], false, none⟩, ⟨11, false, [], false, none⟩, ⟨12, false, [], false, none⟩, ⟨13, false, [], false, none⟩, ⟨14, false, [], false, none⟩, ⟨15, false, [], false, none⟩], [[], [], [1], [1, 2], [], [], [5], [5, 6], [4, 5, 6, 7], [4, 5, 6, 7, 8], [0, 1, 2, 3, 4, 5, 6, 7, 8, 9], [0, 1, 2, 3, 4, 5, 6, 7, 8, 9, 10], [0, 1, 2, 3, 4, 5, 6, 7, 8, 9, 10, 11], [0, 1, 2, 3, 4, 5, 6, 7, 8, 9, 10, 11], [0, 1, 2, 3, 4, 5, 6, 7, 8, 9, 10, 11, 12], [0, 1, 2, 3, 4, 5, 6, 7, 8, 9, 10, 11, 12, 13, 14]]⟩ (.node 25 ⟨[⟨0, false, [], false, none⟩, ⟨1, false, [], false, none⟩, ⟨2, false, [], false, none⟩, ⟨3, false, [], false, none⟩, ⟨4, false, [], false, none⟩, ⟨5, false, [], false, none⟩, ⟨6, false, [], false, none⟩, ⟨7, false, [], false, none⟩, ⟨8, false, [], false, none⟩, ⟨9, false, [], false, none⟩, ⟨10, false, [], false, none⟩, ⟨11, false, [], false, none⟩, ⟨12, false, [], false, none⟩, ⟨13, false, [], false, none⟩, ⟨14, false, [], false, none⟩, ⟨15, false, [], false, none⟩, ⟨16, false, [], false, none⟩, ⟨17, false, [], false, none⟩], [[], [], [], [1, 2], [1, 2, 3], [], [1, 2, 3, 4, 5], [1, 2, 3, 4, 5, 6], [], [], [8, 9], [8, 9, 10], [], [8, 9, 10, 11, 12], [8, 9, 10, 11, 12, 13], [1, 2, 3, 4, 5, 6, 7, 8, 9, 10, 11, 12, 13, 14], [0, 1, 2, 3, 4, 5, 6, 7, 8, 9, 10, 11, 12, 13, 14, 15], [0, 1, 2, 3, 4, 5, 6, 7, 8, 9, 10, 11, 12, 13, 14, 15, 16]]⟩ (.node 24 ⟨[⟨0, false, [], false, none⟩, ⟨1, false, [], false, none⟩, ⟨2, false, [], false, none⟩, ⟨3, false, [], false, none⟩, ⟨4, false, [], false, none⟩, ⟨5, false, [], false, none⟩, ⟨6, false, [], false, none⟩, ⟨7, false, [], false, none⟩, ⟨8, false, [], false, none⟩, ⟨9, false, [], false, none⟩, ⟨10, false, [], false, none⟩, ⟨11, false, [], false, none⟩, ⟨12, false, [], false, none⟩, ⟨13, false, [], false, none⟩, ⟨14, false, [], false, none⟩, ⟨15, true, [], false, none⟩], [[], [], [], [], [2, 3], [2, 3, 4], [], [], [6, 7], [6, 7, 8], [], [6, 7, 8, 9, 10], [6, 7, 8, 9, 10, 11], [2, 3, 4, 5, 6, 7, 8, 9, 10, 11, 12], [0, 1, 2, 3, 4, 5, 6, 7, 8, 9, 10, 11, 12, 13], [0, 1, 2, 3, 4, 5, 6, 7, 8, 9, 10, 11, 12, 13, 14]]⟩ .leaf .leaf) .leaf) (.node 41 ⟨[⟨0, false, [], false, none⟩, ⟨1, false, [], false, none⟩, ⟨2, false, [], false, none⟩, ⟨3, false, [], false, none⟩, ⟨4, false, [], false, none⟩, ⟨5, false, [], false, none⟩, ⟨6, false, [], false, none⟩, ⟨7, false, [], false, none⟩, ⟨8, false, [], false, none⟩, ⟨9, false, [], false, none⟩, ⟨10, false, [], false, none⟩, ⟨11, false, [], false, none⟩, ⟨12, false, [], false, none⟩, ⟨13, false, [], false, none⟩, ⟨14, false, [], false, none⟩, ⟨15, false, [], false, none⟩, ⟨16, false, [], false, none⟩, ⟨17, false, [], false, none⟩, ⟨18, false, [], false, none⟩, ⟨19, false, [], false, none⟩, ⟨20, false, [], false, none⟩, ⟨21, false, [], false, none⟩, ⟨22, false, [], false, none⟩, ⟨23, false, [], false, none⟩, ⟨24, false, [], false, none⟩, ⟨25, false, [], false, none⟩, ⟨26, false, [], false, none⟩, ⟨27, false, [], false, none⟩, ⟨28, false, [], false, none⟩], [[], [], [0, 1], [0, 1, 2], [0, 1, 2, 3], [0, 1, 2, 3, 4], [0, 1, 2, 3, 4, 5], [0, 1, 2, 3, 4, 5, 6], [0, 1, 2, 3, 4, 5, 6], [0, 1, 2, 3, 4, 5, 6, 7, 8], [0, 1, 2, 3, 4, 5, 6, 7, 8, 9], [0, 1, 2, 3, 4, 5, 6, 7, 8, 9, 10], [0, 1, 2, 3, 4, 5, 6, 7, 8, 9, 10, 11], [0, 1, 2, 3, 4, 5, 6, 7, 8, 9, 10, 11, 12], [0, 1, 2, 3, 4, 5, 6, 7, 8, 9, 10, 11, 12, 13], [0, 1, 2, 3, 4, 5, 6, 7, 8, 9, 10, 11, 12, 13, 14], [0, 1, 2, 3, 4, 5, 6, 7, 8, 9, 10, 11, 12, 13, 14, 15], [0, 1, 2, 3, 4, 5, 6, 7, 8, 9, 10, 11, 12, 13, 14, 15, 16], [0, 1, 2, 3, 4, 5, 6, 7, 8, 9, 10, 11, 12, 13, 14, 15, 16], [0, 1, 2, 3, 4, 5, 6, 7, 8, 9, 10, 11, 12, 13, 14, 15, 16, 18], [0, 1, 2, 3, 4, 5, 6, 7, 8, 9, 10, 11, 12, 13, 14, 15, 16, 17, 18, 19], [0, 1, 2, 3, 4, 5, 6, 7, 8, 9, 10, 11, 12, 13, 14, 15, 16, 17, 18, 19, 20], [0, 1, 2, 3, 4, 5, 6, 7, 8, 9, 10, 11, 12, 13, 14, 15, 16], [0, 1, 2, 3, 4, 5, 6, 7, 8, 9, 10, 11, 12, 13, 14, 15, 16], [0, 1, 2, 3, 4, 5, 6, 7, 8, 9, 10, 11, 12, 13, 14, 15, 16, 22, 23], [0, 1, 2, 3, 4, 5, 6, 7, 8, 9, 10, 11, 12, 13, 14, 15, 16, 22, 23, 24], [0, 1, 2, 3, 4, 5, 6, 7, 8, 9, 10, 11, 12, 13, 14, 15, 16, 17, 18, 19, 20, 21, 22, 23, 24, 25], [0, 1, 2, 3, 4, 5, 6, 7, 8, 9, 10, 11, 12, 13, 14, 15, 16, 17, 18, 19, 20, 21, 22, 23, 24, 25, 26], [0, 1, 2, 3, 4, 5, 6, 7, 8, 9, 10, 11, 12, 13, 14, 15, 16, 17, 18, 19, 20, 21, 22, 23, 24, 25, 26, 27]]⟩ .leaf .leaf)) (.node 5 (.node 18 ⟨[⟨1, false, [], false, none⟩, ⟨2, false, [], false, none⟩, ⟨3, false, [], false, none⟩, ⟨4, false, [], false, none⟩, ⟨5, false, [], false, none⟩, ⟨6, false, [], false, none⟩, ⟨7, false, [], false, none⟩, ⟨8, false, [], false, none⟩, ⟨9, false, [], false, none⟩, ⟨10, false, [], false, none⟩, ⟨11, false, [], false, none⟩, ⟨12, false, [], false, none⟩, ⟨13, false, [], false, none⟩, ⟨14, true, [], false, none⟩, ⟨0, false, [14], false, none⟩, ⟨15, true, [], false, none⟩, ⟨16, false, [], false, none⟩], [[], [], [], [1, 2], [1, 2, 3], [], [], [], [6, 7], [6, 7, 8], [6, 7, 8, 9], [5, 6, 7, 8, 9, 10], [5, 6, 7, 8, 9, 10, 11], [1, 2, 3, 4, 5, 6, 7, 8, 9, 10, 11, 12], [1, 2, 3, 4, 5, 6, 7, 8, 9, 10, 11, 12, 13], [0, 1, 2, 3, 4, 5, 6, 7, 8, 9, 10, 11, 12, 13, 14], [0, 1, 2, 3, 4, 5, 6, 7, 8, 9, 10, 11, 12, 13, 14, 15]]⟩ (.node 7 ⟨[⟨0, false, [], false, none⟩, ⟨1, false, [], false, none⟩, ⟨2, false, [], false, none⟩, ⟨3, false, [], false, none⟩, ⟨4, false, [], false, none⟩, ⟨5, false, [], false, none⟩, ⟨6, false, [], false, none⟩, ⟨7, false, [], false, none⟩, ⟨8, false, [], false, none⟩, ⟨9, false, [], false, none⟩, ⟨10, false, [], false, none⟩, ⟨11, false, [], false, none⟩, ⟨12, false, [], false, none⟩, ⟨13, false, [], false, none⟩, ⟨14, false, [], false, none⟩, ⟨15, false, [], false, none⟩, ⟨16, false, [], false, none⟩, ⟨17, false, [], false, none⟩, ⟨18, false, [], false, none⟩, ⟨19, false, [], false, none⟩, ⟨20, false, [], false, none⟩, ⟨21, false, [], false, none⟩], [[], [0], [0, 1], [0, 1, 2], [0, 1, 2, 3], [0, 1, 2, 3, 4], [0, 1, 2, 3, 4, 5], [0, 1, 2, 3, 4, 5, 6], [0, 1, 2, 3, 4, 5, 6], [0, 1, 2, 3, 4, 5, 6, 7, 8], [0, 1, 2, 3, 4, 5, 6, 7, 8, 9], [0, 1, 2, 3, 4, 5, 6, 7, 8, 9, 10], [0, 1, 2, 3, 4, 5, 6, 7, 8, 9, 10, 11], [0, 1, 2, 3, 4, 5, 6, 7, 8, 9, 10, 11, 12], [0, 1, 2, 3, 4, 5, 6, 7, 8, 9, 10, 11, 12], [0, 1, 2, 3, 4, 5, 6, 7, 8, 9, 10, 11, 12, 13, 14], [0, 1, 2, 3, 4, 5, 6, 7, 8, 9, 10, 11, 12], [0, 1, 2, 3, 4, 5, 6, 7, 8, 9, 10, 11, 12], [0, 1, 2, 3, 4, 5, 6, 7, 8, 9, 10, 11, 12, 16, 17], [0, 1, 2, 3, 4, 5, 6, 7, 8, 9, 10, 11, 12, 13, 14, 15, 16, 17, 18], [0, 1, 2, 3, 4, 5, 6, 7, 8, 9, 10, 11, 12, 13, 14, 15, 16, 17, 18, 19], [0, 1, 2, 3, 4, 5, 6, 7, 8, 9, 10, 11, 12, 13, 14, 15, 16, 17, 18, 19, 20]]⟩ .leaf .leaf) (.node 22 ⟨[⟨0, false, [], false, none⟩, ⟨1, false, [], false, none⟩, ⟨2, false, [], false, none⟩, ⟨3, false, [], false, none⟩, ⟨4, false, [], false, none⟩, ⟨5, false, [], false, none⟩, ⟨6, false, [], false, none⟩, ⟨7, false, [], false, none⟩, ⟨8, false, [], false, none⟩, ⟨9, false, [], false, none⟩, ⟨10, false, [], false, none⟩, ⟨11, false, [], false, none⟩, ⟨12, false, [], false, none⟩, ⟨13, false, [], false, none⟩, ⟨14, true, [], false, none⟩, ⟨15, true, [], false, none⟩, ⟨16, false, [], false, none⟩, ⟨17, false, [], false, none⟩, ⟨18, false, [], false, none⟩, ⟨19, false, [], false, none⟩, ⟨20, false, [], false, none⟩, ⟨21, false, [], false, none⟩, ⟨22, false, [], false, none⟩, ⟨23, false, [], false, none⟩], [[], [0], [0, 1], [], [3], [3, 4], [0, 1, 2, 3, 4, 5], [], [7], [7, 8], [], [10], [10, 11], [7, 8, 9, 10, 11, 12], [0, 1, 2, 3, 4, 5, 6, 7, 8, 9, 10, 11, 12, 13], [0, 1, 2, 3, 4, 5, 6, 7, 8, 9, 10, 11, 12, 13, 14], [0, 1, 2, 3, 4, 5, 6, 7, 8, 9, 10, 11, 12, 13, 14, 15], [0, 1, 2, 3, 4, 5, 6, 7, 8, 9, 10, 11, 12, 13, 14, 15, 16], [0, 1, 2, 3, 4, 5, 6, 7, 8, 9, 10, 11, 12, 13, 14, 15, 16, 17], [0, 1, 2, 3, 4, 5, 6, 7, 8, 9, 10, 11, 12, 13, 14, 15, 16, 17], [0, 1, 2, 3, 4, 5, 6, 7, 8, 9, 10, 11, 12, 13, 14, 15, 16, 17], [0, 1, 2, 3, 4, 5, 6, 7, 8, 9, 10, 11, 12, 13, 14, 15, 16, 17, 18], [0, 1, 2, 3, 4, 5, 6, 7, 8, 9, 10, 11, 12, 13, 14, 15, 16, 17, 18, 19, 21], [0, 1, 2, 3, 4, 5, 6, 7, 8, 9, 10, 11, 12, 13, 14, 15, 16, 17, 18, 19, 20, 21, 22]]⟩ .leaf .leaf)) (.node 4 (.node 24 ⟨[⟨1, false, [], false, none⟩, ⟨2, false, [], false, none⟩, ⟨3, false, [], false, none⟩, ⟨4, false, [], false, none⟩, ⟨5, false, [], false, none⟩, ⟨6, false, [], false, none⟩, ⟨7, false, [], false, none⟩, ⟨8, false, [], false, none⟩, ⟨9, false, [], false, none⟩, ⟨10, false, [], false, none⟩, ⟨11, true, [], false, none⟩, ⟨0, false, [11], false, none⟩, ⟨12, true, [], false, none⟩, ⟨13, false, [], false, none⟩], [[], [], [], [1, 2], [1, 2, 3], [], [], [6], [5, 6, 7], [5, 6, 7, 8], [1, 2, 3, 4, 5, 6, 7, 8, 9], [1, 2, 3, 4, 5, 6, 7, 8, 9, 10], [0, 1, 2, 3, 4, 5, 6, 7, 8, 9, 10, 11], [0, 1, 2, 3, 4, 5, 6, 7, 8, 9, 10, 11, 12]]⟩ .leaf .leaf) (.node 3 (.node 18 ⟨[⟨0, false, [], false, none⟩, ⟨1, false, [], false, none⟩, ⟨2, false, [], false, none⟩, ⟨3, false, [], false, none⟩, ⟨4, false, [], false, none⟩, ⟨5, false, [], false, none⟩], [[], [], [1], [1, 2], [0], [0, 1, 2, 3, 4]]⟩ (.node 4 ⟨[⟨0, false, [], false, none⟩, ⟨1, false, [], false, none⟩, ⟨2, false, [], false, none⟩, ⟨3, false, [], false, none⟩, ⟨4, false, [], false, none⟩, ⟨5, false, [], false, none⟩, ⟨6, false, [], false, none⟩, ⟨7, false, [], false, none⟩], [[], [0], [0, 1], [], [3], [3, 4], [0, 1, 2], [0, 1, 2, 3, 4, 5, 6]]⟩ .leaf .leaf) (.node 24 ⟨[⟨1, false, [], false, none⟩, ⟨2, false, [], false, none⟩, ⟨3, false, [], false, none⟩, ⟨4, false, [], false, none⟩, ⟨5, false, [], false, none⟩, ⟨6, false, [], false, none⟩, ⟨7, false, [], false, none⟩, ⟨8, false, [], false, none⟩, ⟨9, false, [], false, none⟩, ⟨10, false, [], false, none⟩, ⟨11, true, [], false, none⟩, ⟨0, false, [11], false, none⟩, ⟨12, true, [], false, none⟩, ⟨13, false, [], false, none⟩], [[], [], [], [1, 2], [1, 2, 3], [], [], [6], [5, 6, 7], [5, 6, 7, 8], [1, 2, 3, 4, 5, 6, 7, 8, 9], [1, 2, 3, 4, 5, 6, 7, 8, 9, 10], [0, 1, 2, 3, 4, 5, 6, 7, 8, 9, 10, 11], [0, 1, 2, 3, 4, 5, 6, 7, 8, 9, 10, 11, 12]]⟩ .leaf .leaf)) .leaf .leaf) .leaf) (.node 8 (.node 11 ⟨[⟨0, false, [], false, none⟩, ⟨1, false, [], false, none⟩, ⟨2, false, [], false, none⟩, ⟨3, false, [], false, none⟩, ⟨4, false, [], false, none⟩, ⟨5, false, [], false, none⟩, ⟨6, false, [], false, none⟩, ⟨7, false, [], false, none⟩, ⟨8, false, [], false, none⟩, ⟨9, false, [], false, none⟩, ⟨10, false, [], false, none⟩, ⟨11, false, [], false, none⟩, ⟨12, false, [], false, none⟩, ⟨13, false, [], false, none⟩, ⟨14, false, [], false, none⟩, ⟨15, false, [], false, none⟩, ⟨16, false, [], false, none⟩, ⟨17, false, [], false, none⟩, ⟨18, false, [], false, none⟩, ⟨19, false, [], false, none⟩, ⟨20, false, [], false, none⟩], [[], [], [0, 1], [0, 1, 2], [], [], [4, 5], [4, 5, 6], [0, 1, 2, 3, 4, 5, 6, 7], [0, 1, 2, 3, 4, 5, 6, 7, 8], [0, 1, 2, 3, 4, 5, 6, 7, 8, 9], [0, 1, 2, 3, 4, 5, 6, 7, 8, 9, 10], [0, 1, 2, 3, 4, 5, 6, 7, 8, 9, 10, 11], [0, 1, 2, 3, 4, 5, 6, 7, 8, 9, 10, 11, 12], [0, 1, 2, 3, 4, 5, 6, 7, 8, 9, 10, 11, 12, 13], [0, 1, 2, 3, 4, 5, 6, 7, 8, 9, 10, 11, 12, 13], [0, 1, 2, 3, 4, 5, 6, 7, 8, 9, 10, 11, 12, 13], [0, 1, 2, 3, 4, 5, 6, 7, 8, 9, 10, 11, 12, 13, 15, 16], [0, 1, 2, 3, 4, 5, 6, 7, 8, 9, 10, 11, 12, 13, 14, 15, 16, 17], [0, 1, 2, 3, 4, 5, 6, 7, 8, 9, 10, 11, 12, 13, 14, 15, 16, 17, 18], [0, 1, 2, 3, 4, 5, 6, 7, 8, 9, 10, 11, 12, 13, 14, 15, 16, 17, 18, 19]]⟩ .leaf .leaf) (.node 7 (.node 18 ⟨[⟨0, false, [], false, none⟩, ⟨1, false, [], false, none⟩, ⟨2, false, [], false, none⟩, ⟨3, false, [], false, none⟩, ⟨4, false, [], false, none⟩, ⟨5, false, [], false, none⟩, ⟨6, false, [], false, none⟩, ⟨7, false, [], false, none⟩, ⟨8, false, [], false, none⟩, ⟨9, false, [], false, none⟩], [[], [], [0, 1], [0, 1, 2], [0, 1, 2, 3], [], [], [5, 6], [5, 6, 7], [0, 1, 2, 3, 4, 5, 6, 7, 8]]⟩ (.node 16 ⟨[⟨0, false, [], false, none⟩, ⟨1, false, [], false, none⟩, ⟨2, false, [], false, none⟩, ⟨3, false, [], false, none⟩, ⟨4, false, [], false, none⟩, ⟨5, false, [], false, none⟩, ⟨6, false, [], false, none⟩, ⟨7, false, [], false, none⟩, ⟨8, false, [], false, none⟩], [[], [], [0, 1], [0, 1, 2], [], [], [4, 5], [4, 5, 6], [0, 1, 2, 3, 4, 5, 6, 7]]⟩ .leaf .leaf) .leaf) .leaf .leaf) .leaf)) (.node 16 (.node 8 ⟨[⟨0, false, [], false, none⟩, ⟨1, false, [], false, none⟩, ⟨2, false, [], false, none⟩, ⟨3, false, [], false, none⟩, ⟨4, false, [], false, none⟩, ⟨5, false, [], false, none⟩, ⟨6, false, [], false, none⟩, ⟨7, false, [], false, none⟩], [[], [], [1], [0, 1, 2], [], [4], [0, 1, 2, 3, 4, 5], [0, 1, 2, 3, 4, 5, 6]]⟩ (.node 5 ⟨[⟨0, false, [], false, none⟩, ⟨1, false, [], false, none⟩, ⟨2, false, [], false, none⟩, ⟨3, false, [], false, none⟩, ⟨4, false, [], false, none⟩, ⟨5, false, [], false, none⟩, ⟨6, false, [], false, none⟩, ⟨7, false, [], false, none⟩, ⟨8, false, [], false, none⟩, ⟨9, false, [], false, none⟩, ⟨10, false, [], false, none⟩, ⟨11, false, [], false, none⟩], [[], [], [0, 1], [0, 1, 2], [0, 1, 2, 3], [], [], [5, 6], [5, 6, 7], [5, 6, 7, 8], [0, 1, 2, 3, 4], [0, 1, 2, 3, 4, 5, 6, 7, 8, 9, 10]]⟩ .leaf .leaf) .leaf) (.node 13 (.node 6 ⟨[⟨1, false, [], false, none⟩, ⟨2, false, [], false, none⟩, ⟨3, false, [], false, none⟩, ⟨4, false, [], false, none⟩, ⟨5, false, [], false, none⟩, ⟨6, false, [], false, none⟩, ⟨7, false, [], false, none⟩, ⟨8, false, [], false, none⟩, ⟨9, false, [], false, none⟩, ⟨10, false, [], false, none⟩, ⟨11, false, [], false, none⟩, ⟨12, false, [], false, none⟩, ⟨13, false, [], false, none⟩, ⟨14, true, [], false, none⟩, ⟨15, true, [], false, none⟩, ⟨0, false, [14, 15], false, none⟩, ⟨16, true, [], false, none⟩, ⟨17, false, [], false, none⟩], [[], [], [], [], [2, 3], [2, 3, 4], [], [], [6, 7], [6, 7, 8], [6, 7, 8, 9], [], [6, 7, 8, 9, 10, 11], [2, 3, 4, 5, 6, 7, 8, 9, 10, 11, 12], [1, 2, 3, 4, 5, 6, 7, 8, 9, 10, 11, 12, 13], [1, 2, 3, 4, 5, 6, 7, 8, 9, 10, 11, 12, 13, 14], [0, 1, 2, 3, 4, 5, 6, 7, 8, 9, 10, 11, 12, 13, 14, 15], [0, 1, 2, 3, 4, 5, 6, 7, 8, 9, 10, 11, 12, 13, 14, 15, 16]]⟩ .leaf .leaf) (.node 11 (.node 14 ⟨[⟨0, false, [], false, none⟩, ⟨1, false, [], false, none⟩, ⟨2, false, [], false, none⟩, ⟨3, false, [], false, none⟩, ⟨4, false, [], false, none⟩, ⟨5, false, [], false, none⟩, ⟨6, false, [], false, none⟩, ⟨7, false, [], false, none⟩, ⟨8, false, [], false, none⟩, ⟨9, false, [], false, none⟩], [[], [], [0, 1], [0, 1, 2], [], [], [4, 5], [4, 5, 6], [0, 1, 2, 3, 4, 5, 6, 7], [0, 1, 2, 3, 4, 5, 6, 7, 8]]⟩ .leaf .leaf) .leaf .leaf) .leaf) (.node 19 (.node 13 ⟨[⟨0, false, [], false, none⟩, ⟨1, false, [], false, none⟩, ⟨2, false, [], false, none⟩, ⟨3, false, [], false, none⟩, ⟨4, false, [], false, none⟩, ⟨5, false, [], false, none⟩, ⟨6, false, [], false, none⟩, ⟨7, false, [], false, none⟩, ⟨8, false, [], false, none⟩, ⟨9, false, [], false, none⟩, ⟨10, false, [], false, none⟩, ⟨11, false, [], false, none⟩, ⟨12, false, [], false, none⟩, ⟨13, false, [], false, none⟩, ⟨14, true, [], false, none⟩], [[], [], [], [], [2, 3], [2, 3, 4], [2, 3, 4, 5], [], [], [7, 8], [7, 8, 9], [7, 8, 9, 10], [2, 3, 4, 5, 6, 7, 8, 9, 10, 11], [0, 1, 2, 3, 4, 5, 6, 7, 8, 9, 10, 11, 12], [0, 1, 2, 3, 4, 5, 6, 7, 8, 9, 10, 11, 12, 13]]⟩ .leaf .leaf) (.node 17 (.node 6 ⟨[⟨0, false, [], false, none⟩, ⟨1, false, [], false, none⟩, ⟨2, false, [], false, none⟩, ⟨3, false, [], false, none⟩, ⟨4, false, [], false, none⟩, ⟨5, false, [], false, none⟩, ⟨6, false, [], false, none⟩, ⟨7, false, [], false, none⟩, ⟨8, false, [], false, none⟩], [[], [], [0, 1], [0, 1, 2], [], [], [4, 5], [4, 5, 6], [0, 1, 2, 3, 4, 5, 6, 7]]⟩ .leaf .leaf) .leaf .leaf) .leaf))) (.node 29 (.node 25 ⟨[⟨0, false, [], false, none⟩, ⟨1, false, [], false, none⟩, ⟨2, false, [], false, none⟩, ⟨3, false, [], false, none⟩, ⟨4, false, [], false, none⟩, ⟨5, false, [], false, none⟩, ⟨6, false, [], false, none⟩, ⟨7, false, [], false, none⟩, ⟨8, false, [], false, none⟩], [[], [], [0, 1], [0, 1, 2], [], [], [4, 5], [4, 5, 6], [0, 1, 2, 3, 4, 5, 6, 7]]⟩ (.node 17 ⟨[⟨0, false, [], false, none⟩, ⟨1, false, [], false, none⟩, ⟨2, false, [], false, none⟩, ⟨3, false, [], false, none⟩, ⟨4, false, [], false, none⟩, ⟨5, false, [], false, none⟩, ⟨6, false, [], false, none⟩, ⟨7, false, [], false, none⟩, ⟨8, false, [], false, none⟩, ⟨9, false, [], false, none⟩, ⟨10, false, [], false, none⟩, ⟨11, false, [], false, none⟩, ⟨12, false, [], false, none⟩, ⟨13, false, [], false, none⟩, ⟨14, false, [], false, none⟩, ⟨15, false, [], false, none⟩], [[], [], [], [1, 2], [1, 2, 3], [], [], [], [6, 7], [6, 7, 8], [1, 2, 3, 4, 5], [1, 2, 3, 4, 5, 6, 7, 8, 9, 10], [1, 2, 3, 4, 5, 6, 7, 8, 9, 10, 11], [1, 2, 3, 4, 5, 6, 7, 8, 9, 10, 11, 12], [0, 1, 2, 3, 4, 5, 6, 7, 8, 9, 10, 11, 12, 13], [0, 1, 2, 3, 4, 5, 6, 7, 8, 9, 10, 11, 12, 13, 14]]⟩ .leaf .leaf) (.node 27 ⟨[⟨0, false, [], false, none⟩, ⟨1, false, [], false, none⟩, ⟨2, false, [], false, none⟩, ⟨3, false, [], false, none⟩, ⟨4, false, [], false, none⟩, ⟨5, false, [], false, none⟩, ⟨6, false, [], false, none⟩, ⟨7, false, [], false, none⟩, ⟨8, false, [], false, none⟩, ⟨9, false, [], false, none⟩, ⟨10, false, [], false, none⟩, ⟨11, false, [], false, none⟩, ⟨12, false, [], false, none⟩, ⟨13, false, [], false, none⟩, ⟨14, true, [], false, none⟩], [[], [], [], [], [2, 3], [2, 3, 4], [], [], [6, 7], [6, 7, 8], [], [6, 7, 8, 9, 10], [2, 3, 4, 5, 6, 7, 8, 9, 10, 11], [0, 1, 2, 3, 4, 5, 6, 7, 8, 9, 10, 11, 12], [0, 1, 2, 3, 4, 5, 6, 7, 8, 9, 10, 11, 12, 13]]⟩ .leaf .leaf)) (.node 24 (.node 8 ⟨[⟨0, false, [], false, none⟩, ⟨1, false, [], false, none⟩, ⟨2, false, [], false, none⟩, ⟨3, false, [], false, none⟩, ⟨4, false, [], false, none⟩, ⟨5, false, [], false, none⟩, ⟨6, false, [], false, none⟩, ⟨7, false, [], false, none⟩, ⟨8, false, [], false, none⟩, ⟨9, false, [], false, none⟩, ⟨10, false, [], false, none⟩, ⟨11, false, [], false, none⟩, ⟨12, false, [], false, none⟩, ⟨13, false, [], false, none⟩, ⟨14, false, [], false, none⟩, ⟨15, false, [], false, none⟩, ⟨16, false, [], false, none⟩, ⟨17, false, [], false, none⟩], [[], [], [0, 1], [0, 1, 2], [], [0, 1, 2, 3, 4], [0, 1, 2, 3, 4, 5], [0, 1, 2, 3, 4, 5, 6], [], [], [8, 9], [8, 9, 10], [], [8, 9, 10, 11, 12], [8, 9, 10, 11, 12, 13], [8, 9, 10, 11, 12, 13, 14], [0, 1, 2, 3, 4, 5, 6, 7], [0, 1, 2, 3, 4, 5, 6, 7, 8, 9, 10, 11, 12, 13, 14, 15, 16]]⟩ .leaf .leaf) (.node 23 (.node 10 ⟨[⟨0, false, [], false, none⟩, ⟨1, false, [], false, none⟩, ⟨2, false, [], false, none⟩, ⟨3, false, [], false, none⟩, ⟨4, false, [], false, none⟩, ⟨5, false, [], false, none⟩, ⟨6, false, [], false, none⟩, ⟨7, false, [], false, none⟩, ⟨8, false, [], false, none⟩, ⟨9, false, [], false, none⟩, ⟨10, false, [], false, none⟩, ⟨11, false, [], false, none⟩, ⟨12, false, [], false, none⟩, ⟨13, false, [], false, none⟩, ⟨14, false, [], false, none⟩, ⟨15, false, [], false, none⟩, ⟨16, false, [], false, none⟩, ⟨17, false, [], false, none⟩], [[], [], [0, 1], [0, 1, 2], [], [0, 1, 2, 3, 4], [0, 1, 2, 3, 4, 5], [0, 1, 2, 3, 4, 5, 6], [], [], [8, 9], [8, 9, 10], [], [8, 9, 10, 11, 12], [8, 9, 10, 11, 12, 13], [8, 9, 10, 11, 12, 13, 14], [0, 1, 2, 3, 4, 5, 6, 7], [0, 1, 2, 3, 4, 5, 6, 7, 8, 9, 10, 11, 12, 13, 14, 15, 16]]⟩ .leaf .leaf) (.node 22 (.node 13 ⟨[⟨0, false, [], false, none⟩, ⟨1, false, [], false, none⟩, ⟨2, false, [], false, none⟩, ⟨3, false, [], false, none⟩, ⟨4, false, [], false, none⟩, ⟨5, false, [], false, none⟩, ⟨6, true, [], false, none⟩], [[], [], [1], [1, 2], [0], [0, 1, 2, 3, 4], [0, 1, 2, 3, 4, 5]]⟩ .leaf .leaf) .leaf .leaf) .leaf) (.node 28 (.node 11 ⟨[⟨0, false, [], false, none⟩, ⟨1, false, [], false, none⟩, ⟨2, false, [], false, none⟩, ⟨3, false, [], false, none⟩, ⟨4, false, [], false, none⟩], [[], [], [0], [0, 1, 2], [0, 1, 2, 3]]⟩ .leaf .leaf) (.node 26 (.node 11 ⟨[⟨0, false, [], false, none⟩, ⟨1, false, [], false, none⟩, ⟨2, false, [], false, none⟩, ⟨3, false, [], false, none⟩, ⟨4, false, [], false, none⟩, ⟨5, false, [], false, none⟩, ⟨6, false, [], false, none⟩, ⟨7, false, [], false, none⟩, ⟨8, false, [], false, none⟩, ⟨9, false, [], false, none⟩, ⟨10, false, [], false, none⟩, ⟨11, false, [], false, none⟩, ⟨12, false, [], false, none⟩, ⟨13, false, [], false, none⟩, ⟨14, false, [], false, none⟩], [[], [], [0, 1], [0, 1, 2], [], [0, 1, 2, 3, 4], [0, 1, 2, 3, 4, 5], [], [], [7, 8], [7, 8, 9], [], [7, 8, 9, 10, 11], [7, 8, 9, 10, 11, 12], [0, 1, 2, 3, 4, 5, 6, 7, 8, 9, 10, 11, 12, 13]]⟩ (.node 6 ⟨[⟨0, false, [], false, none⟩, ⟨1, false, [], false, none⟩, ⟨2, false, [], false, none⟩, ⟨3, false, [], false, none⟩, ⟨4, false, [], false, none⟩, ⟨5, false, [], false, none⟩, ⟨6, false, [], false, none⟩, ⟨7, false, [], false, none⟩, ⟨8, false, [], false, none⟩, ⟨9, false, [], false, none⟩, ⟨10, false, [], false, none⟩], [[], [], [0, 1], [0, 1, 2], [0, 1, 2, 3], [], [], [5, 6], [5, 6, 7], [5, 6, 7, 8], [0, 1, 2, 3, 4, 5, 6, 7, 8, 9]]⟩ .leaf .leaf) .leaf) .leaf .leaf) .leaf)) (.node 39 (.node 22 ⟨[⟨1, false, [], false, none⟩, ⟨2, false, [], false, none⟩, ⟨3, false, [], false, none⟩, ⟨4, false, [], false, none⟩, ⟨5, false, [], false, none⟩, ⟨6, false, [], false, none⟩, ⟨7, false, [], false, none⟩, ⟨8, false, [], false, none⟩, ⟨9, false, [], false, none⟩, ⟨10, false, [], false, none⟩, ⟨11, false, [], false, none⟩, ⟨12, true, [], false, none⟩, ⟨0, false, [12], false, none⟩, ⟨13, true, [], false, none⟩, ⟨14, false, [], false, none⟩], [[], [], [], [2], [1, 2, 3], [1, 2, 3, 4], [], [], [7], [6, 7, 8], [6, 7, 8, 9], [1, 2, 3, 4, 5, 6, 7, 8, 9, 10], [1, 2, 3, 4, 5, 6, 7, 8, 9, 10, 11], [0, 1, 2, 3, 4, 5, 6, 7, 8, 9, 10, 11, 12], [0, 1, 2, 3, 4, 5, 6, 7, 8, 9, 10, 11, 12, 13]]⟩ .leaf .leaf) (.node 35 (.node 15 ⟨[⟨13, true, [], false, none⟩, ⟨0, false, [13], false, none⟩, ⟨1, false, [13], false, none⟩, ⟨2, false, [13], false, none⟩, ⟨3, false, [13], false, none⟩, ⟨4, false, [13], false, none⟩, ⟨5, false, [13], false, none⟩, ⟨6, false, [13], false, none⟩, ⟨7, false, [13], false, none⟩, ⟨8, false, [13], false, none⟩, ⟨9, false, [13], false, none⟩, ⟨10, false, [13], false, none⟩, ⟨11, false, [13], false, none⟩, ⟨12, false, [13], false, none⟩, ⟨14, true, [], false, none⟩], [[], [], [0, 1], [], [0, 1, 2, 3], [], [], [5, 6], [], [5, 6, 7, 8], [], [5, 6, 7, 8, 9, 10], [0, 1, 2, 3, 4, 5, 6, 7, 8, 9, 10, 11], [], [0, 1, 2, 3, 4, 5, 6, 7, 8, 9, 10, 11, 12, 13]]⟩ .leaf .leaf) (.node 31 (.node 9 ⟨[⟨0, false, [], false, none⟩, ⟨1, false, [], false, none⟩, ⟨2, false, [], false, none⟩, ⟨3, false, [], false, none⟩, ⟨4, false, [], false, none⟩, ⟨5, false, [], false, none⟩, ⟨6, false, [], false, none⟩, ⟨7, false, [], false, none⟩, ⟨8, false, [], false, none⟩, ⟨9, false, [], false, none⟩, ⟨10, false, [], false, none⟩, ⟨11, false, [], false, none⟩, ⟨12, false, [], false, none⟩, ⟨13, false, [], false, none⟩], [[], [], [0, 1], [0, 1, 2], [], [0, 1, 2, 3, 4], [], [], [6, 7], [6, 7, 8], [], [10], [6, 7, 8, 9, 10, 11], [0, 1, 2, 3, 4, 5, 6, 7, 8, 9, 10, 11, 12]]⟩ .leaf .leaf) .leaf .leaf) .leaf) (.node 41 (.node 9 ⟨[⟨1, false, [], false, none⟩, ⟨2, false, [], false, none⟩, ⟨3, false, [], false, none⟩, ⟨4, false, [], false, none⟩, ⟨5, false, [], false, none⟩, ⟨6, false, [], false, none⟩, ⟨7, false, [], false, none⟩, ⟨8, false, [], false, none⟩, ⟨9, false, [], false, none⟩, ⟨10, false, [], false, none⟩, ⟨11, false, [], false, none⟩, ⟨12, false, [], false, none⟩, ⟨13, false, [], false, none⟩, ⟨14, false, [], false, none⟩, ⟨15, false, [], false, none⟩, ⟨16, false, [], false, none⟩, ⟨17, false, [], false, none⟩, ⟨18, false, [], false, none⟩, ⟨19, false, [], false, none⟩, ⟨20, false, [], false, none⟩, ⟨21, false, [], false, none⟩, ⟨22, false, [], false, none⟩, ⟨23, false, [], false, none⟩, ⟨24, true, [], false, none⟩, ⟨0, false, [24], false, none⟩, ⟨25, true, [], false, none⟩, ⟨26, false, [], false, none⟩], [[], [], [], [], [2, 3], [2, 3, 4], [], [2, 3, 4, 5, 6], [2, 3, 4, 5, 6, 7], [2, 3, 4, 5, 6, 7, 8], [1, 2, 3, 4, 5, 6, 7, 8, 9], [1, 2, 3, 4, 5, 6, 7, 8, 9, 10], [], [], [], [13, 14], [13, 14, 15], [], [13, 14, 15, 16, 17], [13, 14, 15, 16, 17, 18], [13, 14, 15, 16, 17, 18, 19], [12, 13, 14, 15, 16, 17, 18, 19, 20], [12, 13, 14, 15, 16, 17, 18, 19, 20, 21], [1, 2, 3, 4, 5, 6, 7, 8, 9, 10, 11, 12, 13, 14, 15, 16, 17, 18, 19, 20, 21, 22], [1, 2, 3, 4, 5, 6, 7, 8, 9, 10, 11, 12, 13, 14, 15, 16, 17, 18, 19, 20, 21, 22, 23], [0, 1, 2, 3, 4, 5, 6, 7, 8, 9, 10, 11, 12, 13, 14, 15, 16, 17, 18, 19, 20, 21, 22, 23, 24], [0, 1, 2, 3, 4, 5, 6, 7, 8, 9, 10, 11, 12, 13, 14, 15, 16, 17, 18, 19, 20, 21, 22, 23, 24, 25]]⟩ .leaf .leaf) .leaf .leaf)))) (.node 78 (.node 17 ⟨[⟨0, false, [], false, none⟩, ⟨1, false, [], false, none⟩, ⟨2, false, [], false, none⟩, ⟨3, false, [], false, none⟩, ⟨4, false, [], false, none⟩, ⟨5, false, [], false, none⟩, ⟨6, false, [], false, none⟩, ⟨7, false, [], false, none⟩, ⟨8, false, [], false, none⟩, ⟨9, false, [], false, none⟩, ⟨10, false, [], false, none⟩, ⟨11, false, [], false, none⟩, ⟨12, false, [], false, none⟩, ⟨13, false, [], false, none⟩, ⟨14, false, [], false, none⟩], [[], [0], [0, 1], [0, 1, 2], [0, 1, 2], [0, 1, 2, 4], [0, 1, 2, 3, 4, 5], [0, 1, 2, 3, 4, 5, 6], [0, 1, 2], [0, 1, 2], [0, 1, 2, 8, 9], [0, 1, 2, 8, 9, 10], [0, 1, 2, 3, 4, 5, 6, 7, 8, 9, 10, 11], [0, 1, 2, 3, 4, 5, 6, 7, 8, 9, 10, 11, 12], [0, 1, 2, 3, 4, 5, 6, 7, 8, 9, 10, 11, 12, 13]]⟩ .leaf .leaf) (.node 59 (.node 8 ⟨[⟨0, false, [], false, none⟩, ⟨1, false, [], false, none⟩, ⟨2, false, [], false, none⟩, ⟨3, false, [], false, none⟩, ⟨4, false, [], false, none⟩], [[], [0], [0, 1], [], [0, 1, 2, 3]]⟩ .leaf .leaf) (.node 55 (.node 9 ⟨[⟨1, false, [], false, none⟩, ⟨2, false, [], false, none⟩, ⟨3, false, [], false, none⟩, ⟨4, false, [], false, none⟩, ⟨5, false, [], false, none⟩, ⟨6, false, [], false, none⟩, ⟨7, false, [], false, none⟩, ⟨8, false, [], false, none⟩, ⟨9, false, [], false, none⟩, ⟨10, false, [], false, none⟩, ⟨11, false, [], false, none⟩, ⟨12, false, [], false, none⟩, ⟨13, false, [], false, none⟩, ⟨14, false, [], false, none⟩, ⟨15, false, [], false, none⟩, ⟨16, false, [], false, none⟩, ⟨17, true, [], false, none⟩, ⟨0, false, [17], false, none⟩, ⟨18, true, [], false, none⟩, ⟨19, false, [], false, none⟩], [[], [], [], [1, 2], [], [4], [1, 2, 3, 4, 5], [], [], [7, 8], [7, 8, 9], [], [7, 8, 9, 10, 11], [], [13], [7, 8, 9, 10, 11, 12, 13, 14], [1, 2, 3, 4, 5, 6, 7, 8, 9, 10, 11, 12, 13, 14, 15], [1, 2, 3, 4, 5, 6, 7, 8, 9, 10, 11, 12, 13, 14, 15, 16], [0, 1, 2, 3, 4, 5, 6, 7, 8, 9, 10, 11, 12, 13, 14, 15, 16, 17], [0, 1, 2, 3, 4, 5, 6, 7, 8, 9, 10, 11, 12, 13, 14, 15, 16, 17, 18]]⟩ .leaf .leaf) (.node 54 (.node 7 ⟨[⟨0, false, [], false, none⟩, ⟨1, false, [], false, none⟩, ⟨2, false, [], false, none⟩, ⟨3, false, [], false, none⟩, ⟨4, false, [], false, none⟩, ⟨5, false, [], false, none⟩, ⟨6, false, [], false, none⟩], [[], [], [0, 1], [0, 1, 2], [0, 1, 2, 3], [], [0, 1, 2, 3, 4, 5]]⟩ (.node 5 ⟨[⟨0, false, [], false, none⟩, ⟨1, false, [], false, none⟩, ⟨2, false, [], false, none⟩, ⟨3, false, [], false, none⟩, ⟨4, false, [], false, none⟩, ⟨5, false, [], false, none⟩, ⟨6, false, [], false, none⟩], [[], [], [0, 1], [0, 1, 2], [0, 1, 2, 3], [], [0, 1, 2, 3, 4, 5]]⟩ .leaf .leaf) .leaf) (.node 52 (.node 8 ⟨[⟨0, false, [], false, none⟩, ⟨1, false, [], false, none⟩, ⟨2, false, [], false, none⟩, ⟨3, false, [], false, none⟩, ⟨4, false, [], false, none⟩, ⟨5, false, [], false, none⟩], [[], [0], [], [2], [0, 1], [0, 1, 2, 3, 4]]⟩ .leaf .leaf) .leaf .leaf) .leaf) (.node 58 (.node 3 ⟨[⟨0, false, [], false, none⟩, ⟨1, false, [], false, none⟩, ⟨2, false, [], false, none⟩, ⟨3, false, [], false, none⟩, ⟨4, false, [], false, none⟩, ⟨10, false, [], false, none⟩, ⟨12, false, [], false, none⟩, ⟨13, false, [], false, none⟩, ⟨14, false, [], false, none⟩, ⟨15, true, [], false, none⟩, ⟨5, false, [15], false, none⟩, ⟨6, false, [15], false, none⟩, ⟨7, false, [15], false, none⟩, ⟨8, false, [15], false, none⟩, ⟨9, false, [15], false, none⟩, ⟨11, false, [15], false, none⟩, ⟨16, false, [15], false, none⟩, ⟨17, false, [15], false, none⟩, ⟨18, false, [], false, none⟩, ⟨19, true, [], false, none⟩], [[], [], [1], [], [3], [], [], [6], [], [8], [], [], [0], [0, 1, 2, 12], [0, 1, 2, 3, 4, 10, 12, 13], [0, 1, 2, 3, 4, 10, 12, 13, 14], [5], [5, 6, 7, 16], [0, 1, 2, 3, 4, 5, 6, 7, 8, 9, 10, 11, 12, 13, 14, 15, 16, 17], [0, 1, 2, 3, 4, 5, 6, 7, 8, 9, 10, 11, 12, 13, 14, 15, 16, 17, 18]]⟩ .leaf .leaf) (.node 56 (.node 16 ⟨[⟨0, false, [], false, none⟩, ⟨1, false, [], false, none⟩, ⟨2, false, [], false, none⟩, ⟨3, false, [], false, none⟩, ⟨4, false, [], false, none⟩, ⟨5, false, [], false, none⟩, ⟨6, true, [], false, none⟩], [[], [], [1], [1, 2], [0], [0, 1, 2, 3, 4], [0, 1, 2, 3, 4, 5]]⟩ (.node 14 ⟨[⟨0, false, [], false, none⟩, ⟨1, false, [], false, none⟩, ⟨2, false, [], false, none⟩, ⟨3, false, [], false, none⟩, ⟨4, false, [], false, none⟩, ⟨5, false, [], false, none⟩, ⟨6, false, [], false, none⟩], [[], [], [1], [1, 2], [0], [0, 1, 2, 3, 4], [0, 1, 2, 3, 4, 5]]⟩ .leaf .leaf) .leaf) .leaf .leaf) .leaf)) (.node 66 (.node 8 ⟨[⟨0, false, [], false, none⟩, ⟨1, false, [], false, none⟩, ⟨2, false, [], false, none⟩, ⟨3, false, [], false, none⟩, ⟨4, false, [], false, none⟩, ⟨5, false, [], false, none⟩, ⟨6, false, [], false, none⟩, ⟨7, false, [], false, none⟩], [[], [], [0, 1], [], [], [4], [3, 4, 5], [0, 1, 2, 3, 4, 5, 6]]⟩ .leaf .leaf) (.node 65 (.node 10 ⟨[⟨0, false, [], false, none⟩, ⟨1, false, [], false, none⟩, ⟨2, false, [], false, none⟩, ⟨3, false, [], false, none⟩, ⟨4, false, [], false, none⟩, ⟨5, false, [], false, none⟩, ⟨6, false, [], false, none⟩, ⟨7, false, [], false, none⟩, ⟨8, false, [], false, none⟩, ⟨9, false, [], false, none⟩, ⟨10, false, [], false, none⟩, ⟨11, false, [], false, none⟩, ⟨12, false, [], false, none⟩], [[], [0], [0, 1], [0, 1, 2], [0, 1, 2], [0, 1, 2], [0, 1, 2, 5], [0, 1, 2, 4, 5, 6], [0, 1, 2, 3, 4, 5, 6, 7], [0, 1, 2, 3, 4, 5, 6, 7, 8], [0, 1, 2], [0, 1, 2, 3, 4, 5, 6, 7, 8, 9, 10], [0, 1, 2, 3, 4, 5, 6, 7, 8, 9, 10, 11]]⟩ (.node 3 ⟨[⟨0, false, [], false, none⟩, ⟨1, false, [], false, none⟩, ⟨2, false, [], false, none⟩, ⟨3, false, [], false, none⟩, ⟨4, false, [], false, none⟩, ⟨5, false, [], false, none⟩, ⟨6, false, [], false, none⟩, ⟨7, false, [], false, none⟩, ⟨8, false, [], false, none⟩, ⟨9, false, [], false, none⟩, ⟨10, false, [], false, none⟩, ⟨11, false, [], false, none⟩, ⟨12, false, [], false, none⟩, ⟨13, false, [], false, none⟩, ⟨14, false, [], false, none⟩, ⟨15, false, [], false, none⟩, ⟨16, false, [], false, none⟩, ⟨17, false, [], false, none⟩, ⟨18, false, [], false, none⟩, ⟨19, false, [], false, none⟩, ⟨20, false, [], false, none⟩, ⟨21, false, [], false, none⟩, ⟨22, false, [], false, none⟩, ⟨23, true, [], false, none⟩], [[], [], [0, 1], [0, 1, 2], [], [], [], [5, 6], [5, 6, 7], [], [5, 6, 7, 8, 9], [5, 6, 7, 8, 9, 10], [5, 6, 7, 8, 9, 10, 11], [], [], [13, 14], [13, 14, 15], [], [13, 14, 15, 16, 17], [13, 14, 15, 16, 17, 18], [13, 14, 15, 16, 17, 18, 19], [5, 6, 7, 8, 9, 10, 11, 12, 13, 14, 15, 16, 17, 18, 19, 20], [0, 1, 2, 3, 4, 5, 6, 7, 8, 9, 10, 11, 12, 13, 14, 15, 16, 17, 18, 19, 20, 21], [0, 1, 2, 3, 4, 5, 6, 7, 8, 9, 10, 11, 12, 13, 14, 15, 16, 17, 18, 19, 20, 21, 22]]⟩ .leaf .leaf) .leaf) (.node 63 (.node 15 ⟨[⟨0, false, [], false, none⟩, ⟨1, false, [], false, none⟩, ⟨2, false, [], false, none⟩, ⟨3, false, [], false, none⟩, ⟨4, false, [], false, none⟩, ⟨5, false, [], false, none⟩, ⟨6, false, [], false, none⟩, ⟨7, false, [], false, none⟩, ⟨8, false, [], false, none⟩, ⟨9, false, [], false, none⟩, ⟨10, false, [], false, none⟩], [[], [], [], [], [], [4], [3, 4, 5], [], [7], [3, 4, 5, 6, 7, 8], [0, 1, 2, 3, 4, 5, 6, 7, 8, 9]]⟩ .leaf .leaf) .leaf .leaf) .leaf) (.node 71 (.node 7 ⟨[⟨0, false, [], false, none⟩, ⟨1, false, [], false, none⟩, ⟨2, false, [], false, none⟩, ⟨3, false, [], false, none⟩, ⟨4, false, [], false, none⟩, ⟨5, false, [], false, none⟩, ⟨6, false, [], false, none⟩, ⟨7, false, [], false, none⟩, ⟨8, false, [], false, none⟩, ⟨9, false, [], false, none⟩, ⟨10, false, [], false, none⟩, ⟨11, false, [], false, none⟩], [[], [], [], [1, 2], [1, 2, 3], [], [], [5, 6], [5, 6, 7], [0, 1, 2, 3, 4, 5, 6, 7, 8], [0, 1, 2, 3, 4, 5, 6, 7, 8, 9], [0, 1, 2, 3, 4, 5, 6, 7, 8, 9, 10]]⟩ .leaf .leaf) (.node 69 (.node 14 ⟨[⟨0, false, [], false, none⟩, ⟨1, false, [], false, none⟩, ⟨2, false, [], false, none⟩, ⟨3, false, [], false, none⟩, ⟨4, false, [], false, none⟩, ⟨5, false, [], false, none⟩, ⟨6, false, [], false, none⟩, ⟨7, false, [], false, none⟩, ⟨8, false, [], false, none⟩, ⟨9, false, [], false, none⟩, ⟨10, false, [], false, none⟩, ⟨11, false, [], false, none⟩, ⟨12, false, [], false, none⟩, ⟨13, true, [], false, none⟩], [[], [], [1], [1, 2], [0, 1, 2, 3], [0, 1, 2, 3, 4], [], [6], [6, 7], [0, 1, 2, 3, 4, 5, 6, 7, 8], [0, 1, 2, 3, 4, 5, 6, 7, 8, 9], [0, 1, 2, 3, 4, 5, 6, 7, 8, 9, 10], [0, 1, 2, 3, 4, 5, 6, 7, 8, 9, 10, 11], [0, 1, 2, 3, 4, 5, 6, 7, 8, 9, 10, 11, 12]]⟩ .leaf .leaf) .leaf .leaf) .leaf))) (.node 87 (.node 5 ⟨[⟨0, false, [], false, none⟩, ⟨1, false, [], false, none⟩, ⟨2, false, [], false, none⟩, ⟨3, false, [], false, none⟩, ⟨4, false, [], false, none⟩, ⟨5, false, [], false, none⟩, ⟨6, false, [], false, none⟩, ⟨7, false, [], false, none⟩, ⟨8, false, [], false, none⟩, ⟨9, false, [], false, none⟩, ⟨10, false, [], false, none⟩, ⟨11, false, [], false, none⟩, ⟨12, false, [], false, none⟩, ⟨13, false, [], false, none⟩], [[], [], [0, 1], [0, 1, 2], [0, 1, 2, 3], [0, 1, 2, 3], [0, 1, 2, 3, 4, 5], [0, 1, 2, 3, 4, 5, 6], [0, 1, 2, 3], [0, 1, 2, 3], [0, 1, 2, 3, 8, 9], [0, 1, 2, 3, 8, 9, 10], [0, 1, 2, 3, 4, 5, 6, 7, 8, 9, 10, 11], [0, 1, 2, 3, 4, 5, 6, 7, 8, 9, 10, 11, 12]]⟩ (.node 3 ⟨[⟨0, false, [], false, none⟩, ⟨1, false, [], false, none⟩, ⟨2, false, [], false, none⟩, ⟨3, false, [], false, none⟩, ⟨4, false, [], false, none⟩, ⟨5, false, [], false, none⟩, ⟨6, false, [], false, none⟩, ⟨7, false, [], false, none⟩, ⟨8, false, [], false, none⟩, ⟨9, false, [], false, none⟩, ⟨10, false, [], false, none⟩, ⟨11, false, [], false, none⟩, ⟨12, false, [], false, none⟩, ⟨13, false, [], false, none⟩, ⟨14, false, [], false, none⟩], [[], [], [0, 1], [0, 1, 2], [0, 1, 2, 3], [0, 1, 2, 3], [0, 1, 2, 3, 4, 5], [0, 1, 2, 3, 4, 5, 6], [0, 1, 2, 3], [0, 1, 2, 3], [0, 1, 2, 3, 8, 9], [0, 1, 2, 3, 8, 9, 10], [0, 1, 2, 3, 4, 5, 6, 7, 8, 9, 10, 11], [0, 1, 2, 3, 4, 5, 6, 7, 8, 9, 10, 11, 12], [0, 1, 2, 3, 4, 5, 6, 7, 8, 9, 10, 11, 12, 13]]⟩ (.node 1 ⟨[⟨0, false, [], false, none⟩, ⟨1, false, [], false, none⟩, ⟨4, false, [], false, none⟩, ⟨5, false, [], false, none⟩, ⟨6, false, [], false, none⟩, ⟨7, false, [], false, none⟩, ⟨8, false, [], false, none⟩, ⟨9, false, [], false, none⟩, ⟨10, false, [], false, none⟩, ⟨11, false, [], false, none⟩, ⟨12, false, [], false, none⟩, ⟨13, true, [], false, none⟩, ⟨2, false, [13], false, none⟩, ⟨3, false, [13], false, none⟩, ⟨14, false, [], false, none⟩, ⟨15, true, [], false, none⟩], [[], [], [], [], [], [], [4, 5], [4, 5, 6], [], [], [8, 9], [8, 9, 10], [0, 1, 4, 5, 6, 7, 8, 9, 10, 11], [0, 1, 4, 5, 6, 7, 8, 9, 10, 11, 12], [0, 1, 2, 3, 4, 5, 6, 7, 8, 9, 10, 11, 12, 13], [0, 1, 2, 3, 4, 5, 6, 7, 8, 9, 10, 11, 12, 13, 14]]⟩ .leaf .leaf) .leaf) (.node 8 ⟨[⟨0, false, [], false, none⟩, ⟨1, false, [], false, none⟩, ⟨4, false, [], false, none⟩, ⟨5, false, [], false, none⟩, ⟨6, false, [], false, none⟩, ⟨7, false, [], false, none⟩, ⟨8, false, [], false, none⟩, ⟨9, false, [], false, none⟩, ⟨10, false, [], false, none⟩, ⟨11, false, [], false, none⟩, ⟨12, false, [], false, none⟩, ⟨13, true, [], false, none⟩, ⟨2, false, [13], false, none⟩, ⟨3, false, [13], false, none⟩, ⟨14, false, [], false, none⟩, ⟨15, true, [], false, none⟩], [[], [], [], [], [], [], [4, 5], [4, 5, 6], [], [], [8, 9], [8, 9, 10], [0, 1, 4, 5, 6, 7, 8, 9, 10, 11], [0, 1, 4, 5, 6, 7, 8, 9, 10, 11, 12], [0, 1, 2, 3, 4, 5, 6, 7, 8, 9, 10, 11, 12, 13], [0, 1, 2, 3, 4, 5, 6, 7, 8, 9, 10, 11, 12, 13, 14]]⟩ .leaf .leaf)) (.node 82 (.node 10 ⟨[⟨0, false, [], false, none⟩, ⟨1, false, [], false, none⟩, ⟨6, false, [], false, none⟩, ⟨7, false, [], false, none⟩, ⟨8, false, [], false, none⟩, ⟨9, false, [], false, none⟩, ⟨10, false, [], false, none⟩, ⟨11, false, [], false, none⟩, ⟨12, false, [], false, none⟩, ⟨13, false, [], false, none⟩, ⟨14, false, [], false, none⟩, ⟨15, false, [], false, none⟩, ⟨16, false, [], false, none⟩, ⟨17, true, [], false, none⟩, ⟨2, false, [17], false, none⟩, ⟨3, false, [17], false, none⟩, ⟨4, false, [17], false, none⟩, ⟨5, false, [17], false, none⟩, ⟨18, false, [], false, none⟩, ⟨19, true, [], false, none⟩], [[], [], [], [], [], [3, 4], [], [], [], [7, 8], [6, 7, 8, 9], [6, 7, 8, 9, 10], [], [], [12, 13], [12, 13, 14], [0, 1, 6, 7, 8, 9, 10, 11, 12, 13, 14, 15], [0, 1, 6, 7, 8, 9, 10, 11, 12, 13, 14, 15, 16], [0, 1, 2, 3, 4, 5, 6, 7, 8, 9, 10, 11, 12, 13, 14, 15, 16, 17], [0, 1, 2, 3, 4, 5, 6, 7, 8, 9, 10, 11, 12, 13, 14, 15, 16, 17, 18]]⟩ .leaf .leaf) (.node 81 (.node 10 ⟨[⟨0, false, [], false, none⟩, ⟨1, false, [], false, none⟩, ⟨6, false, [], false, none⟩, ⟨7, false, [], false, none⟩, ⟨8, false, [], false, none⟩, ⟨9, false, [], false, none⟩, ⟨10, false, [], false, none⟩, ⟨11, false, [], false, none⟩, ⟨12, false, [], false, none⟩, ⟨13, false, [], false, none⟩, ⟨14, false, [], false, none⟩, ⟨15, false, [], false, none⟩, ⟨16, false, [], false, none⟩, ⟨17, true, [], false, none⟩, ⟨2, false, [17], false, none⟩, ⟨3, false, [17], false, none⟩, ⟨4, false, [17], false, none⟩, ⟨5, false, [17], false, none⟩, ⟨18, false, [], false, none⟩, ⟨19, true, [], false, none⟩], [[], [], [], [], [], [3, 4], [], [], [], [7, 8], [6, 7, 8, 9], [6, 7, 8, 9, 10], [], [], [12, 13], [12, 13, 14], [0, 1, 6, 7, 8, 9, 10, 11, 12, 13, 14, 15], [0, 1, 6, 7, 8, 9, 10, 11, 12, 13, 14, 15, 16], [0, 1, 2, 3, 4, 5, 6, 7, 8, 9, 10, 11, 12, 13, 14, 15, 16, 17], [0, 1, 2, 3, 4, 5, 6, 7, 8, 9, 10, 11, 12, 13, 14, 15, 16, 17, 18]]⟩ .leaf .leaf) (.node 80 (.node 6 ⟨[⟨0, false, [], false, none⟩, ⟨1, false, [], false, none⟩, ⟨5, false, [], false, none⟩, ⟨6, false, [], false, none⟩, ⟨7, false, [], false, none⟩, ⟨8, false, [], false, none⟩, ⟨9, false, [], false, none⟩, ⟨10, false, [], false, none⟩, ⟨11, false, [], false, none⟩, ⟨12, false, [], false, none⟩, ⟨13, false, [], false, none⟩, ⟨14, false, [], false, none⟩, ⟨15, true, [], false, none⟩, ⟨2, false, [15], false, none⟩, ⟨3, false, [15], false, none⟩, ⟨4, false, [15], false, none⟩, ⟨16, false, [], false, none⟩, ⟨17, true, [], false, none⟩], [[], [], [], [], [3], [], [], [6], [5, 6, 7], [5, 6, 7, 8], [], [], [10, 11], [10, 11, 12], [0, 1, 5, 6, 7, 8, 9, 10, 11, 12, 13], [0, 1, 5, 6, 7, 8, 9, 10, 11, 12, 13, 14], [0, 1, 2, 3, 4, 5, 6, 7, 8, 9, 10, 11, 12, 13, 14, 15], [0, 1, 2, 3, 4, 5, 6, 7, 8, 9, 10, 11, 12, 13, 14, 15, 16]]⟩ (.node 4 ⟨[⟨0, false, [], false, none⟩, ⟨1, false, [], false, none⟩, ⟨2, false, [], false, none⟩, ⟨3, false, [], false, none⟩, ⟨4, false, [], false, none⟩, ⟨5, false, [], false, none⟩, ⟨6, false, [], false, none⟩, ⟨7, false, [], false, none⟩, ⟨8, false, [], false, none⟩, ⟨9, false, [], false, none⟩, ⟨10, false, [], false, none⟩, ⟨11, false, [], false, none⟩, ⟨12, false, [], false, none⟩, ⟨13, false, [], false, none⟩, ⟨14, false, [], false, none⟩], [[], [], [0, 1], [0, 1, 2], [0, 1, 2, 3], [0, 1, 2, 3], [0, 1, 2, 3, 4, 5], [0, 1, 2, 3, 4, 5, 6], [0, 1, 2, 3], [0, 1, 2, 3], [0, 1, 2, 3, 9], [0, 1, 2, 3, 8, 9, 10], [0, 1, 2, 3, 8, 9, 10, 11], [0, 1, 2, 3, 4, 5, 6, 7, 8, 9, 10, 11, 12], [0, 1, 2, 3, 4, 5, 6, 7, 8, 9, 10, 11, 12, 13]]⟩ .leaf .leaf) .leaf) .leaf .leaf) .leaf) (.node 85 (.node 17 ⟨[⟨0, false, [], false, none⟩, ⟨1, false, [], false, none⟩, ⟨5, false, [], false, none⟩, ⟨6, false, [], false, none⟩, ⟨7, false, [], false, none⟩, ⟨8, false, [], false, none⟩, ⟨9, false, [], false, none⟩, ⟨10, false, [], false, none⟩, ⟨11, false, [], false, none⟩, ⟨12, false, [], false, none⟩, ⟨13, false, [], false, none⟩, ⟨14, false, [], false, none⟩, ⟨15, true, [], false, none⟩, ⟨2, false, [15], false, none⟩, ⟨3, false, [15], false, none⟩, ⟨4, false, [15], false, none⟩, ⟨16, false, [], false, none⟩, ⟨17, true, [], false, none⟩], [[], [], [], [], [3], [], [], [6], [5, 6, 7], [5, 6, 7, 8], [], [], [10, 11], [10, 11, 12], [0, 1, 5, 6, 7, 8, 9, 10, 11, 12, 13], [0, 1, 5, 6, 7, 8, 9, 10, 11, 12, 13, 14], [0, 1, 2, 3, 4, 5, 6, 7, 8, 9, 10, 11, 12, 13, 14, 15], [0, 1, 2, 3, 4, 5, 6, 7, 8, 9, 10, 11, 12, 13, 14, 15, 16]]⟩ (.node 11 ⟨[⟨0, false, [], false, none⟩, ⟨1, false, [], false, none⟩, ⟨5, false, [], false, none⟩, ⟨6, false, [], false, none⟩, ⟨7, false, [], false, none⟩, ⟨8, false, [], false, none⟩, ⟨9, false, [], false, none⟩, ⟨10, false, [], false, none⟩, ⟨11, false, [], false, none⟩, ⟨12, false, [], false, none⟩, ⟨13, false, [], false, none⟩, ⟨14, false, [], false, none⟩, ⟨15, true, [], false, none⟩, ⟨2, false, [15], false, none⟩, ⟨3, false, [15], false, none⟩, ⟨4, false, [15], false, none⟩, ⟨16, false, [], false, none⟩, ⟨17, true, [], false, none⟩], [[], [], [], [], [3], [], [], [6], [5, 6, 7], [5, 6, 7, 8], [], [], [10, 11], [10, 11, 12], [0, 1, 5, 6, 7, 8, 9, 10, 11, 12, 13], [0, 1, 5, 6, 7, 8, 9, 10, 11, 12, 13, 14], [0, 1, 2, 3, 4, 5, 6, 7, 8, 9, 10, 11, 12, 13, 14, 15], [0, 1, 2, 3, 4, 5, 6, 7, 8, 9, 10, 11, 12, 13, 14, 15, 16]]⟩ (.node 5 ⟨[⟨0, false, [], false, none⟩, ⟨1, false, [], false, none⟩, ⟨2, false, [], false, none⟩, ⟨3, false, [], false, none⟩, ⟨4, false, [], false, none⟩, ⟨5, false, [], false, none⟩, ⟨6, false, [], false, none⟩, ⟨7, false, [], false, none⟩, ⟨8, false, [], false, none⟩, ⟨9, false, [], false, none⟩, ⟨10, false, [], false, none⟩, ⟨11, false, [], false, none⟩, ⟨12, false, [], false, none⟩, ⟨13, false, [], false, none⟩, ⟨14, false, [], false, none⟩, ⟨15, false, [], false, none⟩], [[], [], [0, 1], [0, 1, 2], [0, 1, 2, 3], [0, 1, 2, 3], [0, 1, 2, 3, 4, 5], [0, 1, 2, 3, 4, 5, 6], [0, 1, 2, 3], [0, 1, 2, 3], [0, 1, 2, 3, 9], [0, 1, 2, 3, 8, 9, 10], [0, 1, 2, 3, 8, 9, 10, 11], [0, 1, 2, 3, 4, 5, 6, 7, 8, 9, 10, 11, 12], [0, 1, 2, 3, 4, 5, 6, 7, 8, 9, 10, 11, 12, 13], [0, 1, 2, 3, 4, 5, 6, 7, 8, 9, 10, 11, 12, 13, 14]]⟩ .leaf .leaf) (.node 16 ⟨[⟨0, false, [], false, none⟩, ⟨1, false, [], false, none⟩, ⟨2, false, [], false, none⟩, ⟨3, false, [], false, none⟩, ⟨4, false, [], false, none⟩, ⟨5, false, [], false, none⟩, ⟨6, false, [], false, none⟩, ⟨7, false, [], false, none⟩, ⟨8, false, [], false, none⟩, ⟨9, false, [], false, none⟩, ⟨10, false, [], false, none⟩], [[], [], [0, 1], [0, 1, 2], [], [], [5], [4, 5, 6], [4, 5, 6, 7], [0, 1, 2, 3, 4, 5, 6, 7, 8], [0, 1, 2, 3, 4, 5, 6, 7, 8, 9]]⟩ .leaf .leaf)) (.node 23 ⟨[⟨0, false, [], false, none⟩, ⟨1, false, [], false, none⟩, ⟨5, false, [], false, none⟩, ⟨6, false, [], false, none⟩, ⟨7, false, [], false, none⟩, ⟨8, false, [], false, none⟩, ⟨9, false, [], false, none⟩, ⟨10, false, [], false, none⟩, ⟨11, false, [], false, none⟩, ⟨12, false, [], false, none⟩, ⟨13, false, [], false, none⟩, ⟨14, false, [], false, none⟩, ⟨15, true, [], false, none⟩, ⟨2, false, [15], false, none⟩, ⟨3, false, [15], false, none⟩, ⟨4, false, [15], false, none⟩, ⟨16, false, [], false, none⟩, ⟨17, true, [], false, none⟩], [[], [], [], [], [3], [], [], [6], [5, 6, 7], [5, 6, 7, 8], [], [], [10, 11], [10, 11, 12], [0, 1, 5, 6, 7, 8, 9, 10, 11, 12, 13], [0, 1, 5, 6, 7, 8, 9, 10, 11, 12, 13, 14], [0, 1, 2, 3, 4, 5, 6, 7, 8, 9, 10, 11, 12, 13, 14, 15], [0, 1, 2, 3, 4, 5, 6, 7, 8, 9, 10, 11, 12, 13, 14, 15, 16]]⟩ (.node 22 ⟨[⟨0, false, [], false, none⟩, ⟨1, false, [], false, none⟩, ⟨2, false, [], false, none⟩, ⟨3, false, [], false, none⟩, ⟨4, false, [], false, none⟩, ⟨5, false, [], false, none⟩, ⟨6, false, [], false, none⟩, ⟨7, false, [], false, none⟩, ⟨8, false, [], false, none⟩, ⟨9, false, [], false, none⟩, ⟨10, false, [], false, none⟩], [[], [], [0, 1], [0, 1, 2], [], [], [5], [4, 5, 6], [4, 5, 6, 7], [0, 1, 2, 3, 4, 5, 6, 7, 8], [0, 1, 2, 3, 4, 5, 6, 7, 8, 9]]⟩ .leaf .leaf) .leaf)) (.node 84 (.node 3 ⟨[⟨0, false, [], false, none⟩, ⟨1, false, [], false, none⟩, ⟨4, false, [], false, none⟩, ⟨5, false, [], false, none⟩, ⟨6, false, [], false, none⟩, ⟨7, false, [], false, none⟩, ⟨8, false, [], false, none⟩, ⟨9, false, [], false, none⟩, ⟨10, false, [], false, none⟩, ⟨11, false, [], false, none⟩, ⟨12, false, [], false, none⟩, ⟨13, true, [], false, none⟩, ⟨2, false, [13], false, none⟩, ⟨3, false, [13], false, none⟩, ⟨14, false, [], false, none⟩, ⟨15, true, [], false, none⟩], [[], [], [], [], [], [], [4, 5], [4, 5, 6], [], [], [8, 9], [8, 9, 10], [0, 1, 4, 5, 6, 7, 8, 9, 10, 11], [0, 1, 4, 5, 6, 7, 8, 9, 10, 11, 12], [0, 1, 2, 3, 4, 5, 6, 7, 8, 9, 10, 11, 12, 13], [0, 1, 2, 3, 4, 5, 6, 7, 8, 9, 10, 11, 12, 13, 14]]⟩ .leaf .leaf) .leaf .leaf) .leaf)) (.node 93 (.node 2 ⟨[⟨0, false, [], false, none⟩, ⟨1, false, [], false, none⟩, ⟨2, false, [], false, none⟩, ⟨3, false, [], false, none⟩, ⟨4, false, [], false, none⟩, ⟨5, false, [], false, none⟩, ⟨6, false, [], false, none⟩, ⟨7, false, [], false, none⟩, ⟨8, false, [], false, none⟩, ⟨9, true, [], false, none⟩], [[], [0], [0, 1], [], [3], [3, 4], [3, 4, 5], [0, 1, 2, 3, 4, 5, 6], [0, 1, 2, 3, 4, 5, 6, 7], [0, 1, 2, 3, 4, 5, 6, 7, 8]]⟩ (.node 1 ⟨[⟨0, false, [], false, none⟩, ⟨1, false, [], false, none⟩, ⟨2, false, [], false, none⟩, ⟨3, false, [], false, none⟩, ⟨4, false, [], false, none⟩, ⟨5, false, [], false, none⟩, ⟨6, false, [], false, none⟩, ⟨7, false, [], false, none⟩, ⟨8, false, [], false, none⟩, ⟨9, true, [], false, none⟩], [[], [0], [0, 1], [], [3], [3, 4], [3, 4, 5], [0, 1, 2, 3, 4, 5, 6], [0, 1, 2, 3, 4, 5, 6, 7], [0, 1, 2, 3, 4, 5, 6, 7, 8]]⟩ .leaf .leaf) (.node 3 ⟨[⟨0, false, [], false, none⟩, ⟨1, false, [], false, none⟩, ⟨2, false, [], false, none⟩, ⟨3, false, [], false, none⟩, ⟨4, false, [], false, none⟩, ⟨5, false, [], false, none⟩, ⟨6, false, [], false, none⟩, ⟨7, false, [], false, none⟩, ⟨8, false, [], false, none⟩, ⟨9, true, [], false, none⟩], [[], [0], [0, 1], [], [3], [3, 4], [3, 4, 5], [0, 1, 2, 3, 4, 5, 6], [0, 1, 2, 3, 4, 5, 6, 7], [0, 1, 2, 3, 4, 5, 6, 7, 8]]⟩ .leaf .leaf)) (.node 91 (.node 5 ⟨[⟨0, false, [], false, none⟩, ⟨1, false, [], false, none⟩, ⟨2, false, [], false, none⟩, ⟨3, false, [], false, none⟩, ⟨4, false, [], false, none⟩, ⟨5, false, [], false, none⟩, ⟨6, false, [], false, none⟩, ⟨7, false, [], false, none⟩, ⟨8, false, [], false, none⟩, ⟨9, false, [], false, none⟩, ⟨10, false, [], false, none⟩, ⟨11, false, [], false, none⟩, ⟨12, false, [], false, none⟩, ⟨13, false, [], false, none⟩], [[], [], [], [1, 2], [0, 1, 2, 3], [0, 1, 2, 3, 4], [], [], [], [7, 8], [6, 7, 8, 9], [6, 7, 8, 9, 10], [0, 1, 2, 3, 4, 5, 6, 7, 8, 9, 10, 11], [0, 1, 2, 3, 4, 5, 6, 7, 8, 9, 10, 11, 12]]⟩ (.node 3 ⟨[⟨0, false, [], false, none⟩, ⟨1, false, [], false, none⟩, ⟨2, false, [], false, none⟩, ⟨3, false, [], false, none⟩, ⟨4, false, [], false, none⟩, ⟨5, false, [], false, none⟩, ⟨6, false, [], false, none⟩, ⟨7, false, [], false, none⟩, ⟨8, false, [], false, none⟩, ⟨9, false, [], false, none⟩, ⟨10, false, [], false, none⟩, ⟨11, false, [], false, none⟩, ⟨12, false, [], false, none⟩, ⟨13, false, [], false, none⟩, ⟨14, false, [], false, none⟩, ⟨15, false, [], false, none⟩, ⟨16, false, [], false, none⟩, ⟨17, false, [], false, none⟩, ⟨18, false, [], false, none⟩, ⟨19, false, [], false, none⟩], [[], [0], [], [0, 1, 2], [0, 1, 2, 3], [0, 1, 2, 3, 4], [0, 1, 2, 3, 4], [0, 1, 2, 3, 4], [0, 1, 2, 3, 4, 6, 7], [0, 1, 2, 3, 4, 5, 6, 7, 8], [0, 1, 2, 3, 4, 5, 6, 7, 8, 9], [0, 1, 2, 3, 4], [0, 1, 2, 3, 4], [0, 1, 2, 3, 4], [0, 1, 2, 3, 4, 12, 13], [0, 1, 2, 3, 4, 12, 13, 14], [0, 1, 2, 3, 4, 11, 12, 13, 14, 15], [0, 1, 2, 3, 4, 11, 12, 13, 14, 15, 16], [0, 1, 2, 3, 4, 5, 6, 7, 8, 9, 10, 11, 12, 13, 14, 15, 16, 17], [0, 1, 2, 3, 4, 5, 6, 7, 8, 9, 10, 11, 12, 13, 14, 15, 16, 17, 18]]⟩ .leaf .leaf) (.node 6 ⟨[⟨0, false, [], false, none⟩, ⟨1, false, [], false, none⟩, ⟨2, false, [], false, none⟩, ⟨3, false, [], false, none⟩, ⟨8, false, [], false, none⟩, ⟨9, false, [], false, none⟩, ⟨10, false, [], false, none⟩, ⟨11, false, [], false, none⟩, ⟨12, false, [], false, none⟩, ⟨13, false, [], false, none⟩, ⟨14, false, [], false, none⟩, ⟨15, false, [], false, none⟩, ⟨16, false, [], false, none⟩, ⟨17, false, [], false, none⟩, ⟨18, false, [], false, none⟩, ⟨19, false, [], false, none⟩, ⟨20, false, [], false, none⟩, ⟨21, true, [], false, none⟩, ⟨4, false, [21], false, none⟩, ⟨5, false, [21], false, none⟩, ⟨6, false, [21], false, none⟩, ⟨7, false, [21], false, none⟩, ⟨22, false, [], false, none⟩, ⟨23, true, [], false, none⟩], [[], [], [], [1, 2], [], [], [], [5, 6], [], [], [], [9, 10], [8, 9, 10, 11], [8, 9, 10, 11, 12], [], [], [], [15, 16], [14, 15, 16, 17], [14, 15, 16, 17, 18], [0, 1, 2, 3, 8, 9, 10, 11, 12, 13, 14, 15, 16, 17, 18, 19], [0, 1, 2, 3, 8, 9, 10, 11, 12, 13, 14, 15, 16, 17, 18, 19, 20], [0, 1, 2, 3, 4, 5, 6, 7, 8, 9, 10, 11, 12, 13, 14, 15, 16, 17, 18, 19, 20, 21], [0, 1, 2, 3, 4, 5, 6, 7, 8, 9, 10, 11, 12, 13, 14, 15, 16, 17, 18, 19, 20, 21, 22]]⟩ .leaf .leaf)) (.node 88 (.node 10 ⟨[⟨0, false, [], false, none⟩, ⟨1, false, [], false, none⟩, ⟨4, false, [], false, none⟩, ⟨5, false, [], false, none⟩, ⟨6, false, [], false, none⟩, ⟨7, false, [], false, none⟩, ⟨8, false, [], false, none⟩, ⟨9, false, [], false, none⟩, ⟨10, false, [], false, none⟩, ⟨11, false, [], false, none⟩, ⟨12, false, [], false, none⟩, ⟨13, true, [], false, none⟩, ⟨2, false, [13], false, none⟩, ⟨3, false, [13], false, none⟩, ⟨14, false, [], false, none⟩, ⟨15, true, [], false, none⟩], [[], [], [], [], [], [], [4, 5], [4, 5, 6], [], [], [8, 9], [8, 9, 10], [0, 1, 4, 5, 6, 7, 8, 9, 10, 11], [0, 1, 4, 5, 6, 7, 8, 9, 10, 11, 12], [0, 1, 2, 3, 4, 5, 6, 7, 8, 9, 10, 11, 12, 13], [0, 1, 2, 3, 4, 5, 6, 7, 8, 9, 10, 11, 12, 13, 14]]⟩ (.node 5 ⟨[⟨0, false, [], false, none⟩, ⟨1, false, [], false, none⟩, ⟨2, false, [], false, none⟩, ⟨3, false, [], false, none⟩, ⟨4, false, [], false, none⟩, ⟨5, false, [], false, none⟩, ⟨6, false, [], false, none⟩, ⟨7, false, [], false, none⟩, ⟨8, false, [], false, none⟩, ⟨9, false, [], false, none⟩, ⟨10, false, [], false, none⟩, ⟨11, false, [], false, none⟩, ⟨12, false, [], false, none⟩, ⟨13, false, [], false, none⟩, ⟨14, false, [], false, none⟩], [[], [], [0, 1], [0, 1, 2], [0, 1, 2, 3], [0, 1, 2, 3], [0, 1, 2, 3, 4, 5], [0, 1, 2, 3, 4, 5, 6], [0, 1, 2, 3], [0, 1, 2, 3], [0, 1, 2, 3, 8, 9], [0, 1, 2, 3, 8, 9, 10], [0, 1, 2, 3, 4, 5, 6, 7, 8, 9, 10, 11], [0, 1, 2, 3, 4, 5, 6, 7, 8, 9, 10, 11, 12], [0, 1, 2, 3, 4, 5, 6, 7, 8, 9, 10, 11, 12, 13]]⟩ (.node 3 ⟨[⟨0, false, [], false, none⟩, ⟨1, false, [], false, none⟩, ⟨2, false, [], false, none⟩, ⟨3, false, [], false, none⟩, ⟨4, false, [], false, none⟩, ⟨5, false, [], false, none⟩, ⟨6, false, [], false, none⟩, ⟨7, false, [], false, none⟩, ⟨8, false, [], false, none⟩, ⟨9, false, [], false, none⟩, ⟨10, false, [], false, none⟩, ⟨11, false, [], false, none⟩, ⟨12, false, [], false, none⟩, ⟨13, false, [], false, none⟩], [[], [], [0, 1], [0, 1, 2], [0, 1, 2, 3], [0, 1, 2, 3], [0, 1, 2, 3, 4, 5], [0, 1, 2, 3, 4, 5, 6], [0, 1, 2, 3], [0, 1, 2, 3], [0, 1, 2, 3, 8, 9], [0, 1, 2, 3, 8, 9, 10], [0, 1, 2, 3, 4, 5, 6, 7, 8, 9, 10, 11], [0, 1, 2, 3, 4, 5, 6, 7, 8, 9, 10, 11, 12]]⟩ (.node 1 ⟨[⟨0, false, [], false, none⟩, ⟨1, false, [], false, none⟩, ⟨4, false, [], false, none⟩, ⟨5, false, [], false, none⟩, ⟨6, false, [], false, none⟩, ⟨7, false, [], false, none⟩, ⟨8, false, [], false, none⟩, ⟨9, false, [], false, none⟩, ⟨10, false, [], false, none⟩, ⟨11, false, [], false, none⟩, ⟨12, false, [], false, none⟩, ⟨13, true, [], false, none⟩, ⟨2, false, [13], false, none⟩, ⟨3, false, [13], false, none⟩, ⟨14, false, [], false, none⟩, ⟨15, true, [], false, none⟩], [[], [], [], [], [], [], [4, 5], [4, 5, 6], [], [], [8, 9], [8, 9, 10], [0, 1, 4, 5, 6, 7, 8, 9, 10, 11], [0, 1, 4, 5, 6, 7, 8, 9, 10, 11, 12], [0, 1, 2, 3, 4, 5, 6, 7, 8, 9, 10, 11, 12, 13], [0, 1, 2, 3, 4, 5, 6, 7, 8, 9, 10, 11, 12, 13, 14]]⟩ .leaf .leaf) .leaf) (.node 8 ⟨[⟨0, false, [], false, none⟩, ⟨1, false, [], false, none⟩, ⟨4, false, [], false, none⟩, ⟨5, false, [], false, none⟩, ⟨6, false, [], false, none⟩, ⟨7, false, [], false, none⟩, ⟨8, false, [], false, none⟩, ⟨9, false, [], false, none⟩, ⟨10, false, [], false, none⟩, ⟨11, false, [], false, none⟩, ⟨12, false, [], false, none⟩, ⟨13, true, [], false, none⟩, ⟨2, false, [13], false, none⟩, ⟨3, false, [13], false, none⟩, ⟨14, false, [], false, none⟩, ⟨15, true, [], false, none⟩], [[], [], [], [], [], [], [4, 5], [4, 5, 6], [], [], [8, 9], [8, 9, 10], [0, 1, 4, 5, 6, 7, 8, 9, 10, 11], [0, 1, 4, 5, 6, 7, 8, 9, 10, 11, 12], [0, 1, 2, 3, 4, 5, 6, 7, 8, 9, 10, 11, 12, 13], [0, 1, 2, 3, 4, 5, 6, 7, 8, 9, 10, 11, 12, 13, 14]]⟩ .leaf .leaf)) (.node 18 ⟨[⟨0, false, [], false, none⟩, ⟨1, false, [], false, none⟩, ⟨4, false, [], false, none⟩, ⟨5, false, [], false, none⟩, ⟨6, false, [], false, none⟩, ⟨7, false, [], false, none⟩, ⟨8, false, [], false, none⟩, ⟨9, false, [], false, none⟩, ⟨10, false, [], false, none⟩, ⟨11, false, [], false, none⟩, ⟨12, false, [], false, none⟩, ⟨13, true, [], false, none⟩, ⟨2, false, [13], false, none⟩, ⟨3, false, [13], false, none⟩, ⟨14, false, [], false, none⟩, ⟨15, true, [], false, none⟩], [[], [], [], [], [], [], [4, 5], [4, 5, 6], [], [], [8, 9], [8, 9, 10], [0, 1, 4, 5, 6, 7, 8, 9, 10, 11], [0, 1, 4, 5, 6, 7, 8, 9, 10, 11, 12], [0, 1, 2, 3, 4, 5, 6, 7, 8, 9, 10, 11, 12, 13], [0, 1, 2, 3, 4, 5, 6, 7, 8, 9, 10, 11, 12, 13, 14]]⟩ (.node 15 ⟨[⟨0, false, [], false, none⟩, ⟨1, false, [], false, none⟩, ⟨2, false, [], false, none⟩, ⟨3, false, [], false, none⟩, ⟨4, false, [], false, none⟩, ⟨5, false, [], false, none⟩, ⟨6, false, [], false, none⟩, ⟨7, false, [], false, none⟩, ⟨8, false, [], false, none⟩, ⟨9, false, [], false, none⟩, ⟨10, false, [], false, none⟩, ⟨11, false, [], false, none⟩, ⟨12, false, [], false, none⟩, ⟨13, false, [], false, none⟩, ⟨14, false, [], false, none⟩], [[], [], [0, 1], [0, 1, 2], [0, 1, 2, 3], [0, 1, 2, 3], [0, 1, 2, 3, 4, 5], [0, 1, 2, 3, 4, 5, 6], [0, 1, 2, 3], [0, 1, 2, 3], [0, 1, 2, 3, 8, 9], [0, 1, 2, 3, 8, 9, 10], [0, 1, 2, 3, 4, 5, 6, 7, 8, 9, 10, 11], [0, 1, 2, 3, 4, 5, 6, 7, 8, 9, 10, 11, 12], [0, 1, 2, 3, 4, 5, 6, 7, 8, 9, 10, 11, 12, 13]]⟩ (.node 13 ⟨[⟨0, false, [], false, none⟩, ⟨1, false, [], false, none⟩, ⟨2, false, [], false, none⟩, ⟨3, false, [], false, none⟩, ⟨4, false, [], false, none⟩, ⟨5, false, [], false, none⟩, ⟨6, false, [], false, none⟩, ⟨7, false, [], false, none⟩, ⟨8, false, [], false, none⟩, ⟨9, false, [], false, none⟩, ⟨10, false, [], false, none⟩, ⟨11, false, [], false, none⟩, ⟨12, false, [], false, none⟩, ⟨13, false, [], false, none⟩], [[], [], [0, 1], [0, 1, 2], [0, 1, 2, 3], [0, 1, 2, 3], [0, 1, 2, 3, 4, 5], [0, 1, 2, 3, 4, 5, 6], [0, 1, 2, 3], [0, 1, 2, 3], [0, 1, 2, 3, 8, 9], [0, 1, 2, 3, 8, 9, 10], [0, 1, 2, 3, 4, 5, 6, 7, 8, 9, 10, 11], [0, 1, 2, 3, 4, 5, 6, 7, 8, 9, 10, 11, 12]]⟩ .leaf .leaf) .leaf) (.node 21 ⟨[⟨0, false, [], false, none⟩, ⟨1, false, [], false, none⟩, ⟨4, false, [], false, none⟩, ⟨5, false, [], false, none⟩, ⟨6, false, [], false, none⟩, ⟨7, false, [], false, none⟩, ⟨8, false, [], false, none⟩, ⟨9, false, [], false, none⟩, ⟨10, false, [], false, none⟩, ⟨11, false, [], false, none⟩, ⟨12, false, [], false, none⟩, ⟨13, true, [], false, none⟩, ⟨2, false, [13], false, none⟩, ⟨3, false, [13], false, none⟩, ⟨14, false, [], false, none⟩, ⟨15, true, [], false, none⟩], [[], [], [], [], [], [], [4, 5], [4, 5, 6], [], [], [8, 9], [8, 9, 10], [0, 1, 4, 5, 6, 7, 8, 9, 10, 11], [0, 1, 4, 5, 6, 7, 8, 9, 10, 11, 12], [0, 1, 2, 3, 4, 5, 6, 7, 8, 9, 10, 11, 12, 13], [0, 1, 2, 3, 4, 5, 6, 7, 8, 9, 10, 11, 12, 13, 14]]⟩ .leaf .leaf))) .leaf .leaf) .leaf) (.node 97 (.node 1 ⟨[⟨0, false, [], false, none⟩, ⟨1, false, [], false, none⟩, ⟨2, false, [], false, none⟩, ⟨3, false, [], false, none⟩, ⟨4, false, [], false, none⟩, ⟨5, false, [], false, none⟩, ⟨6, false, [], false, none⟩, ⟨7, false, [], false, none⟩, ⟨8, false, [], false, none⟩], [[], [], [0, 1], [0, 1, 2], [], [], [4, 5], [4, 5, 6], [0, 1, 2, 3, 4, 5, 6, 7]]⟩ .leaf .leaf) .leaf .leaf)))))

noncomputable def aePlan (f b : Nat) : Option Plan := match tget aePlanT f with
  | some t => tget t b
  | none => none

noncomputable def aeC : Ctx := ⟨aeT, aeRets, aeIso, aePol, aeXPol, aePlan, true⟩

noncomputable def aeF : Tab Func :=
  (.node 57 Try.f57 (.node 28 Try.f28 (.node 14 Try.f14 (.node 7 Try.f7 (.node 3 Try.f3 (.node 1 Try.f1 (.node 0 Try.f0 .leaf .leaf) (.node 2 Try.f2 .leaf .leaf)) (.node 5 Try.f5 (.node 4 Try.f4 .leaf .leaf) (.node 6 Try.f6 .leaf .leaf))) (.node 11 Try.f11 (.node 9 Try.f9 (.node 8 Try.f8 .leaf .leaf) (.node 10 Try.f10 .leaf .leaf)) (.node 13 Try.f13 (.node 12 Try.f12 .leaf .leaf) .leaf))) (.node 21 Try.f21 (.node 18 Try.f18 (.node 16 Try.f16 (.node 15 Try.f15 .leaf .leaf) (.node 17 Try.f17 .leaf .leaf)) (.node 20 Try.f20 (.node 19 Try.f19 .leaf .leaf) .leaf)) (.node 25 Try.f25 (.node 23 Try.f23 (.node 22 Try.f22 .leaf .leaf) (.node 24 Try.f24 .leaf .leaf)) (.node 27 Try.f27 (.node 26 Try.f26 .leaf .leaf) .leaf)))) (.node 43 Try.f43 (.node 36 Try.f36 (.node 32 Try.f32 (.node 30 Try.f30 (.node 29 Try.f29 .leaf .leaf) (.node 31 Try.f31 .leaf .leaf)) (.node 34 Try.f34 (.node 33 Try.f33 .leaf .leaf) (.node 35 Try.f35 .leaf .leaf))) (.node 40 Try.f40 (.node 38 Try.f38 (.node 37 Try.f37 .leaf .leaf) (.node 39 Try.f39 .leaf .leaf)) (.node 42 Try.f42 (.node 41 Try.f41 .leaf .leaf) .leaf))) (.node 50 Try.f50 (.node 47 Try.f47 (.node 45 Try.f45 (.node 44 Try.f44 .leaf .leaf) (.node 46 Try.f46 .leaf .leaf)) (.node 49 Try.f49 (.node 48 Try.f48 .leaf .leaf) .leaf)) (.node 54 Try.f54 (.node 52 Try.f52 (.node 51 Try.f51 .leaf .leaf) (.node 53 Try.f53 .leaf .leaf)) (.node 56 Try.f56 (.node 55 Try.f55 .leaf .leaf) .leaf))))) (.node 86 Try.f86 (.node 72 Try.f72 (.node 65 Try.f65 (.node 61 Try.f61 (.node 59 Try.f59 (.node 58 Try.f58 .leaf .leaf) (.node 60 Try.f60 .leaf .leaf)) (.node 63 Try.f63 (.node 62 Try.f62 .leaf .leaf) (.node 64 Try.f64 .leaf .leaf))) (.node 69 Try.f69 (.node 67 Try.f67 (.node 66 Try.f66 .leaf .leaf) (.node 68 Try.f68 .leaf .leaf)) (.node 71 Try.f71 (.node 70 Try.f70 .leaf .leaf) .leaf))) (.node 79 Try.f79 (.node 76 Try.f76 (.node 74 Try.f74 (.node 73 Try.f73 .leaf .leaf) (.node 75 Try.f75 .leaf .leaf)) (.node 78 Try.f78 (.node 77 Try.f77 .leaf .leaf) .leaf)) (.node 83 Try.f83 (.node 81 Try.f81 (.node 80 Try.f80 .leaf .leaf) (.node 82 Try.f82 .leaf .leaf)) (.node 85 Try.f85 (.node 84 Try.f84 .leaf .leaf) .leaf)))) (.node 100 Try.f100 (.node 93 Try.f93 (.node 90 Try.f90 (.node 88 Try.f88 (.node 87 Try.f87 .leaf .leaf) (.node 89 Try.f89 .leaf .leaf)) (.node 92 Try.f92 (.node 91 Try.f91 .leaf .leaf) .leaf)) (.node 97 Try.f97 (.node 95 Try.f95 (.node 94 Try.f94 .leaf .leaf) (.node 96 Try.f96 .leaf .leaf)) (.node 99 Try.f99 (.node 98 Try.f98 .leaf .leaf) .leaf))) (.node 107 Try.f107 (.node 104 Try.f104 (.node 102 Try.f102 (.node 101 Try.f101 .leaf .leaf) (.node 103 Try.f103 .leaf .leaf)) (.node 106 Try.f106 (.node 105 Try.f105 .leaf .leaf) .leaf)) (.node 111 Try.f111 (.node 109 Try.f109 (.node 108 Try.f108 .leaf .leaf) (.node 110 Try.f110 .leaf .leaf)) (.node 113 Try.f113 (.node 112 Try.f112 .leaf .leaf) .leaf))))))

end Go.Proofs.Ytigijjinlalnaaa

/- The abstract machine of the seat is sound: written by a program of this session (wip/tools/aectx.py). -/
namespace Go.Proofs.Ytigijjinlalnaaa
open Go Go.AE
set_option maxRecDepth 100000
theorem aeT_ok : tableOK Try.prog aeT = true := by decide +kernel
theorem aeE_ok : eqTab Try.prog aeT = true := by decide +kernel
theorem aeCode_ok : aeF.all (fun f fn => match fn.body with | some c => okCode aeC f fn.ntmps c | none => true) = true := by decide +kernel
theorem aeName_ok : aeF.all (fun _ fn => !(fn.name == "runtime.NumGoroutine")) = true := by decide +kernel
theorem aeAt_ok : aeF.All (fun f fn => Try.prog.funcs[f]? = some fn) :=
  ⟨rfl, ⟨rfl, ⟨rfl, ⟨rfl, ⟨rfl, ⟨rfl, ⟨rfl, trivial, trivial⟩, ⟨rfl, trivial, trivial⟩⟩, ⟨rfl, ⟨rfl, trivial, trivial⟩, ⟨rfl, trivial, trivial⟩⟩⟩, ⟨rfl, ⟨rfl, ⟨rfl, trivial, trivial⟩, ⟨rfl, trivial, trivial⟩⟩, ⟨rfl, ⟨rfl, trivial, trivial⟩, trivial⟩⟩⟩, ⟨rfl, ⟨rfl, ⟨rfl, ⟨rfl, trivial, trivial⟩, ⟨rfl, trivial, trivial⟩⟩, ⟨rfl, ⟨rfl, trivial, trivial⟩, trivial⟩⟩, ⟨rfl, ⟨rfl, ⟨rfl, trivial, trivial⟩, ⟨rfl, trivial, trivial⟩⟩, ⟨rfl, ⟨rfl, trivial, trivial⟩, trivial⟩⟩⟩⟩, ⟨rfl, ⟨rfl, ⟨rfl, ⟨rfl, ⟨rfl, trivial, trivial⟩, ⟨rfl, trivial, trivial⟩⟩, ⟨rfl, ⟨rfl, trivial, trivial⟩, ⟨rfl, trivial, trivial⟩⟩⟩, ⟨rfl, ⟨rfl, ⟨rfl, trivial, trivial⟩, ⟨rfl, trivial, trivial⟩⟩, ⟨rfl, ⟨rfl, trivial, trivial⟩, trivial⟩⟩⟩, ⟨rfl, ⟨rfl, ⟨rfl, ⟨rfl, trivial, trivial⟩, ⟨rfl, trivial, trivial⟩⟩, ⟨rfl, ⟨rfl, trivial, trivial⟩, trivial⟩⟩, ⟨rfl, ⟨rfl, ⟨rfl, trivial, trivial⟩, ⟨rfl, trivial, trivial⟩⟩, ⟨rfl, ⟨rfl, trivial, trivial⟩, trivial⟩⟩⟩⟩⟩, ⟨rfl, ⟨rfl, ⟨rfl, ⟨rfl, ⟨rfl, ⟨rfl, trivial, trivial⟩, ⟨rfl, trivial, trivial⟩⟩, ⟨rfl, ⟨rfl, trivial, trivial⟩, ⟨rfl, trivial, trivial⟩⟩⟩, ⟨rfl, ⟨rfl, ⟨rfl, trivial, trivial⟩, ⟨rfl, trivial, trivial⟩⟩, ⟨rfl, ⟨rfl, trivial, trivial⟩, trivial⟩⟩⟩, ⟨rfl, ⟨rfl, ⟨rfl, ⟨rfl, trivial, trivial⟩, ⟨rfl, trivial, trivial⟩⟩, ⟨rfl, ⟨rfl, trivial, trivial⟩, trivial⟩⟩, ⟨rfl, ⟨rfl, ⟨rfl, trivial, trivial⟩, ⟨rfl, trivial, trivial⟩⟩, ⟨rfl, ⟨rfl, trivial, trivial⟩, trivial⟩⟩⟩⟩, ⟨rfl, ⟨rfl, ⟨rfl, ⟨rfl, ⟨rfl, trivial, trivial⟩, ⟨rfl, trivial, trivial⟩⟩, ⟨rfl, ⟨rfl, trivial, trivial⟩, trivial⟩⟩, ⟨rfl, ⟨rfl, ⟨rfl, trivial, trivial⟩, ⟨rfl, trivial, trivial⟩⟩, ⟨rfl, ⟨rfl, trivial, trivial⟩, trivial⟩⟩⟩, ⟨rfl, ⟨rfl, ⟨rfl, ⟨rfl, trivial, trivial⟩, ⟨rfl, trivial, trivial⟩⟩, ⟨rfl, ⟨rfl, trivial, trivial⟩, trivial⟩⟩, ⟨rfl, ⟨rfl, ⟨rfl, trivial, trivial⟩, ⟨rfl, trivial, trivial⟩⟩, ⟨rfl, ⟨rfl, trivial, trivial⟩, trivial⟩⟩⟩⟩⟩⟩
theorem ae_mixed : Try.prog.follows .mixedOrders = true := Checked.mixed Try.checked
theorem ae_T : TOK Try.prog aeC.T := TOK.of_check aeT_ok
theorem ae_Q : EqOK Try.prog aeC.T := EqOK.of_check ae_T aeE_ok
theorem ae_fn {f : FuncId} {fn : Func} (h : tget aeF f = some fn) : FnOK Try.prog aeC f fn := by
  refine ⟨Tab.get_All aeAt_ok f fn h, ?_, fun c hc => ?_⟩
  · simpa using Tab.get_all aeName_ok f fn h
  · have := Tab.get_all aeCode_ok f fn h
    rw [hc] at this; exact this
theorem ae_direct {E : Ev} (hE : EvOK Try.prog E) (k : Nat) {f : FuncId} {fn : Func} {ds : List DV} {d : DV} (h : tget aeF f = some fn) (e : pureE aeC E k f fn ds = some d) : PureOK Try.prog f ds d := pureE_ok ae_T ae_Q ae_mixed hE (ae_fn h) e
theorem ae_pure {E : Ev} (hE : EvOK Try.prog E) {f : FuncId} {fn : Func} {ids : List Nat} {ds : List DV} {d : DV} (ok : OkSeg fn none ids) (h : tget aeF f = some fn) (hb : (fn.body.isSome && Nat.ble ds.length fn.ntmps) = true)
    (e : startF aeC E f 0 fn none ⟨envOf 0 (ds.map .d), [], []⟩ (doneE aeC fn 0 fun v h => freezeV h 4 v) = some d) (hfr : freshF f = false := by rfl) : PureOK Try.prog f ds d :=
  pure_of_go ae_T ae_Q ae_mixed hE (ae_fn h) ok hb e hfr
end Go.Proofs.Ytigijjinlalnaaa

/- Chapter 06: calls whose answers are told by tables; matrices as data. -/
namespace Go.Proofs.Ytigijjinlalnaaa
open Go Go.AE

/-- Calls are answered by a table of shapes, where 'ok' says so. -/
def evT (ok : Nat → List DV → Bool) (shape : Nat → List DV → DV) : Ev := { Ev.nil with pure := fun f ds => .node (ok f ds) (.leaf (shape f ds)) .fail }
/-- All others are walked. -/
noncomputable def evW (fs : List Nat) (ok : Nat → List DV → Bool) (shape : Nat → List DV → DV) : Ev := evO aeC aeF (evT ok shape) fs [] 30 40
open Classical in
noncomputable def okS (shape : Nat → List DV → DV) : Nat → List DV → Bool := fun f ds => isP (PureOK Try.prog f ds (shape f ds))

theorem evT_ok (shape : Nat → List DV → DV) : EvOK Try.prog (evT (okS shape) shape) := by
  refine ⟨fun f ds d e => ?_, (by intro f xs h v h' e; simp [evT, Ev.nil, Tr.val] at e), (by intro f xs h v h' e; simp [evT, Ev.nil, Tr.val] at e), (by intro l xs h v h' e; simp [evT, Ev.nil, Tr.val] at e)⟩
  simp only [evT, Tr.val] at e
  obtain ⟨h1, h2⟩ := cond_none e
  cases h2
  exact isP_iff.1 h1

theorem evW_ok (fs : List Nat) (shape : Nat → List DV → DV) : EvOK Try.prog (evW fs (okS shape) shape) :=
  evO_ok ae_T ae_Q ae_mixed (fun _ _ h => ae_fn h) (evT_ok shape) fs [] 30 40

/-- A call by its walk. -/
theorem walk {fs : List Nat} {shape : Nat → List DV → DV} {f : FuncId} {fn : Func} {ds : List DV} {d : DV} (h : tget aeF f = some fn) (e : pureE aeC (evW fs (okS shape) shape) 30 f fn ds = some d) : PureOK Try.prog f ds d :=
  ae_direct (evW_ok fs shape) 30 h e

def noS : Nat → List DV → DV := fun _ _ => .nilp

end Go.Proofs.Ytigijjinlalnaaa

/- Chapter 04: what a program must do whatever the input is (21). -/
namespace Go.Proofs.Ytigijjinlalnaaa
open Go Go.AE
set_option maxRecDepth 100000
noncomputable def evA : Ev := evW [] (okS noS) noS
/-- A walk with all calls in it. -/
theorem walkA {f : FuncId} {fn : Func} {ds : List DV} {d : DV} (h : tget aeF f = some fn) (e : pureE aeC evA 30 f fn ds = some d) : PureOK Try.prog f ds d := walk h e
theorem awake_ok : PureOK Try.prog 21 [] (bD true) := walkA (by kernel_rfl : tget aeF 21 = some Try.f21) (by kernel_rfl)
end Go.Proofs.Ytigijjinlalnaaa

/- Chapter 04: a round of games as a table of opponents (52). -/
namespace Go.Proofs.Ytigijjinlalnaaa
open Go Go.AE
set_option maxRecDepth 100000
/-! ### Cells -/
theorem takeN_all : ∀ {α : Type} (l : List α) (n : Nat), l.length = n → takeN n l = some l
  | _, [], _, h => by subst h; rfl
  | _, x :: l, _, h => by subst h; simp [takeN, takeN_all l l.length rfl]
theorem setMany_back {α : Type} : ∀ (l q p : List α), q.length = l.length → setMany (p ++ q) p.length l = p ++ l
  | [], q, p, h => by rw [List.length_eq_zero_iff.1 h]; rfl
  | x :: l, [], p, h => by simp at h
  | x :: l, y :: q, p, h => by
    unfold setMany
    have e : setNth (p ++ y :: q) p.length x = (p ++ [x]) ++ q := by
      rw [setNth_eq, List.set_append_right _ _ (Nat.le_refl _)]; simp
    rw [e]
    have := setMany_back l q (p ++ [x]) (by simpa using h)
    simpa using this
theorem setMany_all {α : Type} {l q : List α} (h : q.length = l.length) : setMany q 0 l = l := setMany_back l q [] h
/-! ### Maps of numbers that are met -/
def esB (S : List Int) : List (DV × DV) := S.map fun a => (iD a, bD true)
theorem key3 (a b : Int) : keyEq aeT 3 (iD a) (iD b) = some (decide (a = b)) := by kernel_rfl
def idxI (a : Int) : List Int → Option Nat
  | [] => none
  | x :: r => if a = x then some 0 else (idxI a r).map (· + 1)
theorem findM_B (a : Int) : ∀ S, findM aeT 3 (iD a) (esB S) = some (idxI a S)
  | [] => rfl
  | x :: S => by
    show (keyEq aeT 3 (iD a) (iD x)).bind (fun b => cond b (some (some 0)) ((findM aeT 3 (iD a) (esB S)).map fun o => o.map (· + 1))) = _
    rw [key3, Option.bind_some, findM_B a S, show idxI a (x :: S) = (if a = x then some 0 else (idxI a S).map (· + 1)) from rfl]
    by_cases h : a = x
    · rw [decide_eq_true h, if_pos h]; rfl
    · rw [decide_eq_false h, if_neg h]; rfl
theorem idxI_none {a : Int} : ∀ {S : List Int}, idxI a S = none ↔ a ∉ S
  | [] => by simp [idxI]
  | x :: S => by
    unfold idxI
    split
    · rename_i h; simp [h]
    · rename_i h; simp [h, idxI_none (S := S)]
theorem idxI_lt {a : Int} : ∀ {S : List Int} {i : Nat}, idxI a S = some i → i < S.length
  | [], i, h => by simp [idxI] at h
  | x :: S, i, h => by
    unfold idxI at h
    split at h
    · cases h; simp
    · simp only [Option.map_eq_some_iff] at h
      obtain ⟨j, h1, rfl⟩ := h
      have := idxI_lt h1
      simp; omega
theorem esB_nth (S : List Int) (i : Nat) : nth (esB S) i = (nth S i).map fun a => (iD a, bD true) := by unfold esB; rw [nth_map]
theorem findV_B (a : Int) (S : List Int) : findV aeT 3 (iD a) (bD false) (esB S) = some (bD (decide (a ∈ S))) := by
  unfold findV
  rw [findM_B, Option.bind_some]
  cases h : idxI a S with
  | none =>
    have := idxI_none.1 h
    rw [decide_eq_false this]
  | some i =>
    have hl := idxI_lt h
    have hm : a ∈ S := Classical.byContradiction fun q => by rw [idxI_none.2 q] at h; cases h
    rw [decide_eq_true hm]
    dsimp only
    rw [esB_nth, nth_eq, List.getElem?_eq_getElem hl]; rfl
theorem putM_B {a : Int} {S : List Int} (h : a ∉ S) : putM aeT 3 (iD a) (bD true) (esB S) = some (esB (S ++ [a])) := by
  unfold putM
  rw [findM_B, idxI_none.2 h, Option.bind_some]
  simp [esB]
/-! ### Rounds -/
/-- Whether a game is none, with those that are met. -/
def badG (n : Int) (S : List Int) (g : Int × Int) : Bool := decide (g.1 < 0) || (decide (g.2 < 0) || (decide (n ≤ g.1) || (decide (n ≤ g.2) || (decide (g.1 = g.2) || (decide (g.1 ∈ S) || decide (g.2 ∈ S))))))
def putG (A : List Int) (g : Int × Int) : List Int := (A.set g.1.toNat g.2).set g.2.toNat g.1
def ofR (n : Int) : List (Int × Int) → List Int → List Int → List Int × Bool
  | [], A, _ => (A, true)
  | g :: r, A, S => bif badG n S g then (A, false) else ofR n r (putG A g) (S ++ [g.1, g.2])
def zero10 : List Int := List.replicate 10 0
/-- A round of games: the opponents; whether it is one. -/
def ofS (n : Int) (l : List (Int × Int)) : List Int × Bool := bif decide ((l.length : Int) = Int.tdiv n 2) then ofR n l zero10 [] else (zero10, false)
def z10 : List DV := [iD 0, iD 0, iD 0, iD 0, iD 0, iD 0, iD 0, iD 0, iD 0, iD 0]
def s52 (n : Int) (L : List DV) (m : Nat) (c z : Bool) (A : List DV) (es : List (DV × DV)) (i : Int) : St := ⟨[(0, .d (iD n)), (4, AV.ref 0 0), (6, AV.ref 1 0), (7, AV.mp 2), (19, .d (DV.sl L m 2 c z)), (20, .d (iD (m : Int))), (21, .d (iD i))], [.dc z10, .dc A, .mp es], []⟩
def e52 (A : List DV) : St := ⟨[(4, AV.ref 0 0), (6, AV.ref 1 0)], [.dc z10, .dc A], []⟩
def x52 (A : List DV) : St := ⟨[(4, AV.ref 0 0), (5, .d (bD false))], [.dc A], []⟩
/-- An array copied. -/
def copyA {X : Type} (A : List DV) (K : List DV → Option X) : Option X :=
  (takeN 10 (List.drop 0 A)).bind fun v => bif Nat.beq (v.map AV.d).length 10 then (bif Nat.ble (0 + v.length) 10 then K (setMany z10 0 v) else none) else none
theorem copyA_ok {X : Type} {A : List DV} (h : A.length = 10) (K : List DV → Option X) : copyA A K = K A := by
  unfold copyA
  rw [List.drop_zero, takeN_all A 10 h, Option.bind_some, List.length_map, h]
  simp only [Nat.beq_refl, cond_true, Nat.zero_add]
  rw [show Nat.ble 10 10 = true from rfl, cond_true, setMany_all (by rw [h]; rfl)]
def bad52 (A : List DV) : Option (Ex × St) := copyA A fun v => some (Ex.ret, x52 v)
noncomputable def W52 (n : Int) (A : List DV) (es : List (DV × DV)) (x0 x1 : Int) (K : List DV → List (DV × DV) → Option (Ex × St)) : Option (Ex × St) :=
  bif decide ((if x1 < x0 then x1 else x0) < 0) then bad52 A else bif decide (n ≤ if x1 > x0 then x1 else x0) then bad52 A else bif decide (x0 = x1) then bad52 A else
  getB (findV aeT 3 (iD x0) (bD false) es) fun y => bif y then bad52 A else getB (findV aeT 3 (iD x1) (bD false) es) fun y => bif y then bad52 A else
  (putM aeT 3 (iD x0) (bD true) es).bind fun e1 => (putM aeT 3 (iD x1) (bD true) e1).bind fun e2 => bif inRange x0 10 then (bif Nat.ble (0 + Int.toNat x0 * 1 + 1) A.length && true then (bif inRange x1 10 then (bif Nat.ble (0 + Int.toNat x1 * 1 + 1) (setNth A (0 + Int.toNat x0 * 1) (iD x1)).length && true then
    K (setNth (setNth A (0 + Int.toNat x0 * 1) (iD x1)) (0 + Int.toNat x1 * 1) (iD x0)) e2 else none) else none) else none) else none
theorem t52_h (n : Int) (L : List DV) (m : Nat) (c z : Bool) : startS aeC Ev.nil 52 0 Try.f52 none ⟨envOf 0 [.d (iD n), .d (.sl L m 2 c z)], [], []⟩ (heldD aeC 52 0) = bif !decide ((m : Int) = IntKind.wrap IntKind.i64 (Int.tdiv n 2)) then none else some (0, s52 n L m c z z10 [] 0) := by kernel_rfl
theorem t52_d (n : Int) (L : List DV) (m : Nat) (c z : Bool) : startS aeC Ev.nil 52 0 Try.f52 none ⟨envOf 0 [.d (iD n), .d (.sl L m 2 c z)], [], []⟩ (doneE aeC Try.f52 0 fun v h => freezeP 52 h v) = bif !decide ((m : Int) = IntKind.wrap IntKind.i64 (Int.tdiv n 2)) then some (DV.tup [DV.agg z10, bD false]) else none := by kernel_rfl
theorem t52_0 (n : Int) (L : List DV) (m : Nat) (c z : Bool) (A : List DV) (es : List (DV × DV)) (i : Int) : startS aeC Ev.nil 52 0 Try.f52 (some 0) (s52 n L m c z A es i) (roundD aeC 52 0 0) =
  bif decide (i < (m : Int)) then (bif inRange i m then (getI (nth L (Int.toNat i * 2)) fun x0 => getI (nth L (Int.toNat i * 2 + 1)) fun x1 => W52 n A es x0 x1 fun A' e => some (Ex.norm, s52 n L m c z A' e (IntKind.wrap IntKind.i64 (i + 1)))) else none) else some (Ex.exit 0, e52 A) := by kernel_rfl
theorem t52_e (A : List DV) : nextS aeC Ev.nil 52 0 Try.f52 none 0 (.exit 0) (e52 A) (doneE aeC Try.f52 0 fun v h => freezeP 52 h v) = copyA A fun v => (takeN 10 (List.drop 0 v)).bind fun u => some (.tup [.agg u, bD true]) := by kernel_rfl
theorem t52_x (A : List DV) : nextS aeC Ev.nil 52 0 Try.f52 none 0 .ret (x52 A) (doneE aeC Try.f52 0 fun v h => freezeP 52 h v) = (takeN 10 (List.drop 0 A)).bind fun u => some (.tup [.agg u, bD false]) := by kernel_rfl
theorem k52 : OkSeg Try.f52 none [0] := ⟨by kernel_rfl, by kernel_rfl, by decide⟩
theorem k52_0 : OkSeg Try.f52 (some 0) [] := ⟨by kernel_rfl, by kernel_rfl, by decide⟩
theorem wr1 {n : Nat} (h : n ≤ 100000) : IntKind.wrap .i64 ((n : Int) + 1) = ((n + 1 : Nat) : Int) := by rw [wrap64_o (by omega) (by omega)]; rfl
theorem putG_len (A : List Int) (g : Int × Int) : (putG A g).length = A.length := by simp [putG]
theorem ofR_len {n : Int} : ∀ (l : List (Int × Int)) (A S : List Int), (ofR n l A S).1.length = A.length
  | [], A, S => rfl
  | g :: r, A, S => by
    unfold ofR
    cases badG n S g with
    | true => rfl
    | false => simp only [cond_false]; rw [ofR_len r, putG_len]
theorem W52_ok {n : Int} (h10 : n ≤ 10) {A S : List Int} (hA : A.length = 10) (g : Int × Int) (K : List DV → List (DV × DV) → Option (Ex × St)) : W52 n (ints A) (esB S) g.1 g.2 K = bif badG n S g then some (Ex.ret, x52 (ints A)) else K (ints (putG A g)) (esB (S ++ [g.1, g.2])) := by
  have hb : bad52 (ints A) = some (Ex.ret, x52 (ints A)) := copyA_ok (by rw [len_ints, hA]) _
  unfold W52 badG
  rw [hb, findV_B, findV_B, getB_some, getB_some]
  by_cases c1 : g.1 < 0
  · rw [decide_eq_true (show (if g.2 < g.1 then g.2 else g.1) < 0 by split <;> omega), decide_eq_true c1]; rfl
  by_cases c2 : g.2 < 0
  · rw [decide_eq_true (show (if g.2 < g.1 then g.2 else g.1) < 0 by split <;> omega), decide_eq_true c2, Bool.true_or, Bool.or_true]; rfl
  rw [decide_eq_false (show ¬ (if g.2 < g.1 then g.2 else g.1) < 0 by split <;> omega), decide_eq_false c1, decide_eq_false c2]
  simp only [cond_false, Bool.false_or]
  by_cases c3 : n ≤ g.1
  · rw [decide_eq_true (show n ≤ (if g.2 > g.1 then g.2 else g.1) by split <;> omega), decide_eq_true c3]; rfl
  by_cases c4 : n ≤ g.2
  · rw [decide_eq_true (show n ≤ (if g.2 > g.1 then g.2 else g.1) by split <;> omega), decide_eq_true c4, Bool.true_or, Bool.or_true]; rfl
  rw [decide_eq_false (show ¬ n ≤ (if g.2 > g.1 then g.2 else g.1) by split <;> omega), decide_eq_false c3, decide_eq_false c4]
  simp only [cond_false, Bool.false_or]
  by_cases c5 : g.1 = g.2
  · rw [decide_eq_true c5]; rfl
  rw [decide_eq_false c5]
  simp only [cond_false, Bool.false_or]
  by_cases c6 : g.1 ∈ S
  · rw [decide_eq_true c6]; rfl
  rw [decide_eq_false c6]
  simp only [cond_false, Bool.false_or]
  by_cases c7 : g.2 ∈ S
  · rw [decide_eq_true c7]; rfl
  rw [decide_eq_false c7]
  simp only [cond_false]
  have h2 : g.2 ∉ S ++ [g.1] := by simp [c7]; exact fun h => c5 h.symm
  have e1 : ∀ x : Int, 0 + Int.toNat x * 1 = Int.toNat x := fun x => by omega
  have i1 : inRange g.1 10 = true := by simp only [inRange, Bool.and_eq_true, decide_eq_true_eq]; omega
  have i2 : inRange g.2 10 = true := by simp only [inRange, Bool.and_eq_true, decide_eq_true_eq]; omega
  rw [putM_B c6, Option.bind_some, putM_B h2, Option.bind_some, i1, i2, e1, e1, setNth_ints_o, setNth_ints_o, len_ints, len_ints, List.length_set, hA]
  rw [show Nat.ble (Int.toNat g.1 + 1) 10 = true by rw [Nat.ble_eq]; omega, show Nat.ble (Int.toNat g.2 + 1) 10 = true by rw [Nat.ble_eq]; omega]
  simp only [Bool.and_true, cond_true]
  rw [List.append_assoc]
  rfl
theorem loop52 {n : Int} (h10 : n ≤ 10) (l : List (Int × Int)) (hl : l.length ≤ 1000) (c z : Bool) : ∀ (r : List (Int × Int)) (i : Nat) (A S : List Int), A.length = 10 → l.drop i = r →
    LoopAt aeC Ev.nil 52 0 Try.f52 0 (s52 n (edD l) l.length c z (ints A) (esB S) i) (bif (ofR n r A S).2 then .exit 0 else .ret) (bif (ofR n r A S).2 then e52 (ints (ofR n r A S).1) else x52 (ints (ofR n r A S).1))
  | [], i, A, S, hA, hd => by
    have := drop_nil_o hd
    exact .out k52_0 (by simp [ofR]) ((t52_0 ..).trans (cnd_neg (by omega)))
  | g :: r, i, A, S, hA, hd => by
    obtain ⟨h1, h2, h3⟩ := drop_cons_o (d := (0, 0)) hd
    have hr : startS aeC Ev.nil 52 0 Try.f52 (some 0) (s52 n (edD l) l.length c z (ints A) (esB S) i) (roundD aeC 52 0 0) = bif badG n S g then some (Ex.ret, x52 (ints A)) else some (Ex.norm, s52 n (edD l) l.length c z (ints (putG A g)) (esB (S ++ [g.1, g.2])) ((i + 1 : Nat) : Int)) := by
      refine (t52_0 ..).trans ((cnd_pos (by omega)).trans ((inR_pos (by omega) (by omega)).trans ?_))
      rw [Int.toNat_natCast, nth_pr1 h1, nth_pr2 h1, h2, getI_some, getI_some, W52_ok h10 hA, wr1 (by omega)]
    unfold ofR
    cases hb : badG n S g with
    | true =>
      rw [hb] at hr
      exact .out k52_0 (by simp) hr
    | false =>
      rw [hb] at hr
      exact .next k52_0 hr (loop52 h10 l hl c z r (i + 1) (putG A g) (S ++ [g.1, g.2]) (by rw [putG_len]; exact hA) h3)
/-- The contract. -/
theorem of_ok {n : Int} (h2 : 2 ≤ n) (h10 : n ≤ 10) (l : List (Int × Int)) (c z : Bool) : PureOK Try.prog 52 [iD n, .sl (edD l) l.length 2 c z] (.tup [.agg (ints (ofS n l).1), bD (ofS n l).2]) := by
  have hw : IntKind.wrap IntKind.i64 (Int.tdiv n 2) = Int.tdiv n 2 := by
    rw [Int.tdiv_eq_ediv_of_nonneg (by omega)]
    exact wrap64_o (by omega) (by omega)
  unfold ofS
  by_cases hm : (l.length : Int) = Int.tdiv n 2
  · rw [decide_eq_true hm, cond_true]
    have hl : l.length ≤ 1000 := by rw [Int.tdiv_eq_ediv_of_nonneg (by omega)] at hm; omega
    have hL := loop52 h10 l hl c z l 0 zero10 [] rfl (List.drop_zero ..)
    have hh : startS aeC Ev.nil 52 0 Try.f52 none ⟨envOf 0 [.d (iD n), .d (.sl (edD l) l.length 2 c z)], [], []⟩ (heldD aeC 52 0) = some (0, s52 n (edD l) l.length c z (ints zero10) (esB []) (0 : Nat)) := by
      refine (t52_h ..).trans ?_
      rw [hw, decide_eq_true hm]; rfl
    have hlen : (ints (ofR n l zero10 []).1).length = 10 := by rw [len_ints, ofR_len]; rfl
    have ht : takeN 10 (List.drop 0 (ints (ofR n l zero10 []).1)) = some (ints (ofR n l zero10 []).1) := by rw [List.drop_zero, takeN_all _ _ hlen]
    cases hb : (ofR n l zero10 []).2 with
    | true =>
      rw [hb] at hL
      refine ae_pure EvOK.nil (fn := Try.f52) k52 (by kernel_rfl) (by kernel_rfl) ((startF_seg k52 hh hL).trans (nextF_done k52 done_plain ((t52_e ..).trans ?_)))
      rw [copyA_ok hlen, ht]; rfl
    | false =>
      rw [hb] at hL
      refine ae_pure EvOK.nil (fn := Try.f52) k52 (by kernel_rfl) (by kernel_rfl) ((startF_seg k52 hh hL).trans (nextF_done k52 done_plain ((t52_x ..).trans ?_)))
      rw [ht]; rfl
  · rw [decide_eq_false hm, cond_false]
    refine ae_pure EvOK.nil (fn := Try.f52) k52 (by kernel_rfl) (by kernel_rfl) (startF_done k52 done_plain ((t52_d ..).trans ?_))
    rw [hw, decide_eq_false hm]; rfl
end Go.Proofs.Ytigijjinlalnaaa

/- Chapter 04: the document's Round (16): bits that are met. -/
namespace Go.Proofs.Ytigijjinlalnaaa
open Go Go.AE
set_option maxRecDepth 100000
def orI (a b : Int) : Int := IntKind.wrap .i64 (BitVec.ofInt IntKind.i64.bits a ||| BitVec.ofInt IntKind.i64.bits b).toNat
def shlI (a : Int) : Int := IntKind.wrap .i64 (1 * 2 ^ (min a.toNat IntKind.i64.bits))
def bitI (w a : Int) : Bool := decide (Int.tmod (Int.fdiv w (2 ^ min (Int.toNat a) 64)) 2 = 1)
theorem or_ok : ∀ N < 1024, ∀ a < 10, orI (N : Nat) (shlI (a : Nat)) = ((N ||| 2 ^ a : Nat) : Int) := by decide +kernel
theorem bit_ok : ∀ N < 1024, ∀ a < 10, bitI (N : Nat) (a : Nat) = N.testBit a := by decide +kernel
/-- Numbers as bits. -/
def maskN (S : List Int) : Nat := S.foldl (fun w x => w ||| 2 ^ x.toNat) 0
theorem mask_from (S : List Int) : ∀ w : Nat, S.foldl (fun w x => w ||| 2 ^ x.toNat) w = w ||| maskN S := by
  induction S with
  | nil => intro w; simp [maskN]
  | cons x S ih =>
    intro w
    show S.foldl _ (w ||| 2 ^ x.toNat) = w ||| S.foldl _ (0 ||| 2 ^ x.toNat)
    rw [ih, ih (0 ||| 2 ^ x.toNat), Nat.zero_or, Nat.or_assoc]
theorem mask_push (S : List Int) (x : Int) : maskN (S ++ [x]) = maskN S ||| 2 ^ x.toNat := by simp [maskN]
def smallI (S : List Int) : Prop := ∀ x ∈ S, 0 ≤ x ∧ x < 10
theorem mask_lt : ∀ {S : List Int}, smallI S → maskN S < 1024
  | [], _ => by decide
  | x :: S, h => by
    have h1 : maskN (x :: S) = 2 ^ x.toNat ||| maskN S := by
      show S.foldl _ (0 ||| 2 ^ x.toNat) = _
      rw [mask_from, Nat.zero_or]
    rw [h1]
    have hx := h x (List.mem_cons_self ..)
    refine Nat.or_lt_two_pow (n := 10) ?_ (mask_lt fun y hy => h y (List.mem_cons_of_mem _ hy))
    exact Nat.pow_lt_pow_right (by omega) (by omega)
theorem mask_bit : ∀ {S : List Int}, smallI S → ∀ a : Nat, (maskN S).testBit a = decide ((a : Int) ∈ S)
  | [], _, a => by simp [maskN]
  | x :: S, h, a => by
    have h1 : maskN (x :: S) = 2 ^ x.toNat ||| maskN S := by
      show S.foldl _ (0 ||| 2 ^ x.toNat) = _
      rw [mask_from, Nat.zero_or]
    have hx := h x (List.mem_cons_self ..)
    rw [h1, Nat.testBit_or, mask_bit (fun y hy => h y (List.mem_cons_of_mem _ hy)), Nat.testBit_two_pow]
    rw [Bool.eq_iff_iff]
    simp only [Bool.or_eq_true, decide_eq_true_eq, List.mem_cons]
    constructor
    · rintro (h | h)
      · left; omega
      · exact .inr h
    · rintro (h | h)
      · left; omega
      · exact .inr h
def s16 (n : Int) (L : List DV) (m : Nat) (c z : Bool) (w i : Int) : St := ⟨[(0, .d (iD n)), (1, .d (.sl L m 2 c z)), (5, .d (iD w)), (6, .d (iD i))], [], []⟩
def no4 : St := ⟨[(4, .d (bD false))], [], []⟩
def W16 (n x0 x1 w : Int) (K : Int → Option (Ex × St)) : Option (Ex × St) :=
  bif decide (x0 < 0) then some (Ex.ret, no4) else bif decide (x1 < 0) then some (Ex.ret, no4) else bif decide (n ≤ x0) then some (Ex.ret, no4) else bif decide (n ≤ x1) then some (Ex.ret, no4) else bif decide (x0 = x1) then some (Ex.ret, no4) else
  bif decide (x0 < 0) then none else bif bitI w x0 then some (Ex.ret, no4) else bif decide (x1 < 0) then none else bif bitI w x1 then some (Ex.ret, no4) else bif decide (x0 < 0) then none else bif decide (x1 < 0) then none else K (orI (orI w (shlI x0)) (shlI x1))
theorem t16_h (n : Int) (L : List DV) (m : Nat) (c z : Bool) : startS aeC Ev.nil 16 0 Try.f16 none ⟨envOf 0 [.d (iD n), .d (.sl L m 2 c z)], [], []⟩ (heldD aeC 16 0) = some (0, s16 n L m c z 0 0) := by kernel_rfl
theorem t16_0 (n : Int) (L : List DV) (m : Nat) (c z : Bool) (w i : Int) : startS aeC Ev.nil 16 0 Try.f16 (some 0) (s16 n L m c z w i) (roundD aeC 16 0 0) =
  bif decide (i < (m : Int)) then (bif inRange i m then (getI (nth L (Int.toNat i * 2 + 0)) fun x0 => bif inRange i m then (getI (nth L (Int.toNat i * 2 + 1)) fun x1 => W16 n x0 x1 w fun w' => some (Ex.norm, s16 n L m c z w' (IntKind.wrap IntKind.i64 (i + 1)))) else none) else none)
  else some (Ex.exit 0, ⟨[(0, .d (iD n)), (1, .d (DV.sl L m 2 c z))], [], []⟩) := by kernel_rfl
theorem t16_e (n : Int) (L : List DV) (m : Nat) (c z : Bool) : nextS aeC Ev.nil 16 0 Try.f16 none 0 (.exit 0) ⟨[(0, .d (iD n)), (1, .d (.sl L m 2 c z))], [], []⟩ (doneE aeC Try.f16 0 fun v h => freezeP 16 h v) = some (bD (decide ((m : Int) = IntKind.wrap IntKind.i64 (Int.tdiv n 2)))) := by kernel_rfl
theorem t16_x : nextS aeC Ev.nil 16 0 Try.f16 none 0 .ret no4 (doneE aeC Try.f16 0 fun v h => freezeP 16 h v) = some (bD false) := by kernel_rfl
theorem k16 : OkSeg Try.f16 none [0] := ⟨by kernel_rfl, by kernel_rfl, by decide⟩
theorem k16_0 : OkSeg Try.f16 (some 0) [] := ⟨by kernel_rfl, by kernel_rfl, by decide⟩
/-- Whether games are all new. -/
def newR (n : Int) : List (Int × Int) → List Int → Bool
  | [], _ => true
  | g :: r, S => bif badG n S g then false else newR n r (S ++ [g.1, g.2])
theorem ofR_new {n : Int} : ∀ (l : List (Int × Int)) (A S : List Int), (ofR n l A S).2 = newR n l S
  | [], A, S => rfl
  | g :: r, A, S => by
    unfold ofR newR
    cases badG n S g with
    | true => rfl
    | false => simp only [cond_false]; exact ofR_new r _ _
theorem W16_ok {n : Int} (h10 : n ≤ 10) {S : List Int} (hS : smallI S) (g : Int × Int) (K : Int → Option (Ex × St)) : W16 n g.1 g.2 (maskN S : Nat) K = bif badG n S g then some (Ex.ret, no4) else K (maskN (S ++ [g.1, g.2]) : Nat) := by
  unfold W16 badG
  by_cases c1 : g.1 < 0
  · rw [decide_eq_true c1]; rfl
  by_cases c2 : g.2 < 0
  · rw [decide_eq_false c1, decide_eq_true c2]; rfl
  by_cases c3 : n ≤ g.1
  · rw [decide_eq_false c1, decide_eq_false c2, decide_eq_true c3]; rfl
  by_cases c4 : n ≤ g.2
  · rw [decide_eq_false c1, decide_eq_false c2, decide_eq_false c3, decide_eq_true c4]; rfl
  by_cases c5 : g.1 = g.2
  · rw [decide_eq_false c1, decide_eq_false c2, decide_eq_false c3, decide_eq_false c4, decide_eq_true c5]; rfl
  obtain ⟨a, ha⟩ : ∃ a : Nat, g.1 = a := ⟨g.1.toNat, by omega⟩
  obtain ⟨b, hb⟩ : ∃ b : Nat, g.2 = b := ⟨g.2.toNat, by omega⟩
  have hl := mask_lt hS
  have b1 : bitI (maskN S : Nat) g.1 = decide (g.1 ∈ S) := by rw [ha, bit_ok _ hl a (by omega), mask_bit hS]
  have b2 : bitI (maskN S : Nat) g.2 = decide (g.2 ∈ S) := by rw [hb, bit_ok _ hl b (by omega), mask_bit hS]
  rw [decide_eq_false c1, decide_eq_false c2, decide_eq_false c3, decide_eq_false c4, decide_eq_false c5, b1, b2]
  simp only [cond_false, Bool.false_or]
  by_cases c6 : g.1 ∈ S
  · rw [decide_eq_true c6]; rfl
  by_cases c7 : g.2 ∈ S
  · rw [decide_eq_false c6, decide_eq_true c7]; rfl
  rw [decide_eq_false c6, decide_eq_false c7]
  simp only [cond_false, Bool.or_self]
  have o1 : orI (maskN S : Nat) (shlI g.1) = (maskN (S ++ [g.1]) : Nat) := by rw [ha, or_ok _ hl a (by omega), mask_push]; simp
  have hS1 : smallI (S ++ [g.1]) := by
    intro x hx
    rcases List.mem_append.1 hx with hx | hx
    · exact hS x hx
    · simp only [List.mem_singleton] at hx; omega
  have o2 : orI (maskN (S ++ [g.1]) : Nat) (shlI g.2) = (maskN (S ++ [g.1, g.2]) : Nat) := by
    rw [hb, or_ok _ (mask_lt hS1) b (by omega), show S ++ [g.1, (b : Int)] = (S ++ [g.1]) ++ [(b : Int)] by simp, mask_push (S ++ [g.1]) (b : Int), Int.toNat_natCast]
  rw [o1, o2]
theorem badG_small {n : Int} (h10 : n ≤ 10) {S : List Int} (hS : smallI S) {g : Int × Int} (h : badG n S g = false) : smallI (S ++ [g.1, g.2]) := by
  simp only [badG, Bool.or_eq_false_iff, decide_eq_false_iff_not] at h
  intro x hx
  rcases List.mem_append.1 hx with hx | hx
  · exact hS x hx
  · simp only [List.mem_cons, List.not_mem_nil, or_false] at hx
    rcases hx with rfl | rfl <;> omega
theorem loop16 {n : Int} (h10 : n ≤ 10) (l : List (Int × Int)) (hl : l.length < 9223372036854775808) (c z : Bool) : ∀ (r : List (Int × Int)) (i : Nat) (S : List Int), smallI S → l.drop i = r →
    LoopAt aeC Ev.nil 16 0 Try.f16 0 (s16 n (edD l) l.length c z (maskN S : Nat) i) (bif newR n r S then .exit 0 else .ret) (bif newR n r S then ⟨[(0, .d (iD n)), (1, .d (DV.sl (edD l) l.length 2 c z))], [], []⟩ else no4)
  | [], i, S, hS, hd => by
    have := drop_nil_o hd
    exact .out k16_0 (by simp [newR]) ((t16_0 ..).trans (cnd_neg (by omega)))
  | g :: r, i, S, hS, hd => by
    obtain ⟨h1, h2, h3⟩ := drop_cons_o (d := (0, 0)) hd
    have hw : IntKind.wrap .i64 ((i : Int) + 1) = ((i + 1 : Nat) : Int) := by rw [wrap64_o (by omega) (by omega)]; rfl
    have hr : startS aeC Ev.nil 16 0 Try.f16 (some 0) (s16 n (edD l) l.length c z (maskN S : Nat) i) (roundD aeC 16 0 0) = bif badG n S g then some (Ex.ret, no4) else some (Ex.norm, s16 n (edD l) l.length c z (maskN (S ++ [g.1, g.2]) : Nat) ((i + 1 : Nat) : Int)) := by
      refine (t16_0 ..).trans ((cnd_pos (by omega)).trans ((inR_pos (by omega) (by omega)).trans ?_))
      rw [Int.toNat_natCast, Nat.add_zero, nth_pr1 h1, h2, getI_some]
      refine (inR_pos (by omega) (by omega)).trans ?_
      rw [nth_pr2 h1, h2, getI_some, W16_ok h10 hS, hw]
    unfold newR
    cases hb : badG n S g with
    | true =>
      rw [hb] at hr
      exact .out k16_0 (by simp) hr
    | false =>
      rw [hb] at hr
      exact .next k16_0 hr (loop16 h10 l hl c z r (i + 1) _ (badG_small h10 hS hb) h3)
/-- Whether games are a round. -/
def roundB (n : Int) (l : List (Int × Int)) : Bool := newR n l [] && decide ((l.length : Int) = Int.tdiv n 2)
theorem of_round (n : Int) (l : List (Int × Int)) : (ofS n l).2 = roundB n l := by
  unfold ofS roundB
  by_cases h : (l.length : Int) = Int.tdiv n 2
  · rw [decide_eq_true h, Bool.and_true, cond_true, ofR_new]
  · rw [decide_eq_false h, Bool.and_false]; rfl
/-- The contract of the document's Round. -/
theorem round_ok {n : Int} (h2 : 2 ≤ n) (h10 : n ≤ 10) (l : List (Int × Int)) (hl : l.length < 9223372036854775808) (c z : Bool) : PureOK Try.prog 16 [iD n, .sl (edD l) l.length 2 c z] (bD (roundB n l)) := by
  have hw : IntKind.wrap IntKind.i64 (Int.tdiv n 2) = Int.tdiv n 2 := by
    rw [Int.tdiv_eq_ediv_of_nonneg (by omega)]
    exact wrap64_o (by omega) (by omega)
  have hL := loop16 h10 l hl c z l 0 [] (by intro x hx; simp at hx) (List.drop_zero ..)
  unfold roundB
  cases hb : newR n l [] with
  | true =>
    rw [hb] at hL
    refine ae_pure EvOK.nil (fn := Try.f16) k16 (by kernel_rfl) (by kernel_rfl) ((startF_seg k16 (t16_h ..) hL).trans (nextF_done k16 done_plain ((t16_e ..).trans ?_)))
    rw [hw]; rfl
  | false =>
    rw [hb] at hL
    exact ae_pure EvOK.nil (fn := Try.f16) k16 (by kernel_rfl) (by kernel_rfl) ((startF_seg k16 (t16_h ..) hL).trans (nextF_done k16 done_plain t16_x))
end Go.Proofs.Ytigijjinlalnaaa

/- Chapter 04: who plays with whom, in plain Lean; Home (54). -/
namespace Go.Proofs.Ytigijjinlalnaaa
open Go Go.AE
set_option maxRecDepth 100000
/-! ### Lists without repeats -/
theorem nodup_sub {α : Type} [DecidableEq α] : ∀ {l m : List α}, l.Nodup → (∀ x ∈ l, x ∈ m) → l.length ≤ m.length
  | [], _, _, _ => Nat.zero_le _
  | x :: l, m, hn, hs => by
    rw [List.nodup_cons] at hn
    have hx := hs x (List.mem_cons_self ..)
    have h1 := nodup_sub (l := l) (m := m.erase x) hn.2 fun y hy => by
      refine (List.mem_erase_of_ne ?_).2 (hs y (List.mem_cons_of_mem _ hy))
      rintro rfl
      exact hn.1 hy
    rw [List.length_erase_of_mem hx] at h1
    have : 0 < m.length := List.length_pos_of_mem hx
    simp only [List.length_cons]; omega
theorem nodup_full {α : Type} [DecidableEq α] {l m : List α} (hn : l.Nodup) (hs : ∀ x ∈ l, x ∈ m) (hl : m.length ≤ l.length) : ∀ x ∈ m, x ∈ l := by
  intro x hx
  apply Classical.byContradiction
  intro hc
  have := nodup_sub (l := x :: l) (m := m) (by rw [List.nodup_cons]; exact ⟨hc, hn⟩) (by
    intro y hy
    rcases List.mem_cons.1 hy with rfl | hy
    · exact hx
    · exact hs y hy)
  simp only [List.length_cons] at this
  omega
/-- The numbers from 0 on. -/
def upto : Nat → List Int
  | 0 => []
  | n + 1 => upto n ++ [(n : Int)]
theorem upto_mem {n : Nat} {x : Int} : x ∈ upto n ↔ 0 ≤ x ∧ x < n := by
  induction n with
  | zero => simp only [upto, List.not_mem_nil, false_iff]; omega
  | succ n ih => unfold upto; rw [List.mem_append, ih, List.mem_singleton]; omega
theorem upto_len (n : Nat) : (upto n).length = n := by
  induction n with
  | zero => rfl
  | succ n ih => unfold upto; rw [List.length_append, ih]; rfl
theorem upto_nodup (n : Nat) : (upto n).Nodup := by
  induction n with
  | zero => simp [upto]
  | succ n ih =>
    unfold upto
    rw [List.nodup_append]
    refine ⟨ih, by simp, ?_⟩
    intro x hx y hy
    simp only [List.mem_singleton] at hy
    subst hy
    have := upto_mem.1 hx
    omega
/-! ### Opponents -/
def homeS : List (Int × Int) → Int → Bool × Int
  | [], _ => (false, -1)
  | g :: r, t => if g.1 = t then (true, g.2) else if g.2 = t then (false, g.1) else homeS r t
/-- With whom a team plays. -/
def oppS : List (Int × Int) → Int → Option Int
  | [], _ => none
  | g :: r, t => if g.1 = t then some g.2 else if g.2 = t then some g.1 else oppS r t
theorem home_opp : ∀ (l : List (Int × Int)) (t : Int), (homeS l t).2 = (oppS l t).getD (-1)
  | [], _ => rfl
  | g :: r, t => by
    unfold homeS oppS
    split
    · rfl
    · split
      · rfl
      · exact home_opp r t
def elsS (l : List (Int × Int)) : List Int := l.flatMap fun g => [g.1, g.2]
theorem opp_none {t : Int} : ∀ {l : List (Int × Int)}, oppS l t = none ↔ t ∉ elsS l
  | [] => by simp [oppS, elsS]
  | g :: r => by
    have : elsS (g :: r) = g.1 :: g.2 :: elsS r := by simp [elsS]
    rw [this]
    unfold oppS
    split
    · rename_i h; simp [h]
    · rename_i h1
      split
      · rename_i h; simp [h]
      · rename_i h2
        rw [opp_none]
        simp only [List.mem_cons, not_or]
        exact ⟨fun h => ⟨Ne.symm h1, Ne.symm h2, h⟩, fun h => h.2.2⟩
/-- What new games are. -/
theorem newR_els {n : Int} : ∀ {l : List (Int × Int)} {S : List Int}, newR n l S = true → (elsS l).Nodup ∧ (∀ x ∈ elsS l, 0 ≤ x ∧ x < n) ∧ ∀ x ∈ elsS l, x ∉ S
  | [], S, _ => by simp [elsS]
  | g :: r, S, h => by
    have e : elsS (g :: r) = g.1 :: g.2 :: elsS r := by simp [elsS]
    unfold newR at h
    cases hb : badG n S g with
    | true => rw [hb] at h; cases h
    | false =>
      rw [hb, cond_false] at h
      obtain ⟨k1, k2, k3⟩ := newR_els h
      simp only [badG, Bool.or_eq_false_iff, decide_eq_false_iff_not] at hb
      obtain ⟨b1, b2, b3, b4, b5, b6, b7⟩ := hb
      rw [e]
      have n1 : g.1 ∉ elsS r := fun q => k3 _ q (by simp)
      have n2 : g.2 ∉ elsS r := fun q => k3 _ q (by simp)
      refine ⟨?_, ?_, ?_⟩
      · rw [List.nodup_cons, List.nodup_cons]
        exact ⟨by simp only [List.mem_cons, not_or]; exact ⟨b5, n1⟩, n2, k1⟩
      · intro x hx
        simp only [List.mem_cons] at hx
        rcases hx with rfl | rfl | hx
        · omega
        · omega
        · exact k2 x hx
      · intro x hx
        simp only [List.mem_cons] at hx
        rcases hx with rfl | rfl | hx
        · exact b6
        · exact b7
        · exact fun q => k3 x hx (by simp [q])
theorem opp_back : ∀ {l : List (Int × Int)} {t u : Int}, (elsS l).Nodup → oppS l t = some u → oppS l u = some t ∧ u ∈ elsS l ∧ t ≠ u
  | [], t, u, _, h => by simp [oppS] at h
  | g :: r, t, u, hn, h => by
    have e : elsS (g :: r) = g.1 :: g.2 :: elsS r := by simp [elsS]
    rw [e, List.nodup_cons, List.nodup_cons] at hn
    simp only [List.mem_cons, not_or] at hn
    obtain ⟨⟨h12, h1r⟩, h2r, hr⟩ := hn
    rw [e]
    unfold oppS at h ⊢
    split at h
    · rename_i q
      cases h
      subst q
      rw [if_neg h12, if_pos rfl]
      exact ⟨rfl, by simp, h12⟩
    · rename_i q1
      split at h
      · rename_i q2
        cases h
        subst q2
        rw [if_pos rfl]
        exact ⟨rfl, by simp, Ne.symm h12⟩
      · rename_i q2
        obtain ⟨k1, k2, k3⟩ := opp_back hr h
        have n1 : g.1 ≠ u := by rintro rfl; exact h1r k2
        have n2 : g.2 ≠ u := by rintro rfl; exact h2r k2
        rw [if_neg n1, if_neg n2]
        exact ⟨k1, by simp [k2], k3⟩
/-- The table of opponents. -/
theorem ofR_at {n : Int} (h10 : n ≤ 10) : ∀ {l : List (Int × Int)} {A S : List Int}, newR n l S = true → A.length = 10 → ∀ t : Nat, (ofR n l A S).1.getD t 0 = (oppS l t).getD (A.getD t 0)
  | [], A, S, _, _, t => rfl
  | g :: r, A, S, h, hA, t => by
    have hels := newR_els (l := g :: r) h
    have e : elsS (g :: r) = g.1 :: g.2 :: elsS r := by simp [elsS]
    rw [e, List.nodup_cons, List.nodup_cons] at hels
    simp only [List.mem_cons, not_or] at hels
    obtain ⟨⟨⟨h12, h1r⟩, h2r, hr⟩, hb, _⟩ := hels
    have b1 := hb g.1 (by simp)
    have b2 := hb g.2 (by simp)
    unfold newR at h
    unfold ofR
    cases hbd : badG n S g with
    | true => rw [hbd] at h; cases h
    | false =>
      rw [hbd, cond_false] at h
      rw [cond_false, ofR_at h10 h (by rw [putG_len]; exact hA) t]
      have hput : (putG A g).getD t 0 = if g.1 = (t : Int) then g.2 else if g.2 = (t : Int) then g.1 else A.getD t 0 := by
        unfold putG
        rw [List.getD_eq_getElem?_getD, List.getElem?_set, List.getElem?_set]
        by_cases q2 : g.2 = (t : Int)
        · rw [if_pos (by omega), if_pos (by simp; omega), if_neg (by omega), if_pos q2]; rfl
        · rw [if_neg (by omega)]
          by_cases q1 : g.1 = (t : Int)
          · rw [if_pos (by omega), if_pos (by omega), if_pos q1]; rfl
          · rw [if_neg (by omega), if_neg q1, if_neg q2, List.getD_eq_getElem?_getD]
      rw [hput]
      show _ = (if g.1 = (t : Int) then some g.2 else if g.2 = (t : Int) then some g.1 else oppS r t).getD (A.getD t 0)
      by_cases q1 : g.1 = (t : Int)
      · rw [if_pos q1, if_pos q1, opp_none.2 (by rw [← q1]; exact h1r)]; rfl
      · rw [if_neg q1, if_neg q1]
        by_cases q2 : g.2 = (t : Int)
        · rw [if_pos q2, if_pos q2, opp_none.2 (by rw [← q2]; exact h2r)]; rfl
        · rw [if_neg q2, if_neg q2]
theorem els_len (l : List (Int × Int)) : (elsS l).length = 2 * l.length := by
  induction l with
  | nil => rfl
  | cons g l ih =>
    have e : elsS (g :: l) = g.1 :: g.2 :: elsS l := by simp [elsS]
    rw [e]; simp only [List.length_cons, ih]; omega
/-- In a round each team has an opponent, and is theirs. -/
theorem round_opp {n : Nat} (hev : n % 2 = 0) {l : List (Int × Int)} (h : roundB n l = true) : ∀ t : Int, 0 ≤ t → t < n → ∃ u, oppS l t = some u ∧ 0 ≤ u ∧ u < n ∧ u ≠ t ∧ oppS l u = some t := by
  intro t h0 h1
  simp only [roundB, Bool.and_eq_true, decide_eq_true_eq] at h
  obtain ⟨hnew, hlen⟩ := h
  rw [Int.tdiv_eq_ediv_of_nonneg (by omega)] at hlen
  obtain ⟨k1, k2, _⟩ := newR_els hnew
  have hl : (upto n).length ≤ (elsS l).length := by rw [upto_len, els_len]; omega
  have hm := nodup_full k1 (m := upto n) (fun x hx => upto_mem.2 (k2 x hx)) hl t (upto_mem.2 ⟨h0, h1⟩)
  cases ho : oppS l t with
  | none => exact absurd hm (opp_none.1 ho)
  | some u =>
    obtain ⟨q1, q2, q3⟩ := opp_back k1 ho
    have := k2 u q2
    exact ⟨u, rfl, this.1, this.2, Ne.symm q3, q1⟩
/-! ### Home -/
def s54 (L : List DV) (m : Nat) (c z : Bool) (t i : Int) : St := ⟨[(0, .d (.sl L m 2 c z)), (1, .d (iD t)), (6, .d (iD i))], [], []⟩
def x54 (b : Bool) (u : Int) : St := ⟨[(4, .d (bD b)), (5, .d (iD u))], [], []⟩
theorem t54_h (L : List DV) (m : Nat) (c z : Bool) (t : Int) : startS aeC Ev.nil 54 0 Try.f54 none ⟨envOf 0 [.d (.sl L m 2 c z), .d (iD t)], [], []⟩ (heldD aeC 54 0) = some (0, s54 L m c z t 0) := by kernel_rfl
theorem t54_0 (L : List DV) (m : Nat) (c z : Bool) (t i : Int) : startS aeC Ev.nil 54 0 Try.f54 (some 0) (s54 L m c z t i) (roundD aeC 54 0 0) =
  bif decide (i < (m : Int)) then (bif inRange i m then (getI (nth L (Int.toNat i * 2 + 0)) fun x0 => bif decide (x0 = t) then (bif inRange i m then (getI (nth L (Int.toNat i * 2 + 1)) fun x1 => some (Ex.ret, x54 true x1)) else none) else
    bif inRange i m then (getI (nth L (Int.toNat i * 2 + 1)) fun x2 => bif decide (x2 = t) then (bif inRange i m then (getI (nth L (Int.toNat i * 2 + 0)) fun x3 => some (Ex.ret, x54 false x3)) else none) else some (Ex.norm, s54 L m c z t (IntKind.wrap IntKind.i64 (i + 1)))) else none) else none)
  else some (Ex.exit 0, ⟨[], [], []⟩) := by kernel_rfl
theorem t54_e  : nextS aeC Ev.nil 54 0 Try.f54 none 0 (.exit 0) ⟨[], [], []⟩ (doneE aeC Try.f54 0 fun v h => freezeP 54 h v) = some (DV.tup [bD false, iD (-1)]) := by kernel_rfl
theorem t54_r (b : Bool) (u : Int) : nextS aeC Ev.nil 54 0 Try.f54 none 0 .ret (x54 b u) (doneE aeC Try.f54 0 fun v h => freezeP 54 h v) = some (DV.tup [bD b, iD u]) := by kernel_rfl
theorem k54 : OkSeg Try.f54 none [0] := ⟨by kernel_rfl, by kernel_rfl, by decide⟩
theorem k54_0 : OkSeg Try.f54 (some 0) [] := ⟨by kernel_rfl, by kernel_rfl, by decide⟩
theorem loop54 (l : List (Int × Int)) (hl : l.length < 9223372036854775808) (c z : Bool) (t : Int) : ∀ (r : List (Int × Int)) (i : Nat), l.drop i = r →
    LoopAt aeC Ev.nil 54 0 Try.f54 0 (s54 (edD l) l.length c z t i) (bif (oppS r t).isSome then .ret else .exit 0) (bif (oppS r t).isSome then x54 (homeS r t).1 (homeS r t).2 else ⟨[], [], []⟩)
  | [], i, hd => by
    have := drop_nil_o hd
    exact .out k54_0 (by simp [oppS]) ((t54_0 ..).trans (cnd_neg (by omega)))
  | g :: r, i, hd => by
    obtain ⟨h1, h2, h3⟩ := drop_cons_o (d := (0, 0)) hd
    have hw : IntKind.wrap .i64 ((i : Int) + 1) = ((i + 1 : Nat) : Int) := by rw [wrap64_o (by omega) (by omega)]; rfl
    have hr : startS aeC Ev.nil 54 0 Try.f54 (some 0) (s54 (edD l) l.length c z t i) (roundD aeC 54 0 0) = bif decide (g.1 = t) then some (Ex.ret, x54 true g.2) else bif decide (g.2 = t) then some (Ex.ret, x54 false g.1) else some (Ex.norm, s54 (edD l) l.length c z t ((i + 1 : Nat) : Int)) := by
      refine (t54_0 ..).trans ((cnd_pos (by omega)).trans ((inR_pos (by omega) (by omega)).trans ?_))
      have hi : inRange (i : Int) l.length = true := by simp only [inRange, Bool.and_eq_true, decide_eq_true_eq]; omega
      rw [Int.toNat_natCast, Nat.add_zero, nth_pr1 h1, nth_pr2 h1, h2, hw, hi]
      rfl
    unfold oppS homeS
    by_cases q1 : g.1 = t
    · rw [decide_eq_true q1] at hr
      rw [if_pos q1, if_pos q1]
      exact .out k54_0 (by simp) hr
    · rw [decide_eq_false q1] at hr
      rw [if_neg q1, if_neg q1]
      by_cases q2 : g.2 = t
      · rw [decide_eq_true q2] at hr
        rw [if_pos q2, if_pos q2]
        exact .out k54_0 (by simp) hr
      · rw [decide_eq_false q2] at hr
        rw [if_neg q2, if_neg q2]
        exact .next k54_0 hr (loop54 l hl c z t r (i + 1) h3)
/-- The contract of Home. -/
theorem home_ok (l : List (Int × Int)) (hl : l.length < 9223372036854775808) (c z : Bool) (t : Int) : PureOK Try.prog 54 [.sl (edD l) l.length 2 c z, iD t] (.tup [bD (homeS l t).1, iD (homeS l t).2]) := by
  have hL := loop54 l hl c z t l 0 (List.drop_zero ..)
  cases ho : (oppS l t).isSome with
  | true =>
    rw [ho] at hL
    exact ae_pure EvOK.nil (fn := Try.f54) k54 (by kernel_rfl) (by kernel_rfl) ((startF_seg k54 (t54_h ..) hL).trans (nextF_done k54 done_plain (t54_r ..)))
  | false =>
    rw [ho] at hL
    have hn : homeS l t = (false, -1) := by
      have hno : oppS l t = none := by cases h : oppS l t with | none => rfl | some u => rw [h] at ho; cases ho
      have : ∀ l : List (Int × Int), oppS l t = none → homeS l t = (false, -1) := by
        intro l
        induction l with
        | nil => intro _; rfl
        | cons g r ih =>
          intro h
          unfold oppS at h
          unfold homeS
          split at h
          · cases h
          · rename_i q1
            split at h
            · cases h
            · rename_i q2
              rw [if_neg q1, if_neg q2]; exact ih h
      exact this l hno
    rw [hn]
    exact ae_pure EvOK.nil (fn := Try.f54) k54 (by kernel_rfl) (by kernel_rfl) ((startF_seg k54 (t54_h ..) hL).trans (nextF_done k54 done_plain t54_e))
end Go.Proofs.Ytigijjinlalnaaa

/- Chapter 04: rings of two rounds, in plain Lean. -/
namespace Go.Proofs.Ytigijjinlalnaaa
open Go Go.AE
/-- Pairs without a team alone. -/
def Inv (n : Nat) (f : Int → Int) : Prop := ∀ x : Int, 0 ≤ x → x < n → 0 ≤ f x ∧ f x < n ∧ f x ≠ x ∧ f (f x) = x
def cyc (f g : Int → Int) (t : Int) : Nat → Int → List Int
  | 0, _ => []
  | k + 1, y => y :: f y :: (if g (f y) = t then [] else cyc f g t k (g (f y)))
/-- How a walk goes. -/
def WalkOK (n : Nat) (f g : Int → Int) (t : Int) (M : List Int) : Nat → List Int → Int → Prop
  | 0, _, _ => False
  | k + 1, P, y => (0 ≤ y ∧ y < n) ∧ y ∉ M ++ P ∧ f y ∉ M ++ P ∧ (if g (f y) = t then t ∈ P ++ [y, f y] else WalkOK n f g t M k (P ++ [y, f y]) (g (f y)))
def closedF (f : Int → Int) (S : List Int) : Prop := ∀ x ∈ S, f x ∈ S
def inN (n : Nat) (S : List Int) : Prop := ∀ x ∈ S, 0 ≤ x ∧ x < n
theorem walk_ok {n : Nat} {f g : Int → Int} (hf : Inv n f) (hg : Inv n g) {M : List Int} (hMf : closedF f M) (hMg : closedF g M) (hMn : M.Nodup) (hMi : inN n M) {t : Int} (ht : t ∉ M) (ht0 : 0 ≤ t) (htn : t < n) : ∀ (k : Nat) (P : List Int) (z y : Int), n < P.length + 2 * k + 1 → (M ++ P).Nodup → inN n P → closedF f P → 0 ≤ y → y < n → y ∉ M ++ P → ((P = [] ∧ y = t) ∨ (y = g z ∧ z ∈ P ∧ z ≠ t ∧ t ∈ P ∧ y ≠ t ∧ ∀ x ∈ P, x ≠ t → x ≠ z → g x ∈ P ∧ g x ≠ t ∧ g x ≠ z)) →
    WalkOK n f g t M k P y ∧ (M ++ (P ++ cyc f g t k y)).Nodup ∧ inN n (P ++ cyc f g t k y) ∧ closedF f (P ++ cyc f g t k y) ∧ closedF g (P ++ cyc f g t k y)
  | 0, P, z, y, hk, hn, hi, hcf, hy0, hyn, hy, hz => by
    exfalso
    have h1 := nodup_sub (l := y :: (M ++ P)) (m := upto n) (by rw [List.nodup_cons]; exact ⟨hy, hn⟩) (by
      intro x hx
      rcases List.mem_cons.1 hx with rfl | hx
      · exact upto_mem.2 ⟨hy0, hyn⟩
      · rcases List.mem_append.1 hx with hx | hx
        · exact upto_mem.2 (hMi x hx)
        · exact upto_mem.2 (hi x hx))
    rw [upto_len] at h1
    simp only [List.length_cons, List.length_append] at h1
    omega
  | k + 1, P, z, y, hk, hn, hi, hcf, hy0, hyn, hy, hz => by
    obtain ⟨f0, f1, f2, f3⟩ := hf y hy0 hyn
    have hyM : y ∉ M := fun q => hy (List.mem_append_left _ q)
    have hyP : y ∉ P := fun q => hy (List.mem_append_right _ q)
    have hfM : f y ∉ M := fun q => hyM (by have := hMf _ q; rwa [f3] at this)
    have hfP : f y ∉ P := fun q => hyP (by have := hcf _ q; rwa [f3] at this)
    have hfMP : f y ∉ M ++ P := by simp [hfM, hfP]
    obtain ⟨g0, g1, g2, g3⟩ := hg (f y) f0 f1
    have hn' : (M ++ (P ++ [y, f y])).Nodup := by
      rw [← List.append_assoc, List.nodup_append]
      refine ⟨hn, by simp; exact fun q => f2 q.symm, ?_⟩
      intro a ha b hb
      simp only [List.mem_cons, List.not_mem_nil, or_false] at hb
      rcases hb with rfl | rfl
      · rintro rfl; exact hy ha
      · rintro rfl; exact hfMP ha
    have hi' : inN n (P ++ [y, f y]) := by
      intro x hx
      simp only [List.mem_append, List.mem_cons, List.not_mem_nil, or_false] at hx
      rcases hx with hx | rfl | rfl
      · exact hi x hx
      · exact ⟨hy0, hyn⟩
      · exact ⟨f0, f1⟩
    have hcf' : closedF f (P ++ [y, f y]) := by
      intro x hx
      simp only [List.mem_append, List.mem_cons, List.not_mem_nil, or_false] at hx ⊢
      rcases hx with hx | rfl | rfl
      · exact .inl (hcf x hx)
      · exact .inr (.inr rfl)
      · exact .inr (.inl f3)
    have htP : t ∈ P ++ [y, f y] := by
      rcases hz with ⟨_, rfl⟩ | ⟨_, _, _, h, _⟩
      · simp
      · simp [h]
    have hft : f y ≠ t := by
      rcases hz with ⟨_, rfl⟩ | ⟨_, _, _, h, _⟩
      · exact f2
      · rintro q; exact hfP (by rw [q]; exact h)
    -- what g does on what is met, but for its ends
    have hQ : ∀ x ∈ P ++ [y, f y], x ≠ t → x ≠ f y → g x ∈ P ++ [y, f y] ∧ g x ≠ t ∧ g x ≠ f y := by
      intro x hx hxt hxf
      simp only [List.mem_append, List.mem_cons, List.not_mem_nil, or_false] at hx
      rcases hz with ⟨rfl, rfl⟩ | ⟨rfl, hz1, hz2, hz3, hz4, hz5⟩
      · rcases hx with hx | rfl | rfl
        · cases hx
        · exact absurd rfl hxt
        · exact absurd rfl hxf
      · have hzi := hi z hz1
        obtain ⟨q0, q1, q2, q3⟩ := hg z hzi.1 hzi.2
        rcases hx with hx | rfl | rfl
        · by_cases e : x = z
          · subst e
            exact ⟨by simp, hz4, Ne.symm f2⟩
          · obtain ⟨k1, k2, k3⟩ := hz5 x hx hxt e
            exact ⟨by simp [k1], k2, fun q => hfP (by rw [← q]; exact k1)⟩
        · rw [q3]
          exact ⟨by simp [hz1], hz2, fun q => hfP (by rw [← q]; exact hz1)⟩
        · exact absurd rfl hxf
    unfold WalkOK cyc
    by_cases he : g (f y) = t
    · rw [if_pos he, if_pos he]
      refine ⟨⟨⟨hy0, hyn⟩, hy, hfMP, htP⟩, hn', hi', hcf', ?_⟩
      intro x hx
      by_cases h1 : x = t
      · subst h1
        rw [← he, g3]; simp
      · by_cases h2 : x = f y
        · subst h2; rw [he]; exact htP
        · exact (hQ x hx h1 h2).1
    · rw [if_neg he, if_neg he]
      have hgM : g (f y) ∉ M := fun q => hfM (by have := hMg _ q; rwa [g3] at this)
      have hgP : g (f y) ∉ P ++ [y, f y] := by
        intro q
        have := (hQ _ q he (by exact g2)).2.2
        rw [g3] at this
        exact this rfl
      have ih := walk_ok hf hg hMf hMg hMn hMi ht ht0 htn k (P ++ [y, f y]) (f y) (g (f y)) (by simp; omega) hn' hi' hcf' g0 g1 (by
        intro q
        rcases List.mem_append.1 q with q | q
        · exact hgM q
        · exact hgP q) (.inr ⟨rfl, by simp, hft, htP, he, hQ⟩)
      rw [List.append_assoc] at ih
      exact ⟨⟨⟨hy0, hyn⟩, hy, hfMP, ih.1⟩, ih.2⟩
/-- Rings, one after the other. -/
def ringsL (f g : Int → Int) : Nat → Int → List Int → List Int
  | 0, _, _ => []
  | j + 1, t, S => if t ∈ S then ringsL f g j (t + 1) S else ((cyc f g t 5 t).length : Int) :: ringsL f g j (t + 1) (S ++ cyc f g t 5 t)
/-- What is met is whole. -/
structure Met (n : Nat) (f g : Int → Int) (S : List Int) : Prop where
  nd : S.Nodup
  inn : inN n S
  cf : closedF f S
  cg : closedF g S
theorem met_nil {n : Nat} {f g : Int → Int} : Met n f g [] := ⟨List.nodup_nil, (by intro x h; cases h), (by intro x h; cases h), (by intro x h; cases h)⟩
theorem met_step {n : Nat} {f g : Int → Int} (hn : n ≤ 10) (hf : Inv n f) (hg : Inv n g) {S : List Int} (h : Met n f g S) {t : Int} (ht : t ∉ S) (ht0 : 0 ≤ t) (htn : t < n) : WalkOK n f g t S 5 [] t ∧ Met n f g (S ++ cyc f g t 5 t) := by
  obtain ⟨h1, h2, h3, h4, h5⟩ := walk_ok hf hg h.cf h.cg h.nd h.inn ht ht0 htn 5 [] t t (by simp; omega) (by simpa using h.nd) (by intro x h; cases h) (by intro x h; cases h) ht0 htn (by simpa using ht) (.inl ⟨rfl, rfl⟩)
  rw [List.nil_append] at h2 h3 h4 h5
  refine ⟨h1, h2, ?_, ?_, ?_⟩
  · intro x hx
    rcases List.mem_append.1 hx with hx | hx
    · exact h.inn x hx
    · exact h3 x hx
  · intro x hx
    rcases List.mem_append.1 hx with hx | hx
    · exact List.mem_append_left _ (h.cf x hx)
    · exact List.mem_append_right _ (h4 x hx)
  · intro x hx
    rcases List.mem_append.1 hx with hx | hx
    · exact List.mem_append_left _ (h.cg x hx)
    · exact List.mem_append_right _ (h5 x hx)
def halfs (l : List Int) : Prop := ∀ x ∈ l, ∃ k : Nat, 1 ≤ k ∧ x = 2 * k
theorem cyc_len (f g : Int → Int) (t : Int) : ∀ (k : Nat) (y : Int), ∃ m : Nat, ((cyc f g t k y).length : Int) = 2 * m
  | 0, y => ⟨0, rfl⟩
  | k + 1, y => by
    unfold cyc
    split
    · exact ⟨1, rfl⟩
    · obtain ⟨m, hm⟩ := cyc_len f g t k (g (f y))
      exact ⟨m + 1, by simp only [List.length_cons]; omega⟩
theorem rings_sum {n : Nat} {f g : Int → Int} (hn : n ≤ 10) (hf : Inv n f) (hg : Inv n g) : ∀ (j : Nat) (t : Nat) (S : List Int), t + j = n → Met n f g S → (∀ x : Int, 0 ≤ x → x < t → x ∈ S) → halfs (ringsL f g j t S) ∧ (ringsL f g j t S).sum + S.length = n
  | 0, t, S, h, hS, hm => by
    refine ⟨(by intro x h; cases h), ?_⟩
    have h1 := nodup_sub hS.nd (m := upto n) fun x hx => upto_mem.2 (hS.inn x hx)
    have h2 := nodup_sub (upto_nodup n) (m := S) fun x hx => by
      have := upto_mem.1 hx
      exact hm x this.1 (by omega)
    rw [upto_len] at h1 h2
    simp only [ringsL, List.sum_nil]
    omega
  | j + 1, t, S, h, hS, hm => by
    unfold ringsL
    by_cases ht : (t : Int) ∈ S
    · rw [if_pos ht]
      exact rings_sum hn hf hg j (t + 1) S (by omega) hS fun x h0 h1 => by
        by_cases e : x = t
        · subst e; exact ht
        · exact hm x h0 (by omega)
    · rw [if_neg ht]
      obtain ⟨_, h2⟩ := met_step hn hf hg hS ht (by omega) (by omega)
      have ih := rings_sum hn hf hg j (t + 1) _ (by omega) h2 fun x h0 h1 => by
        by_cases e : x = t
        · subst e; exact List.mem_append_right _ (by unfold cyc; simp)
        · exact List.mem_append_left _ (hm x h0 (by omega))
      refine ⟨?_, ?_⟩
      · intro x hx
        rcases List.mem_cons.1 hx with rfl | hx
        · obtain ⟨m, hm⟩ := cyc_len f g t 5 t
          refine ⟨m, ?_, hm⟩
          unfold cyc at hm
          simp only [List.length_cons] at hm
          omega
        · exact ih.1 x hx
      · have := ih.2
        simp only [List.sum_cons, List.length_append] at this ⊢
        push_cast at this ⊢
        omega
/-! ### All lists of even numbers with a small sum -/
def comps : Nat → List (List Int)
  | 0 => [[]]
  | n + 1 => [] :: (List.range (n + 1)).flatMap fun i => (comps n).map fun l => (2 * ((i : Nat) : Int) + 2) :: l
def smallC (l : List Int) : Bool := decide (l.sum ≤ 10) && decide (2 ≤ l.sum)
theorem comps_mem : ∀ (n : Nat) (l : List Int), halfs l → l.sum ≤ 2 * n → l ∈ comps n
  | 0, [], _, _ => by simp [comps]
  | n + 1, [], _, _ => by simp [comps]
  | 0, x :: l, hh, hs => by
    exfalso
    obtain ⟨k, h1, h2⟩ := hh x (List.mem_cons_self ..)
    have h0 : ∀ l : List Int, halfs l → 0 ≤ l.sum := by
      intro l
      induction l with
      | nil => intro _; simp
      | cons y l ih =>
        intro h
        obtain ⟨k, h1, h2⟩ := h y (List.mem_cons_self ..)
        have := ih fun x hx => h x (List.mem_cons_of_mem _ hx)
        simp only [List.sum_cons]; omega
    have := h0 l fun x hx => hh x (List.mem_cons_of_mem _ hx)
    simp only [List.sum_cons] at hs
    omega
  | n + 1, x :: l, hh, hs => by
    obtain ⟨k, h1, h2⟩ := hh x (List.mem_cons_self ..)
    have h0 : ∀ l : List Int, halfs l → 0 ≤ l.sum := by
      intro l
      induction l with
      | nil => intro _; simp
      | cons y l ih =>
        intro h
        obtain ⟨k, h1, h2⟩ := h y (List.mem_cons_self ..)
        have := ih fun x hx => h x (List.mem_cons_of_mem _ hx)
        simp only [List.sum_cons]; omega
    have h3 := h0 l fun x hx => hh x (List.mem_cons_of_mem _ hx)
    simp only [List.sum_cons] at hs
    unfold comps
    refine List.mem_cons_of_mem _ (List.mem_flatMap.2 ⟨k - 1, by rw [List.mem_range]; omega, List.mem_map.2 ⟨l, ?_, ?_⟩⟩)
    · exact comps_mem n l (fun x hx => hh x (List.mem_cons_of_mem _ hx)) (by omega)
    · congr 1; omega
def comps5 : List (List Int) := (comps 5).filter smallC
theorem comps5_mem {l : List Int} (h : halfs l) (hs : l.sum ≤ 10) (h2 : 2 ≤ l.sum) : l ∈ comps5 := List.mem_filter.2 ⟨comps_mem 5 l h hs, by simp [smallC, hs, h2]⟩
/-- A number put where it belongs. -/
def insI (x : Int) (l : List Int) : List Int := l.takeWhile (fun y => decide (y ≤ x)) ++ x :: l.dropWhile (fun y => decide (y ≤ x))
def sortI (l : List Int) : List Int := l.foldl (fun o x => insI x o) []
def allL {α : Type} (P : α → Prop) : List α → Prop
  | [] => True
  | x :: l => P x ∧ allL P l
theorem allL_mem {α : Type} {P : α → Prop} : ∀ {l : List α}, allL P l → ∀ x ∈ l, P x
  | [], _, x, h => by cases h
  | y :: l, h, x, hx => by
    rcases List.mem_cons.1 hx with rfl | hx
    · exact h.1
    · exact allL_mem h.2 x hx
end Go.Proofs.Ytigijjinlalnaaa

/- Chapter 04: law 9 (Makes): schedules made, at each number of teams. Written by wip/tools/gen4M.py. -/
namespace Go.Proofs.Ytigijjinlalnaaa
open Go Go.AE
set_option maxRecDepth 100000
def argD (i : Nat) (ds : List DV) : Int := match nth ds i with
  | some (.int _ n) => n
  | _ => 0
/-- What a function answers: cells, how many, their size, whether it is nil, the error. -/
structure A9 where
  M : List DV
  k : Nat
  z : Nat
  nl : Bool
  e : Int
def x9 (n : Int) : Int := IntKind.wrap IntKind.i64 (2 + IntKind.wrap IntKind.i64 (2 * IntKind.wrap IntKind.i64 (Int.tmod (IntKind.wrap IntKind.u64 n) (IntKind.wrap IntKind.u64 (IntKind.wrap IntKind.i64 (Int.tdiv 10 2))))))
structure T9 where
  q : Nat → Int → A9
  t : Int → Bool
  nx : Int → Int
  F : Int → List DV
  Fk : Int → Nat
end Go.Proofs.Ytigijjinlalnaaa

/- Chapter 04: ring 72 and rings 53. -/
namespace Go.Proofs.Ytigijjinlalnaaa
open Go Go.AE
set_option maxRecDepth 100000
def atA (a : List Int) (x : Int) : Int := a.getD x.toNat 0
theorem getA {X : Type} {a : List Int} {x : Int} (h0 : 0 ≤ x) (h1 : x < 10) (ha : a.length = 10) (K : Int → Option X) : (bif inRange x 10 then getI (nth (ints a) (0 + Int.toNat x * 1)) K else none) = K (atA a x) := by
  refine (inR_pos h0 (by omega)).trans ?_
  rw [Nat.zero_add, Nat.mul_one, nth_ints_o (by omega), getI_some]; rfl
def s72 (A B O : List DV) (m : Nat) (t u : Int) : St := ⟨[(2, .d (iD t)), (3, AV.ref 0 0), (4, AV.ref 1 0), (7, .d (DV.sl O m 1 true false)), (8, .d (iD u))], [.dc A, .dc B], []⟩
def g72 (A B O : List DV) (t u : Int) : St := ⟨[(2, .d (iD t)), (3, AV.ref 0 0), (4, AV.ref 1 0), (7, AV.grow 2 1 true), (8, .d (iD u))], [.dc A, .dc B, .dc O], []⟩
def x72 (O : List DV) : St := ⟨[(6, AV.grow 0 1 true)], [.dc O], []⟩
theorem t72_h (A B : List DV) (t : Int) : startS aeC Ev.nil 72 0 Try.f72 none ⟨envOf 0 [.d (.agg A), .d (.agg B), .d (iD t)], [], []⟩ (heldD aeC 72 0) =
  bif inRange t 10 then (getI (nth A (0 + Int.toNat t * 1)) fun x0 => bif inRange x0 10 then (getI (nth B (0 + Int.toNat x0 * 1)) fun x1 => some (0, s72 A B [iD t] 1 t x1)) else none) else none := by kernel_rfl
def W72 (A B : List DV) (u : Int) (K : Int → Option (Ex × St)) : Option (Ex × St) :=
  bif inRange u 10 then (getI (nth A (0 + Int.toNat u * 1)) fun x2 => bif inRange x2 10 then (getI (nth B (0 + Int.toNat x2 * 1)) K) else none) else none
theorem t72_0 (A B : List DV) (y t u : Int) : startS aeC Ev.nil 72 0 Try.f72 (some 0) (s72 A B [iD y] 1 t u) (roundD aeC 72 0 0) =
  bif inRange y 10 then (getI (nth A (0 + Int.toNat y * 1)) fun x1 => bif decide (u = t) then some (Ex.ret, x72 [iD y, iD x1]) else W72 A B u fun x5 => some (Ex.norm, g72 A B ([iD y, iD x1] ++ [iD u]) t x5)) else none := by kernel_rfl
theorem t72_1 (A B O : List DV) (t u : Int) : startS aeC Ev.nil 72 0 Try.f72 (some 0) (g72 A B O t u) (roundD aeC 72 0 0) =
  bif inRange (IntKind.wrap IntKind.i64 ((↑(lenOf 1 (List.length O)) : Int) - 1)) (lenOf 1 (List.length O)) then
    (getI (nth O (Int.toNat (IntKind.wrap IntKind.i64 ((↑(lenOf 1 (List.length O)) : Int) - 1)) * 1)) fun x0 =>
    bif inRange x0 10 then
      (getI (nth A (0 + Int.toNat x0 * 1)) fun x1 =>
      bif Nat.ble (lenOf 1 (List.length O) + 1) 1048576 then
        bif decide (u = t) then some (Ex.ret, x72 (O ++ [iD x1]))
        else bif Nat.ble (lenOf 1 (List.length (O ++ [iD x1])) + 1) 1048576 then W72 A B u fun x3 => some (Ex.norm, g72 A B (O ++ [iD x1] ++ [iD u]) t x3) else none
      else none)
    else none)
  else none := by kernel_rfl
theorem t72_r (O : List DV) : nextS aeC Ev.nil 72 0 Try.f72 none 0 .ret (x72 O) (doneE aeC Try.f72 0 fun v h => freezeP 72 h v) = some (DV.sl O (lenOf 1 (List.length O)) 1 false false) := by kernel_rfl
theorem k72 : OkSeg Try.f72 none [0] := ⟨by kernel_rfl, by kernel_rfl, by decide⟩
theorem k72_0 : OkSeg Try.f72 (some 0) [] := ⟨by kernel_rfl, by kernel_rfl, by decide⟩
section
variable {n : Nat} {a b : List Int} (hn : n ≤ 10) (ha : a.length = 10) (hb : b.length = 10) (hf : Inv n (atA a)) (hg : Inv n (atA b))
include hn ha hb hf hg
omit hg in
theorem W72_ok {u : Int} (h0 : 0 ≤ u) (h1 : u < n) (K : Int → Option (Ex × St)) : W72 (ints a) (ints b) u K = K (atA b (atA a u)) := by
  obtain ⟨q1, q2, _⟩ := hf u h0 h1
  unfold W72
  rw [getA h0 (by omega) ha fun x2 => bif inRange x2 10 then (getI (nth (ints b) (0 + Int.toNat x2 * 1)) K) else none]
  exact getA q1 (by omega) hb K
theorem loop72 {t : Int} {M : List Int} : ∀ (k : Nat) (P : List Int) (y : Int), P ≠ [] → P.length + 2 * k ≤ 1000 → WalkOK n (atA a) (atA b) t M k P y →
    LoopAt aeC Ev.nil 72 0 Try.f72 0 (g72 (ints a) (ints b) (ints (P ++ [y])) t (atA b (atA a y))) .ret (x72 (ints (P ++ cyc (atA a) (atA b) t k y)))
  | 0, P, y, _, _, h => h.elim
  | k + 1, P, y, hP, hk, h => by
    unfold WalkOK at h
    obtain ⟨⟨h0, h1⟩, _, _, h⟩ := h
    obtain ⟨q1, q2, _⟩ := hf y h0 h1
    obtain ⟨r1, r2, _⟩ := hg _ q1 q2
    have hw : IntKind.wrap IntKind.i64 (((P ++ [y]).length : Int) - 1) = (P.length : Int) := by
      rw [wrap64_o (by simp only [List.length_append, List.length_singleton]; omega) (by simp only [List.length_append, List.length_singleton]; omega)]; simp
    have hlast : (P ++ [y]).getD P.length 0 = y := by simp [List.getD_eq_getElem?_getD]
    have hr : startS aeC Ev.nil 72 0 Try.f72 (some 0) (g72 (ints a) (ints b) (ints (P ++ [y])) t (atA b (atA a y))) (roundD aeC 72 0 0) =
        if atA b (atA a y) = t then some (Ex.ret, x72 (ints (P ++ [y, atA a y]))) else some (Ex.norm, g72 (ints a) (ints b) (ints ((P ++ [y, atA a y]) ++ [atA b (atA a y)])) t (atA b (atA a (atA b (atA a y))))) := by
      refine (t72_1 ..).trans ?_
      rw [lenOf_1, len_ints, hw]
      refine (inR_pos (by omega) (by simp; omega)).trans ?_
      rw [Int.toNat_natCast, Nat.mul_one, nth_ints_o (by simp), hlast, getI_some]
      refine (getA h0 (by omega) ha _).trans ?_
      refine (ble_pos (by simp; omega)).trans ?_
      by_cases e : atA b (atA a y) = t
      · rw [if_pos e]
        refine (cnd_pos e).trans ?_
        rw [ints_app1]; simp
      · rw [if_neg e]
        refine (cnd_neg e).trans ?_
        rw [ints_app1, ints_app1, lenOf_1, len_ints]
        refine (ble_pos (by simp; omega)).trans ?_
        rw [W72_ok hn ha hb hf r1 r2]
        simp
    unfold cyc
    by_cases e : atA b (atA a y) = t
    · rw [if_pos e] at hr h ⊢
      exact .out k72_0 (by simp) hr
    · rw [if_neg e] at hr h ⊢
      have ih := loop72 k (P ++ [y, atA a y]) (atA b (atA a y)) (by simp) (by simp; omega) h
      rw [show P ++ y :: atA a y :: cyc (atA a) (atA b) t k (atA b (atA a y)) = P ++ [y, atA a y] ++ cyc (atA a) (atA b) t k (atA b (atA a y)) by simp]
      exact .next k72_0 hr ih
theorem ring_ok {t : Int} {M : List Int} {k : Nat} (hk : k ≤ 100) (h : WalkOK n (atA a) (atA b) t M k [] t) : PureOK Try.prog 72 [.agg (ints a), .agg (ints b), iD t] (.sl (ints (cyc (atA a) (atA b) t k t)) (lenOf 1 (ints (cyc (atA a) (atA b) t k t)).length) 1 false false) := by
  cases k with
  | zero => exact h.elim
  | succ k =>
    unfold WalkOK at h
    obtain ⟨⟨h0, h1⟩, _, _, h⟩ := h
    obtain ⟨q1, q2, _⟩ := hf t h0 h1
    obtain ⟨r1, r2, _⟩ := hg _ q1 q2
    have hh : startS aeC Ev.nil 72 0 Try.f72 none ⟨envOf 0 [.d (.agg (ints a)), .d (.agg (ints b)), .d (iD t)], [], []⟩ (heldD aeC 72 0) = some (0, s72 (ints a) (ints b) [iD t] 1 t (atA b (atA a t))) := by
      refine (t72_h ..).trans ((getA h0 (by omega) ha _).trans ?_)
      exact getA q1 (by omega) hb _
    have hr : startS aeC Ev.nil 72 0 Try.f72 (some 0) (s72 (ints a) (ints b) [iD t] 1 t (atA b (atA a t))) (roundD aeC 72 0 0) =
        if atA b (atA a t) = t then some (Ex.ret, x72 (ints [t, atA a t])) else some (Ex.norm, g72 (ints a) (ints b) (ints ([t, atA a t] ++ [atA b (atA a t)])) t (atA b (atA a (atA b (atA a t))))) := by
      refine (t72_0 ..).trans ((getA h0 (by omega) ha _).trans ?_)
      by_cases e : atA b (atA a t) = t
      · rw [if_pos e]; exact cnd_pos e
      · rw [if_neg e]
        refine (cnd_neg e).trans ?_
        rw [W72_ok hn ha hb hf r1 r2]; rfl
    refine ae_pure EvOK.nil (fn := Try.f72) k72 (by kernel_rfl) (by kernel_rfl) (startF_one k72 done_plain hh ?_ (t72_r ..))
    unfold cyc
    by_cases e : atA b (atA a t) = t
    · rw [if_pos e] at hr h ⊢
      exact .out k72_0 (by simp) hr
    · rw [if_neg e] at hr h ⊢
      exact .next k72_0 hr (loop72 hn ha hb hf hg k [t, atA a t] _ (by simp) (by simp; omega) (by simpa using h))
end
end Go.Proofs.Ytigijjinlalnaaa

/- Chapter 04: rings 53. -/
namespace Go.Proofs.Ytigijjinlalnaaa
open Go Go.AE
set_option maxRecDepth 100000
def aggD (i : Nat) (ds : List DV) : List DV := match nth ds i with
  | some (.agg l) => l
  | _ => []
def i53 (R : List DV → List DV → Int → List DV) (f : Nat) (ds : List DV) : DV := .sl (R (aggD 0 ds) (aggD 1 ds) (argD 2 ds)) (lenOf 1 (R (aggD 0 ds) (aggD 1 ds) (argD 2 ds)).length) 1 false false
noncomputable def E53 (ok : Nat → List DV → Bool) (R : List DV → List DV → Int → List DV) : Ev := evW [72] ok (i53 R)
def s53 (A B O : List DV) (es : List (DV × DV)) (n t : Int) : St := ⟨[(4, AV.ref 0 0), (5, AV.ref 1 0), (7, AV.grow 2 1 false), (8, AV.mp 3), (14, .d (iD n)), (15, .d (iD t))], [.dc A, .dc B, .dc O, .mp es], []⟩
def b53 (A B O : List DV) (es : List (DV × DV)) (n t : Int) (C : List DV) (m : Nat) (i : Int) : St := ⟨[(4, AV.ref 0 0), (5, AV.ref 1 0), (7, AV.grow 2 1 false), (8, AV.mp 3), (10, .d (DV.sl C m 1 false false)), (14, .d (iD n)), (15, .d (iD t)), (25, .d (DV.sl C m 1 false false)), (26, .d (iD (m : Int))), (27, .d (iD i))], [.dc A, .dc B, .dc O, .mp es], []⟩
def c53 (A B O : List DV) (es : List (DV × DV)) (n t : Int) (C : List DV) (m : Nat) : St := ⟨[(4, AV.ref 0 0), (5, AV.ref 1 0), (7, AV.grow 2 1 false), (8, AV.mp 3), (10, .d (DV.sl C m 1 false false)), (14, .d (iD n)), (15, .d (iD t))], [.dc A, .dc B, .dc O, .mp es], []⟩
def x53 (O : List DV) : St := ⟨[(7, AV.grow 0 1 false)], [.dc O], []⟩
theorem comps5_eq : comps5 = [[2], [2, 2], [2, 2, 2], [2, 2, 2, 2], [2, 2, 2, 2, 2], [2, 2, 2, 4], [2, 2, 4], [2, 2, 4, 2], [2, 2, 6], [2, 4], [2, 4, 2], [2, 4, 2, 2], [2, 4, 4], [2, 6], [2, 6, 2], [2, 8], [4], [4, 2], [4, 2, 2], [4, 2, 2, 2], [4, 2, 4], [4, 4], [4, 4, 2], [4, 6], [6], [6, 2], [6, 2, 2], [6, 4], [8], [8, 2], [10]] := by kernel_rfl
section
variable (ok : Nat → List DV → Bool) (R : List DV → List DV → Int → List DV)
theorem t53_h (A B : List DV) (n : Int) : startS aeC (E53 ok R) 53 0 Try.f53 none ⟨envOf 0 [.d (iD n), .d (.agg A), .d (.agg B)], [], []⟩ (heldD aeC 53 0) = some (0, s53 A B [] [] n 0) := by kernel_rfl
theorem t53_0 (A B O : List DV) (es : List (DV × DV)) (n t : Int) : startS aeC (E53 ok R) 53 0 Try.f53 (some 0) (s53 A B O es n t) (roundD aeC 53 0 0) =
  bif decide (t < n) then (getB (findV aeT 3 (iD t) (bD false) es) fun y => bif y then some (Ex.norm, s53 A B O es n (IntKind.wrap IntKind.i64 (t + 1))) else
    (takeN 10 (List.drop 0 A)).bind fun v0 => (takeN 10 (List.drop 0 B)).bind fun v1 => bif ok 72 [DV.agg v0, DV.agg v1, iD t] then none else none)
  else some (Ex.exit 0, x53 O) := by kernel_rfl
theorem t53_0h (A B O : List DV) (es : List (DV × DV)) (n t : Int) : startS aeC (E53 ok R) 53 0 Try.f53 (some 0) (s53 A B O es n t) (heldD aeC 53 0) =
  bif decide (t < n) then (getB (findV aeT 3 (iD t) (bD false) es) fun y => bif y then none else
    (takeN 10 (List.drop 0 A)).bind fun v0 => (takeN 10 (List.drop 0 B)).bind fun v1 => bif ok 72 [DV.agg v0, DV.agg v1, iD t] then
      some (2, b53 A B O es n t (R v0 v1 t) (lenOf 1 (R v0 v1 t).length) 0) else none)
  else none := by kernel_rfl
theorem t53_2 (A B O : List DV) (es : List (DV × DV)) (n t : Int) (C : List DV) (m : Nat) (i : Int) : startS aeC (E53 ok R) 53 0 Try.f53 (some 2) (b53 A B O es n t C m i) (roundD aeC 53 0 2) =
  bif decide (i < (m : Int)) then (bif inRange i m then (getI (nth C (Int.toNat i * 1)) fun x0 => (putM aeT 3 (iD x0) (bD true) es).bind fun e => some (Ex.norm, b53 A B O e n t C m (IntKind.wrap IntKind.i64 (i + 1)))) else none)
  else some (Ex.exit 2, c53 A B O es n t C m) := by kernel_rfl
theorem t53_y (A B O : List DV) (es : List (DV × DV)) (n t : Int) (C : List DV) (m : Nat) : nextS aeC (E53 ok R) 53 0 Try.f53 (some 0) 2 (.exit 2) (c53 A B O es n t C m) (roundD aeC 53 0 0) =
  bif Nat.ble (lenOf 1 (List.length O) + 1) 1048576 then some (Ex.norm, s53 A B (O ++ [iD (m : Int)]) es n (IntKind.wrap IntKind.i64 (t + 1))) else none := by kernel_rfl
theorem t53_e : ∀ l ∈ comps5, nextS aeC (E53 ok R) 53 0 Try.f53 none 0 (.exit 0) (x53 (ints l)) (doneE aeC Try.f53 0 fun v h => freezeP 53 h v) = some (DV.sl (ints (sortI l)) l.length 1 false false) := by
  rw [comps5_eq]
  exact allL_mem ⟨(by show _ = _; kernel_rfl), (by show _ = _; kernel_rfl), (by show _ = _; kernel_rfl), (by show _ = _; kernel_rfl), (by show _ = _; kernel_rfl), (by show _ = _; kernel_rfl), (by show _ = _; kernel_rfl), (by show _ = _; kernel_rfl), (by show _ = _; kernel_rfl), (by show _ = _; kernel_rfl), (by show _ = _; kernel_rfl), (by show _ = _; kernel_rfl), (by show _ = _; kernel_rfl), (by show _ = _; kernel_rfl), (by show _ = _; kernel_rfl), (by show _ = _; kernel_rfl), (by show _ = _; kernel_rfl), (by show _ = _; kernel_rfl), (by show _ = _; kernel_rfl), (by show _ = _; kernel_rfl), (by show _ = _; kernel_rfl), (by show _ = _; kernel_rfl), (by show _ = _; kernel_rfl), (by show _ = _; kernel_rfl), (by show _ = _; kernel_rfl), (by show _ = _; kernel_rfl), (by show _ = _; kernel_rfl), (by show _ = _; kernel_rfl), (by show _ = _; kernel_rfl), (by show _ = _; kernel_rfl), (by show _ = _; kernel_rfl), trivial⟩
end
theorem k53 : OkSeg Try.f53 none [0] := ⟨by kernel_rfl, by kernel_rfl, by decide⟩
theorem k53_0 : OkSeg Try.f53 (some 0) [2] := ⟨by kernel_rfl, by kernel_rfl, by decide⟩
theorem k53_2 : OkSeg Try.f53 (some 2) [] := ⟨by kernel_rfl, by kernel_rfl, by decide⟩
section
variable {n : Nat} {a b : List Int} (hn : n ≤ 10) (ha : a.length = 10) (hb : b.length = 10) (hf : Inv n (atA a)) (hg : Inv n (atA b))
noncomputable def R53 (A B : List DV) (t : Int) : List DV := ints (cyc (atA (unI A)) (atA (unI B)) t 5 t)
theorem loop53_2 (ok : Nat → List DV → Bool) (R : List DV → List DV → Int → List DV) (A B O : List DV) (n t : Int) (C : List Int) (hC : C.length ≤ 1000) : ∀ (r : List Int) (i : Nat) (S : List Int), C.drop i = r → (S ++ r).Nodup →
    LoopAt aeC (E53 ok R) 53 0 Try.f53 2 (b53 A B O (esB S) n t (ints C) C.length i) (.exit 2) (c53 A B O (esB (S ++ r)) n t (ints C) C.length)
  | [], i, S, hd, _ => by
    have := drop_nil_o hd
    rw [List.append_nil]
    exact .out k53_2 (by simp) ((t53_2 ..).trans (cnd_neg (by omega)))
  | x :: r, i, S, hd, hS => by
    obtain ⟨h1, h2, h3⟩ := drop_cons_o (d := 0) hd
    have hx : x ∉ S := by
      intro q
      rw [List.nodup_append] at hS
      exact hS.2.2 x q x (List.mem_cons_self ..) rfl
    have hr : startS aeC (E53 ok R) 53 0 Try.f53 (some 2) (b53 A B O (esB S) n t (ints C) C.length i) (roundD aeC 53 0 2) = some (Ex.norm, b53 A B O (esB (S ++ [x])) n t (ints C) C.length ((i + 1 : Nat) : Int)) := by
      refine (t53_2 ..).trans ((cnd_pos (by omega)).trans ((inR_pos (by omega) (by omega)).trans ?_))
      rw [Int.toNat_natCast, Nat.mul_one, nth_ints_o h1, h2, getI_some, putM_B hx, Option.bind_some, wr1 (by omega)]
    rw [show S ++ x :: r = (S ++ [x]) ++ r by simp] at hS ⊢
    exact .next k53_2 hr (loop53_2 ok R A B O n t C hC r (i + 1) (S ++ [x]) h3 hS)
include hn ha hb hf hg
theorem loop53 : ∀ (j t : Nat) (S : List Int) (O : List Int), t + j = n → Met n (atA a) (atA b) S → O.length ≤ t →
    LoopAt aeC (E53 (okS (i53 R53)) R53) 53 0 Try.f53 0 (s53 (ints a) (ints b) (ints O) (esB S) n t) (.exit 0) (x53 (ints (O ++ ringsL (atA a) (atA b) j t S)))
  | 0, t, S, O, h, hS, hO => by
    rw [ringsL, List.append_nil]
    exact .out k53_0 (by simp) ((t53_0 ..).trans (cnd_neg (by omega)))
  | j + 1, t, S, O, h, hS, hO => by
    unfold ringsL
    by_cases ht : (t : Int) ∈ S
    · rw [if_pos ht]
      have hr : startS aeC (E53 (okS (i53 R53)) R53) 53 0 Try.f53 (some 0) (s53 (ints a) (ints b) (ints O) (esB S) n t) (roundD aeC 53 0 0) = some (Ex.norm, s53 (ints a) (ints b) (ints O) (esB S) n ((t + 1 : Nat) : Int)) := by
        refine (t53_0 ..).trans ((cnd_pos (by omega)).trans ?_)
        rw [findV_B, getB_some, decide_eq_true ht, cond_true, wr1 (by omega)]
      exact .next k53_0 hr (loop53 j (t + 1) S O (by omega) hS (by omega))
    · rw [if_neg ht]
      obtain ⟨hw, hM⟩ := met_step hn hf hg hS ht (by omega) (by omega)
      have hcl : (cyc (atA a) (atA b) t 5 t).length ≤ 1000 := by
        have hnd := hM.nd
        rw [List.nodup_append] at hnd
        have := nodup_sub hnd.2.1 (m := upto n) fun x hx => upto_mem.2 (hM.inn x (List.mem_append_right _ hx))
        rw [upto_len] at this; omega
      have hR : R53 (ints a) (ints b) t = ints (cyc (atA a) (atA b) t 5 t) := by unfold R53; rw [unI_ints, unI_ints]
      have hk : okS (i53 R53) 72 [.agg (ints a), .agg (ints b), iD t] = true := by
        refine isP_iff.2 ?_
        show PureOK Try.prog 72 _ (.sl (R53 (ints a) (ints b) t) (lenOf 1 (R53 (ints a) (ints b) t).length) 1 false false)
        rw [hR]
        exact ring_ok hn ha hb hf hg (by omega) hw
      have hh : startS aeC (E53 (okS (i53 R53)) R53) 53 0 Try.f53 (some 0) (s53 (ints a) (ints b) (ints O) (esB S) n t) (heldD aeC 53 0) = some (2, b53 (ints a) (ints b) (ints O) (esB S) n t (ints (cyc (atA a) (atA b) t 5 t)) (cyc (atA a) (atA b) t 5 t).length (0 : Nat)) := by
        refine (t53_0h ..).trans ((cnd_pos (by omega)).trans ?_)
        rw [findV_B, getB_some, decide_eq_false ht, cond_false, List.drop_zero, List.drop_zero, takeN_all _ _ (by rw [len_ints, ha]), takeN_all _ _ (by rw [len_ints, hb]), Option.bind_some, Option.bind_some, hk, cond_true, hR, lenOf_1, len_ints]
        rfl
      have hnd : (S ++ cyc (atA a) (atA b) t 5 t).Nodup := hM.nd
      have hL := loop53_2 (okS (i53 R53)) R53 (ints a) (ints b) (ints O) n t (cyc (atA a) (atA b) t 5 t) hcl _ 0 S (List.drop_zero ..) hnd
      have he : nextS aeC (E53 (okS (i53 R53)) R53) 53 0 Try.f53 (some 0) 2 (.exit 2) (c53 (ints a) (ints b) (ints O) (esB (S ++ cyc (atA a) (atA b) t 5 t)) n t (ints (cyc (atA a) (atA b) t 5 t)) (cyc (atA a) (atA b) t 5 t).length) (roundD aeC 53 0 0) = some (Ex.norm, s53 (ints a) (ints b) (ints (O ++ [((cyc (atA a) (atA b) t 5 t).length : Int)])) (esB (S ++ cyc (atA a) (atA b) t 5 t)) n ((t + 1 : Nat) : Int)) := by
        refine (t53_y ..).trans ?_
        rw [lenOf_1, len_ints]
        refine (ble_pos (by omega)).trans ?_
        rw [ints_app1, wr1 (by omega)]
      have ih := loop53 j (t + 1) (S ++ cyc (atA a) (atA b) t 5 t) (O ++ [((cyc (atA a) (atA b) t 5 t).length : Int)]) (by omega) hM (by simp; omega)
      rw [List.append_assoc] at ih
      exact .nextF k53_0 (startF_one k53_0 roundD_plain hh hL he) ih
theorem rings_ok (h2 : 2 ≤ n) : PureOK Try.prog 53 [iD n, .agg (ints a), .agg (ints b)] (.sl (ints (sortI (ringsL (atA a) (atA b) n 0 []))) (ringsL (atA a) (atA b) n 0 []).length 1 false false) := by
  have hs := rings_sum hn hf hg n 0 [] (by omega) met_nil (by intro x h0 h1; omega)
  have hm : ringsL (atA a) (atA b) n 0 [] ∈ comps5 := by
    have h3 := hs.2
    simp only [List.length_nil] at h3
    exact comps5_mem hs.1 (by simp at h3 ⊢; omega) (by simp at h3 ⊢; omega)
  exact ae_pure (evW_ok [72] (i53 R53)) (fn := Try.f53) k53 (by kernel_rfl) (by kernel_rfl) (startF_one k53 done_plain (t53_h ..) (loop53 hn ha hb hf hg n 0 [] [] (by omega) met_nil (by simp)) (t53_e _ _ _ hm))
end
end Go.Proofs.Ytigijjinlalnaaa

/- Chapter 04: the document's Rings (18). -/
namespace Go.Proofs.Ytigijjinlalnaaa
open Go Go.AE
set_option maxRecDepth 100000
/-! ### Marks -/
def mk (n : Nat) (S : List Int) : List Bool := (List.range n).map fun i : Nat => decide ((i : Int) ∈ S)
theorem mk_len (n : Nat) (S : List Int) : (mk n S).length = n := by simp [mk]
theorem mk_at {n : Nat} {S : List Int} {u : Int} (h0 : 0 ≤ u) (h1 : u < n) : (mk n S).getD u.toNat false = decide (u ∈ S) := by
  have : u.toNat < n := by omega
  have e : ((u.toNat : Nat) : Int) = u := by omega
  simp [mk, List.getD_eq_getElem?_getD, this, e]
theorem mk_set {n : Nat} {S : List Int} {u : Int} (h0 : 0 ≤ u) : (mk n S).set u.toNat true = mk n (S ++ [u]) := by
  apply List.ext_getElem
  · simp [mk]
  · intro i h1 h2
    simp only [mk, List.getElem_set, List.getElem_map, List.getElem_range, List.mem_append, List.mem_singleton]
    by_cases e : u.toNat = i
    · rw [if_pos e]
      have : (i : Int) = u := by omega
      simp [this]
    · rw [if_neg e]
      have : ¬ (i : Int) = u := by omega
      simp [this]
theorem mk_nil (n : Nat) : List.flatten (List.replicate n [bD false]) = bools (mk n []) := by
  have : mk n [] = List.replicate n false := by
    apply List.ext_getElem
    · simp [mk]
    · intro i h1 h2; simp [mk]
  rw [this]
  unfold bools
  rw [List.map_replicate]
  simp
/-! ### The walk -/
def slL (i : Nat) (ds : List DV) : List DV := match nth ds i with
  | some (.sl l _ _ _ _) => l
  | _ => []
def i18 (o : List DV → Int → Bool × Int) (f : Nat) (ds : List DV) : DV := .tup [bD (o (slL 0 ds) (argD 1 ds)).1, iD (o (slL 0 ds) (argD 1 ds)).2]
noncomputable def E18 (ok : Nat → List DV → Bool) (o : List DV → Int → Bool × Int) : Ev := evW [54] ok (i18 o)
def s18 (L M : DV) (N : Nat) (n : Int) (V O : List DV) (t : Int) : St := ⟨[(0, .d (iD n)), (1, .d L), (2, .d M), (7, AV.row 0 0 N N 1 true), (8, AV.grow 1 1 false), (9, .d (iD t))], [.dc V, .dc O], []⟩
def a18 (L M : DV) (N : Nat) (n : Int) (V O : List DV) (t x u : Int) : St := ⟨[(0, .d (iD n)), (1, .d L), (2, .d M), (7, AV.row 0 0 N N 1 true), (8, AV.grow 1 1 false), (9, .d (iD t)), (10, .d (iD x)), (11, .d (iD u))], [.dc V, .dc O], []⟩
def b18 (L M : DV) (N : Nat) (n : Int) (V O : List DV) (t x : Int) : St := ⟨[(0, .d (iD n)), (1, .d L), (2, .d M), (7, AV.row 0 0 N N 1 true), (8, AV.grow 1 1 false), (9, .d (iD t)), (10, .d (iD x))], [.dc V, .dc O], []⟩
def d18 (L M : DV) (N : Nat) (n : Int) (V O : List DV) (t x i : Int) : St := ⟨[(0, .d (iD n)), (1, .d L), (2, .d M), (7, AV.row 0 0 N N 1 true), (8, AV.grow 1 1 false), (9, .d (iD t)), (10, .d (iD x)), (14, .d (iD i))], [.dc V, .dc O], []⟩
def x18 (O : List DV) : St := ⟨[(8, AV.grow 0 1 false)], [.dc O], []⟩
section
variable (ok : Nat → List DV → Bool) (o : List DV → Int → Bool × Int) (L M : List DV) (m k N : Nat) (c c' z z' : Bool) (n : Int)
theorem t18_h : startS aeC (E18 ok o) 18 0 Try.f18 none ⟨envOf 0 [.d (iD n), .d (.sl L m 2 c z), .d (.sl M k 2 c' z')], [], []⟩ (heldD aeC 18 0) =
  bif decide (0 ≤ n) && decide (n ≤ n) && decide (n ≤ 1048576) && true then some (0, s18 (.sl L m 2 c z) (.sl M k 2 c' z') (Int.toNat n) n (List.flatten (List.replicate (Int.toNat n) [bD false])) [] 0) else none := by kernel_rfl
theorem t18_0 (V O : List DV) (t : Int) : startS aeC (E18 ok o) 18 0 Try.f18 (some 0) (s18 (.sl L m 2 c z) (.sl M k 2 c' z') N n V O t) (roundD aeC 18 0 0) = bif decide (t < n) then none else some (Ex.exit 0, x18 O) := by kernel_rfl
theorem t18_0h (V O : List DV) (t : Int) : startS aeC (E18 ok o) 18 0 Try.f18 (some 0) (s18 (.sl L m 2 c z) (.sl M k 2 c' z') N n V O t) (heldD aeC 18 0) = bif decide (t < n) then some (2, a18 (.sl L m 2 c z) (.sl M k 2 c' z') N n V O t 0 t) else none := by kernel_rfl
theorem t18_2 (V O : List DV) (t x u : Int) : startS aeC (E18 ok o) 18 0 Try.f18 (some 2) (a18 (.sl L m 2 c z) (.sl M k 2 c' z') N n V O t x u) (roundD aeC 18 0 2) =
  bif inRange u N && true then
    (getB (nth V (0 + Int.toNat u * 1)) fun y0 =>
    bif !y0 then
      bif inRange u N && true then
        bif Nat.ble (0 + Int.toNat u * 1 + 1) (List.length V) && true then
          bif ok 54 [DV.sl L m 2 c z, iD u] then
            bif inRange (o L u).2 N && true then
              bif Nat.ble (0 + Int.toNat (o L u).2 * 1 + 1) (List.length (setNth V (0 + Int.toNat u * 1) (bD true))) && true then
                bif ok 54 [DV.sl M k 2 c' z', iD (o L u).2] then
                  some (Ex.norm, a18 (.sl L m 2 c z) (.sl M k 2 c' z') N n (setNth (setNth V (0 + Int.toNat u * 1) (bD true)) (0 + Int.toNat (o L u).2 * 1) (bD true)) O t (IntKind.wrap IntKind.i64 (x + 2)) (o M (o L u).2).2)
                else none
              else none
            else none
          else none
        else none
      else none
    else some (Ex.exit 2, b18 (.sl L m 2 c z) (.sl M k 2 c' z') N n V O t x))
  else none := by kernel_rfl
theorem t18_x (V O : List DV) (t x : Int) : nextS aeC (E18 ok o) 18 0 Try.f18 (some 0) 2 (.exit 2) (b18 (.sl L m 2 c z) (.sl M k 2 c' z') N n V O t x) (roundD aeC 18 0 0) =
  bif decide (x = 0) then some (Ex.norm, s18 (.sl L m 2 c z) (.sl M k 2 c' z') N n V O (IntKind.wrap IntKind.i64 (t + 1))) else none := by kernel_rfl
theorem t18_y (V O : List DV) (t x : Int) : nextS aeC (E18 ok o) 18 0 Try.f18 (some 0) 2 (.exit 2) (b18 (.sl L m 2 c z) (.sl M k 2 c' z') N n V O t x) (heldD aeC 18 0) =
  bif decide (x = 0) then none else some (4, d18 (.sl L m 2 c z) (.sl M k 2 c' z') N n V O t x 0) := by kernel_rfl
theorem t18_e (O : List DV) : nextS aeC (E18 ok o) 18 0 Try.f18 none 0 (.exit 0) (x18 O) (doneE aeC Try.f18 0 fun v h => freezeP 18 h v) = some (DV.sl O (lenOf 1 (List.length O)) 1 false (true && Nat.beq (List.length O) 0)) := by kernel_rfl
def lastI (c : List Int) : Int := c.getLastD 0
def idxL (c : List Int) : Nat := ((sortI c.dropLast).takeWhile fun y => decide (y ≤ lastI c)).length
theorem t18_4 (V : List DV) (t : Int) : ∀ q ∈ comps5, inL aeC (E18 ok o) 18 0 Try.f18 10 4 (d18 (.sl L m 2 c z) (.sl M k 2 c' z') N n V (ints (sortI q.dropLast)) t (lastI q) 0) (fun ex s => some (ex, s)) = some (.exit 4, d18 (.sl L m 2 c z) (.sl M k 2 c' z') N n V (ints (sortI q.dropLast)) t (lastI q) (idxL q)) := by
  rw [comps5_eq]
  exact allL_mem ⟨(by show _ = _; kernel_rfl), (by show _ = _; kernel_rfl), (by show _ = _; kernel_rfl), (by show _ = _; kernel_rfl), (by show _ = _; kernel_rfl), (by show _ = _; kernel_rfl), (by show _ = _; kernel_rfl), (by show _ = _; kernel_rfl), (by show _ = _; kernel_rfl), (by show _ = _; kernel_rfl), (by show _ = _; kernel_rfl), (by show _ = _; kernel_rfl), (by show _ = _; kernel_rfl), (by show _ = _; kernel_rfl), (by show _ = _; kernel_rfl), (by show _ = _; kernel_rfl), (by show _ = _; kernel_rfl), (by show _ = _; kernel_rfl), (by show _ = _; kernel_rfl), (by show _ = _; kernel_rfl), (by show _ = _; kernel_rfl), (by show _ = _; kernel_rfl), (by show _ = _; kernel_rfl), (by show _ = _; kernel_rfl), (by show _ = _; kernel_rfl), (by show _ = _; kernel_rfl), (by show _ = _; kernel_rfl), (by show _ = _; kernel_rfl), (by show _ = _; kernel_rfl), (by show _ = _; kernel_rfl), (by show _ = _; kernel_rfl), trivial⟩
theorem t18_z (V : List DV) (t : Int) : ∀ q ∈ comps5, nextS aeC (E18 ok o) 18 0 Try.f18 (some 0) 4 (.exit 4) (d18 (.sl L m 2 c z) (.sl M k 2 c' z') N n V (ints (sortI q.dropLast)) t (lastI q) (idxL q)) (roundD aeC 18 0 0) = some (Ex.norm, s18 (.sl L m 2 c z) (.sl M k 2 c' z') N n V (ints (sortI q)) (IntKind.wrap IntKind.i64 (t + 1))) := by
  rw [comps5_eq]
  exact allL_mem ⟨(by show _ = _; kernel_rfl), (by show _ = _; kernel_rfl), (by show _ = _; kernel_rfl), (by show _ = _; kernel_rfl), (by show _ = _; kernel_rfl), (by show _ = _; kernel_rfl), (by show _ = _; kernel_rfl), (by show _ = _; kernel_rfl), (by show _ = _; kernel_rfl), (by show _ = _; kernel_rfl), (by show _ = _; kernel_rfl), (by show _ = _; kernel_rfl), (by show _ = _; kernel_rfl), (by show _ = _; kernel_rfl), (by show _ = _; kernel_rfl), (by show _ = _; kernel_rfl), (by show _ = _; kernel_rfl), (by show _ = _; kernel_rfl), (by show _ = _; kernel_rfl), (by show _ = _; kernel_rfl), (by show _ = _; kernel_rfl), (by show _ = _; kernel_rfl), (by show _ = _; kernel_rfl), (by show _ = _; kernel_rfl), (by show _ = _; kernel_rfl), (by show _ = _; kernel_rfl), (by show _ = _; kernel_rfl), (by show _ = _; kernel_rfl), (by show _ = _; kernel_rfl), (by show _ = _; kernel_rfl), (by show _ = _; kernel_rfl), trivial⟩
end
theorem k18 : OkSeg Try.f18 none [0] := ⟨by kernel_rfl, by kernel_rfl, by decide⟩
theorem k18_0 : OkSeg Try.f18 (some 0) [2, 4] := ⟨by kernel_rfl, by kernel_rfl, by decide⟩
theorem k18_2 : OkSeg Try.f18 (some 2) [] := ⟨by kernel_rfl, by kernel_rfl, by decide⟩
def oH (L : List DV) (x : Int) : Bool × Int := homeS (unPr L) x
theorem oH_ed (l : List (Int × Int)) (x : Int) : oH (edD l) x = homeS l x := by unfold oH; rw [unPr_ed]
theorem okH {l : List (Int × Int)} (hl : l.length < 9223372036854775808) (c z : Bool) (x : Int) : okS (i18 oH) 54 [.sl (edD l) l.length 2 c z, iD x] = true := by
  refine isP_iff.2 ?_
  show PureOK Try.prog 54 _ (.tup [bD (oH (edD l) x).1, iD (oH (edD l) x).2])
  rw [oH_ed]
  exact home_ok l hl c z x
section
variable {n : Nat} {f g : Int → Int} {l r : List (Int × Int)} {c c' z z' : Bool} (hn : n ≤ 10) (hl : l.length < 9223372036854775808) (hr : r.length < 9223372036854775808) (hf : Inv n f) (hg : Inv n g) (ef : ∀ x : Int, 0 ≤ x → x < n → (homeS l x).2 = f x) (eg : ∀ x : Int, 0 ≤ x → x < n → (homeS r x).2 = g x)
include hl hr hf hg ef eg
theorem loop18_2 {t : Int} {S : List Int} (O : List DV) : ∀ (k : Nat) (P : List Int) (x : Nat) (y : Int), x + 2 * k ≤ 1000 → (∀ u ∈ S ++ P, 0 ≤ u ∧ u < n) → 0 ≤ t → t < n → WalkOK n f g t S k P y →
    LoopAt aeC (E18 (okS (i18 oH)) oH) 18 0 Try.f18 2 (a18 (.sl (edD l) l.length 2 c z) (.sl (edD r) r.length 2 c' z') n n (bools (mk n (S ++ P))) O t x y) (.exit 2) (b18 (.sl (edD l) l.length 2 c z) (.sl (edD r) r.length 2 c' z') n n (bools (mk n (S ++ (P ++ cyc f g t k y)))) O t ((x : Int) + (cyc f g t k y).length))
  | 0, P, x, y, hx, hi, ht0, ht1, h => h.elim
  | k + 1, P, x, y, hx, hi, ht0, ht1, h => by
    unfold WalkOK at h
    obtain ⟨⟨h0, h1⟩, hy, hfy, h⟩ := h
    obtain ⟨q1, q2, _⟩ := hf y h0 h1
    obtain ⟨r1, r2, _⟩ := hg _ q1 q2
    have e1 : (oH (edD l) y).2 = f y := by rw [oH_ed, ef y h0 h1]
    have e2 : (oH (edD r) (f y)).2 = g (f y) := by rw [oH_ed, eg _ q1 q2]
    have hs : startS aeC (E18 (okS (i18 oH)) oH) 18 0 Try.f18 (some 2) (a18 (.sl (edD l) l.length 2 c z) (.sl (edD r) r.length 2 c' z') n n (bools (mk n (S ++ P))) O t x y) (roundD aeC 18 0 2) = some (Ex.norm, a18 (.sl (edD l) l.length 2 c z) (.sl (edD r) r.length 2 c' z') n n (bools (mk n (S ++ (P ++ [y, f y])))) O t ((x + 2 : Nat) : Int) (g (f y))) := by
      refine (t18_2 ..).trans ?_
      simp only [Bool.and_true]
      refine (inR_pos h0 h1).trans ?_
      rw [Nat.zero_add, Nat.mul_one, nth_bools_o (by rw [mk_len]; omega), mk_at h0 h1, getB_some, decide_eq_false hy, Bool.not_false, cond_true]
      refine (inR_pos h0 h1).trans ?_
      refine (ble_pos (by rw [len_bools, mk_len]; omega)).trans ?_
      rw [okH hl, cond_true, e1]
      refine (inR_pos q1 q2).trans ?_
      rw [setNth_bools_o, mk_set h0, Nat.zero_add, Nat.mul_one]
      refine (ble_pos (by rw [len_bools, mk_len]; omega)).trans ?_
      rw [okH hr, cond_true, e2, setNth_bools_o, mk_set q1, wrap64_o (by omega) (by omega)]
      simp
    have hi' : ∀ u ∈ S ++ (P ++ [y, f y]), 0 ≤ u ∧ u < n := by
      intro u hu
      rw [← List.append_assoc] at hu
      rcases List.mem_append.1 hu with hu | hu
      · exact hi u hu
      · simp only [List.mem_cons, List.not_mem_nil, or_false] at hu
        rcases hu with rfl | rfl
        · exact ⟨h0, h1⟩
        · exact ⟨q1, q2⟩
    unfold cyc
    by_cases e : g (f y) = t
    · rw [if_pos e] at h ⊢
      refine .next k18_2 hs (.out k18_2 (by simp) ((t18_2 ..).trans ?_))
      rw [e]
      simp only [Bool.and_true]
      refine (inR_pos ht0 ht1).trans ?_
      rw [Nat.zero_add, Nat.mul_one, nth_bools_o (by rw [mk_len]; omega), mk_at ht0 ht1, getB_some, decide_eq_true (List.mem_append_right _ h)]
      rfl
    · rw [if_neg e] at h ⊢
      have ih := loop18_2 O k (P ++ [y, f y]) (x + 2) (g (f y)) (by omega) hi' ht0 ht1 h
      have e3 : (x : Int) + (y :: f y :: cyc f g t k (g (f y))).length = ((x + 2 : Nat) : Int) + (cyc f g t k (g (f y))).length := by simp only [List.length_cons]; omega
      rw [e3, show P ++ y :: f y :: cyc f g t k (g (f y)) = P ++ [y, f y] ++ cyc f g t k (g (f y)) by simp]
      exact .next k18_2 hs ih
include hn
theorem loop18 : ∀ (j t : Nat) (S : List Int) (p : List Int), t + j = n → Met n f g S → halfs p → p.sum + (ringsL f g j t S).sum ≤ 10 → halfs (ringsL f g j t S) →
    LoopAt aeC (E18 (okS (i18 oH)) oH) 18 0 Try.f18 0 (s18 (.sl (edD l) l.length 2 c z) (.sl (edD r) r.length 2 c' z') n n (bools (mk n S)) (ints (sortI p)) t) (.exit 0) (x18 (ints (sortI (p ++ ringsL f g j t S))))
  | 0, t, S, p, h, hS, hp, hsum, hh => by
    rw [ringsL, List.append_nil]
    exact .out k18_0 (by simp) ((t18_0 ..).trans (cnd_neg (by omega)))
  | j + 1, t, S, p, h, hS, hp, hsum, hh => by
    have h0h : startS aeC (E18 (okS (i18 oH)) oH) 18 0 Try.f18 (some 0) (s18 (.sl (edD l) l.length 2 c z) (.sl (edD r) r.length 2 c' z') n n (bools (mk n S)) (ints (sortI p)) t) (heldD aeC 18 0) = some (2, a18 (.sl (edD l) l.length 2 c z) (.sl (edD r) r.length 2 c' z') n n (bools (mk n S)) (ints (sortI p)) t (0 : Nat) t) := (t18_0h ..).trans (cnd_pos (by omega))
    unfold ringsL at hsum hh ⊢
    by_cases ht : (t : Int) ∈ S
    · rw [if_pos ht] at hsum hh ⊢
      have hL : LoopAt aeC (E18 (okS (i18 oH)) oH) 18 0 Try.f18 2 (a18 (.sl (edD l) l.length 2 c z) (.sl (edD r) r.length 2 c' z') n n (bools (mk n S)) (ints (sortI p)) t (0 : Nat) t) (.exit 2) (b18 (.sl (edD l) l.length 2 c z) (.sl (edD r) r.length 2 c' z') n n (bools (mk n S)) (ints (sortI p)) t (0 : Nat)) := by
        refine .out k18_2 (by simp) ((t18_2 ..).trans ?_)
        simp only [Bool.and_true]
        refine (inR_pos (by omega) (by omega)).trans ?_
        rw [Nat.zero_add, Nat.mul_one, nth_bools_o (by rw [mk_len]; omega), mk_at (by omega) (by omega), getB_some, decide_eq_true ht]
        rfl
      have he : nextS aeC (E18 (okS (i18 oH)) oH) 18 0 Try.f18 (some 0) 2 (.exit 2) (b18 (.sl (edD l) l.length 2 c z) (.sl (edD r) r.length 2 c' z') n n (bools (mk n S)) (ints (sortI p)) t (0 : Nat)) (roundD aeC 18 0 0) = some (Ex.norm, s18 (.sl (edD l) l.length 2 c z) (.sl (edD r) r.length 2 c' z') n n (bools (mk n S)) (ints (sortI p)) ((t + 1 : Nat) : Int)) := by
        refine (t18_x ..).trans ((cnd_pos rfl).trans ?_)
        rw [wr1 (by omega)]
      exact .nextF k18_0 (startF_one k18_0 roundD_plain h0h hL he) (loop18 j (t + 1) S p (by omega) hS hp hsum hh)
    · rw [if_neg ht] at hsum hh ⊢
      obtain ⟨hw, hM⟩ := met_step hn hf hg hS ht (by omega) (by omega)
      have hC := hh _ (List.mem_cons_self ..)
      have hrest : halfs (ringsL f g j (t + 1) (S ++ cyc f g t 5 t)) := fun x hx => hh x (List.mem_cons_of_mem _ hx)
      generalize hCd : ((cyc f g t 5 t).length : Int) = C at *
      have hsn : ∀ q : List Int, halfs q → 0 ≤ q.sum := by
        intro q
        induction q with
        | nil => intro _; simp
        | cons y q ih =>
          intro h
          obtain ⟨k, h1, h2⟩ := h y (List.mem_cons_self ..)
          have := ih fun x hx => h x (List.mem_cons_of_mem _ hx)
          simp only [List.sum_cons]; omega
      have hC2 : 2 ≤ C := by obtain ⟨k, h1, h2⟩ := hC; omega
      have hpc : halfs (p ++ [C]) := by
        intro x hx
        rcases List.mem_append.1 hx with hx | hx
        · exact hp x hx
        · rw [List.mem_singleton] at hx; subst hx; exact hC
      have hs1 := hsn _ hp
      have hs2 := hsn _ hrest
      simp only [List.sum_cons] at hsum
      have hmem : p ++ [C] ∈ comps5 := comps5_mem hpc (by simp; omega) (by simp; omega)
      have hL2 := loop18_2 hl hr hf hg ef eg (c := c) (c' := c') (z := z) (z' := z') (ints (sortI p)) 5 [] 0 t (by omega) (by intro u hu; rw [List.append_nil] at hu; exact hS.inn u hu) (by omega) (by omega) hw
      rw [List.append_nil, List.nil_append, hCd] at hL2
      have e0 : ((0 : Nat) : Int) + C = C := by omega
      rw [e0] at hL2
      have ht4 : nextS aeC (E18 (okS (i18 oH)) oH) 18 0 Try.f18 (some 0) 2 (.exit 2) (b18 (.sl (edD l) l.length 2 c z) (.sl (edD r) r.length 2 c' z') n n (bools (mk n (S ++ cyc f g t 5 t))) (ints (sortI p)) t C) (heldD aeC 18 0) = some (4, d18 (.sl (edD l) l.length 2 c z) (.sl (edD r) r.length 2 c' z') n n (bools (mk n (S ++ cyc f g t 5 t))) (ints (sortI p)) t C 0) := (t18_y ..).trans (cnd_neg (by omega))
      have hL4 := LoopAt.inl (t18_4 (okS (i18 oH)) oH (edD l) (edD r) l.length r.length n c c' z z' n (bools (mk n (S ++ cyc f g t 5 t))) t _ hmem)
      have hz := t18_z (okS (i18 oH)) oH (edD l) (edD r) l.length r.length n c c' z z' n (bools (mk n (S ++ cyc f g t 5 t))) t _ hmem
      have e1 : (p ++ [C]).dropLast = p := by simp
      have e2 : lastI (p ++ [C]) = C := by simp [lastI]
      rw [e1, e2] at hL4 hz
      rw [wr1 (by omega)] at hz
      have ih := loop18 j (t + 1) (S ++ cyc f g t 5 t) (p ++ [C]) (by omega) hM hpc (by simp; omega) hrest
      rw [List.append_assoc] at ih
      exact .nextF k18_0 ((startF_seg k18_0 h0h hL2).trans ((nextF_seg k18_0 (by simp) (exit_small (by omega)) ht4 hL4).trans (nextF_done k18_0 roundD_plain hz))) ih
theorem rRings_ok (h2 : 2 ≤ n) : PureOK Try.prog 18 [iD n, .sl (edD l) l.length 2 c z, .sl (edD r) r.length 2 c' z'] (.sl (ints (sortI (ringsL f g n 0 []))) (lenOf 1 (ints (sortI (ringsL f g n 0 []))).length) 1 false (true && Nat.beq (ints (sortI (ringsL f g n 0 []))).length 0)) := by
  have hs := rings_sum hn hf hg n 0 [] (by omega) met_nil (by intro x h0 h1; omega)
  have h3 := hs.2
  simp only [List.length_nil] at h3
  have hL := loop18 hn hl hr hf hg ef eg (c := c) (c' := c') (z := z) (z' := z') n 0 [] [] (by omega) met_nil (by intro x hx; cases hx) (by simp at h3 ⊢; omega) hs.1
  have hh : startS aeC (E18 (okS (i18 oH)) oH) 18 0 Try.f18 none ⟨envOf 0 [.d (iD n), .d (.sl (edD l) l.length 2 c z), .d (.sl (edD r) r.length 2 c' z')], [], []⟩ (heldD aeC 18 0) = some (0, s18 (.sl (edD l) l.length 2 c z) (.sl (edD r) r.length 2 c' z') n n (bools (mk n [])) (ints (sortI [])) (0 : Nat)) := by
    refine (t18_h ..).trans ?_
    rw [decide_eq_true (show (0 : Int) ≤ n by omega), decide_eq_true (show (n : Int) ≤ n by omega), decide_eq_true (show (n : Int) ≤ 1048576 by omega), Int.toNat_natCast, mk_nil]
    rfl
  exact ae_pure (evW_ok [54] (i18 oH)) (fn := Try.f18) k18 (by kernel_rfl) (by kernel_rfl) (startF_one k18 done_plain hh hL (t18_e ..))
end
end Go.Proofs.Ytigijjinlalnaaa

/- Chapter 04: small functions of the law: names 20, few 13, teams 51 15 27, ints 17. -/
namespace Go.Proofs.Ytigijjinlalnaaa
open Go Go.AE
set_option maxRecDepth 100000
/-! ### Names -/
noncomputable def aeCn : Ctx := { aeC with pol := fun f b => cond (Nat.beq f 20 && Nat.beq b 0) (some ⟨[0, 1, 5, 6], [], [5]⟩) (aeC.pol f b) }
theorem ae_fnn {f : FuncId} {fn : Func} (h : tget aeF f = some fn) : FnOK Try.prog aeCn f fn := (ae_fn h).same (show aeCn.plan = aeC.plan from rfl)
theorem ae_puren {E : Ev} (hE : EvOK Try.prog E) {f : FuncId} {fn : Func} {ids : List Nat} {ds : List DV} {d : DV} (ok : OkSeg fn none ids) (h : tget aeF f = some fn) (hb : (fn.body.isSome && Nat.ble ds.length fn.ntmps) = true)
    (e : startF aeCn E f 0 fn none ⟨envOf 0 (ds.map .d), [], []⟩ (doneE aeCn fn 0 fun v h => freezeV h 4 v) = some d) (hfr : freshF f = false := by rfl) : PureOK Try.prog f ds d :=
  pure_of_go (C := aeCn) ae_T ae_Q ae_mixed hE (ae_fnn h) ok hb e hfr
def s20 (n : Int) (S : List DV) (q : Nat) (c z : Bool) (O : List DV) (k : Nat) (c' z' : Bool) (i : Int) : St := ⟨[(0, .d (iD n)), (1, .d (.sl S q 1 c z)), (5, .d (.sl O k 1 c' z')), (6, .d (iD i))], [], []⟩
def z20 (n : Int) (S : List DV) (q : Nat) (c z : Bool) : St := ⟨[(0, .d (iD n)), (1, .d (.sl S q 1 c z)), (5, .d (.sl [] 0 0 false true)), (6, .d (iD 0))], [], []⟩
def p20 (x i : Int) : Int := IntKind.wrap IntKind.i64 (Int.tmod (IntKind.wrap IntKind.u64 x) (IntKind.wrap IntKind.u64 (IntKind.wrap IntKind.i64 (i + 1))))
def W20 {X : Type} (O : List DV) (k : Nat) (z' : Bool) (i p : Int) (K : List DV → Bool → Option X) : Option X :=
  bif z' || true then (bif decide (0 ≤ p) && decide (p ≤ (k : Int)) then (bif z' || true then (bif Nat.ble (Int.toNat p - 0) 1048576 then
    (bif Nat.ble (lenOf 1 (List.length (sub O 0 ((Int.toNat p - 0) * 1))) + 1) 1048576 then (bif z' || true then (bif decide (0 ≤ p) && decide (p ≤ (k : Int)) then (bif z' || true then
    (bif Nat.ble (lenOf 1 (List.length (sub O 0 ((Int.toNat p - 0) * 1) ++ [iD i])) + (k - Int.toNat p)) 1048576 then
      K (sub O 0 ((Int.toNat p - 0) * 1) ++ [iD i] ++ sub O (Int.toNat p * 1) ((k - Int.toNat p) * 1)) (true && Nat.beq (List.length (sub O 0 ((Int.toNat p - 0) * 1) ++ [iD i] ++ sub O (Int.toNat p * 1) ((k - Int.toNat p) * 1))) 0)
    else none) else none) else none) else none) else none) else none) else none) else none) else none
def V20 {X : Type} (O : List DV) (k : Nat) (z' : Bool) (i : Int) (K : List DV → Bool → Option X) : Option X :=
  bif z' || true then (bif z' || true then (bif z' || true then (bif z' || true then (bif Nat.ble (1 + (k - 0)) 1048576 then K (iD i :: sub O 0 ((k - 0) * 1)) false else none) else none) else none) else none) else none
theorem t20_h (n : Int) (S : List DV) (q : Nat) (c z : Bool) : startS aeCn Ev.nil 20 0 Try.f20 none ⟨envOf 0 [.d (iD n), .d (.sl S q 1 c z)], [], []⟩ (heldD aeCn 20 0) = some (0, z20 n S q c z) := by kernel_rfl
theorem t20_0 (n : Int) (S : List DV) (q : Nat) (c z : Bool) (O : List DV) (k : Nat) (c' z' : Bool) (i : Int) : startS aeCn Ev.nil 20 0 Try.f20 (some 0) ⟨[(0, .d (iD n)), (1, .d (.sl S q 1 c z)), (5, .d (.sl O k 1 c' z')), (6, .d (iD i))], [], []⟩ (roundD aeCn 20 0 0) =
  bif decide (i < n) then (bif decide (i < (q : Int)) then (bif inRange i q then (getI (nth S (Int.toNat i * 1)) fun x0 => bif decide (IntKind.wrap IntKind.u64 (IntKind.wrap IntKind.i64 (i + 1)) = 0) then none else
      W20 O k z' i (p20 x0 i) fun O' b => some (Ex.norm, s20 n S q c z O' (lenOf 1 O'.length) false b (IntKind.wrap IntKind.i64 (i + 1)))) else none)
    else V20 O k z' i fun O' b => some (Ex.norm, s20 n S q c z O' (lenOf 1 O'.length) false b (IntKind.wrap IntKind.i64 (i + 1))))
  else some (Ex.exit 0, ⟨[(5, .d (.sl O k 1 c' z'))], [], []⟩) := by kernel_rfl
theorem t20_00 (n : Int) (S : List DV) (q : Nat) (c z : Bool) : startS aeCn Ev.nil 20 0 Try.f20 (some 0) (z20 n S q c z) (roundD aeCn 20 0 0) =
  bif decide (0 < n) then (bif decide (0 < (q : Int)) then (bif inRange 0 q then (getI (nth S 0) fun x0 => W20 [] 0 true 0 (p20 x0 0) fun O' b => some (Ex.norm, s20 n S q c z O' (lenOf 1 O'.length) false b 1)) else none)
    else some (Ex.norm, s20 n S q c z [iD 0] 1 false false 1))
  else some (Ex.exit 0, ⟨[(5, .d (.sl [] 0 0 false true))], [], []⟩) := by kernel_rfl
theorem t20_e (O : List DV) (k : Nat) (c' z' : Bool) : nextS aeCn Ev.nil 20 0 Try.f20 none 0 (.exit 0) ⟨[(5, .d (.sl O k 1 c' z'))], [], []⟩ (doneE aeCn Try.f20 0 fun v h => freezeP 20 h v) = some (DV.sl O k 1 c' z') := by kernel_rfl
theorem k20 : OkSeg Try.f20 none [0] := ⟨by kernel_rfl, by kernel_rfl, by decide⟩
theorem k20_0 : OkSeg Try.f20 (some 0) [] := ⟨by kernel_rfl, by kernel_rfl, by decide⟩
def posS (s : List Int) (i : Nat) : Nat := if i < s.length then (IntKind.wrap .u64 (s.getD i 0)).toNat % (i + 1) else 0
/-- Names: each number put where the list says. -/
def namesS (s : List Int) : Nat → List Int
  | 0 => []
  | i + 1 => (namesS s i).take (posS s i) ++ [(i : Int)] ++ (namesS s i).drop (posS s i)
theorem pos_le (s : List Int) (i : Nat) : posS s i ≤ i := by
  unfold posS
  split
  · have := Nat.mod_lt (IntKind.wrap .u64 (s.getD i 0)).toNat (show 0 < i + 1 by omega); omega
  · omega
theorem names_len (s : List Int) : ∀ i, (namesS s i).length = i
  | 0 => rfl
  | i + 1 => by
    have h1 := names_len s i
    have h2 := pos_le s i
    simp only [namesS, List.length_append, List.length_take, List.length_drop, List.length_singleton, h1]
    omega
theorem sub_ints (l : List Int) (a k : Nat) : sub (ints l) a k = ints ((l.drop a).take k) := by
  unfold ints
  rw [show sub (l.map iD) a k = ((l.map iD).drop a).take k from rfl, ← List.map_drop, ← List.map_take]
theorem p20_eq {x : Int} {i : Nat} (hi : i < 1000) : p20 x i = ((IntKind.wrap .u64 x).toNat % (i + 1) : Nat) := by
  unfold p20
  have h1 : IntKind.wrap IntKind.i64 ((i : Int) + 1) = (i : Int) + 1 := wrap64_o (by omega) (by omega)
  have h2 : IntKind.wrap IntKind.u64 ((i : Int) + 1) = (i : Int) + 1 := by rw [wrapU_eq]; omega
  have h0 : 0 ≤ IntKind.wrap IntKind.u64 x := by rw [wrapU_eq]; omega
  rw [h1, h2, Int.tmod_eq_emod_of_nonneg h0]
  have h3 : IntKind.wrap IntKind.u64 x % ((i : Int) + 1) < (i : Int) + 1 := Int.emod_lt_of_pos _ (by omega)
  have h4 : 0 ≤ IntKind.wrap IntKind.u64 x % ((i : Int) + 1) := Int.emod_nonneg _ (by omega)
  rw [wrap64_o (by omega) (by omega)]
  rw [Int.natCast_emod, Int.toNat_of_nonneg h0]
  rfl
theorem W20_ok {X : Type} {O : List Int} {z' : Bool} {i p : Nat} (hO : O.length = i) (hp : p ≤ i) (hi : i ≤ 1000) (K : List DV → Bool → Option X) : W20 (ints O) i z' i (p : Int) K = K (ints (O.take p ++ [(i : Int)] ++ O.drop p)) false := by
  unfold W20
  have e1 : sub (ints O) 0 ((Int.toNat (p : Int) - 0) * 1) ++ [iD (i : Int)] ++ sub (ints O) (Int.toNat (p : Int) * 1) ((i - Int.toNat (p : Int)) * 1) = ints (O.take p ++ [(i : Int)] ++ O.drop p) := by
    rw [sub_ints, sub_ints, Int.toNat_natCast, Nat.sub_zero, Nat.mul_one, List.drop_zero, Nat.mul_one, ints_app1, ← ints_app, List.take_of_length_le (l := O.drop p) (by simp; omega)]
  have e2 : (ints (O.take p ++ [(i : Int)] ++ O.drop p)).length = i + 1 := by simp [ints]; omega
  rw [e1, e2, decide_eq_true (show (0 : Int) ≤ (p : Int) by omega), decide_eq_true (show (p : Int) ≤ (i : Int) by omega)]
  simp only [Bool.or_true, cond_true, Bool.and_self]
  refine (ble_pos (by rw [Int.toNat_natCast]; omega)).trans ?_
  refine (ble_pos (by rw [sub_ints, lenOf_1, len_ints]; simp; omega)).trans ?_
  refine (ble_pos (by rw [sub_ints, lenOf_1, ints_app1, len_ints]; simp; omega)).trans ?_
  rfl
theorem V20_ok {X : Type} {O : List Int} {z' : Bool} {i : Nat} (hO : O.length = i) (hi : i ≤ 1000) (K : List DV → Bool → Option X) : V20 (ints O) i z' i K = K (ints ([(i : Int)] ++ O)) false := by
  unfold V20
  rw [Bool.or_true, cond_true, cond_true, cond_true, cond_true]
  refine (ble_pos (by omega)).trans ?_
  rw [sub_ints, List.drop_zero, List.take_of_length_le (by omega)]; rfl
theorem loop20 {n : Nat} (hn : n ≤ 100) (s : List Int) (c z : Bool) : ∀ (j i : Nat), i + j = n → 1 ≤ i →
    LoopAt aeCn Ev.nil 20 0 Try.f20 0 (s20 n (ints s) s.length c z (ints (namesS s i)) i false false i) (.exit 0) ⟨[(5, .d (.sl (ints (namesS s n)) n 1 false false))], [], []⟩
  | 0, i, h, h1 => by
    have : i = n := by omega
    subst this
    exact .out k20_0 (by simp) ((t20_0 ..).trans (cnd_neg (by omega)))
  | j + 1, i, h, h1 => by
    refine .next k20_0 ?_ (loop20 hn s c z j (i + 1) (by omega) (by omega))
    have hl := names_len s i
    have hp := pos_le s i
    refine (t20_0 ..).trans ((cnd_pos (by omega)).trans ?_)
    have hw : IntKind.wrap IntKind.i64 ((i : Int) + 1) = ((i + 1 : Nat) : Int) := wr1 (by omega)
    have hN1 : (ints (namesS s (i + 1))).length = i + 1 := by rw [len_ints, names_len]
    by_cases hq : i < s.length
    · refine (cnd_pos (by omega)).trans ((inR_pos (by omega) (by omega)).trans ?_)
      rw [Int.toNat_natCast, Nat.mul_one, nth_ints_o hq, getI_some]
      refine (cnd_neg (by rw [hw, wrapU_eq]; omega)).trans ?_
      have hpe : p20 (s.getD i 0) i = (posS s i : Nat) := by rw [p20_eq (by omega)]; unfold posS; rw [if_pos hq]
      rw [hpe, W20_ok hl hp (by omega), hw]
      show some (Ex.norm, s20 _ _ _ _ _ (ints (namesS s (i + 1))) (lenOf 1 (ints (namesS s (i + 1))).length) false false _) = _
      rw [hN1]; rfl
    · refine (cnd_neg (by omega)).trans ?_
      have hp0 : posS s i = 0 := by unfold posS; rw [if_neg hq]
      have hN : namesS s (i + 1) = [(i : Int)] ++ namesS s i := by
        show (namesS s i).take (posS s i) ++ [(i : Int)] ++ (namesS s i).drop (posS s i) = _
        rw [hp0]; simp
      rw [V20_ok hl (by omega), hw, ← hN, lenOf_1, hN1]
theorem names_ok {n : Nat} (h1 : 1 ≤ n) (hn : n ≤ 100) (s : List Int) (c z : Bool) : PureOK Try.prog 20 [iD n, .sl (ints s) s.length 1 c z] (.sl (ints (namesS s n)) n 1 false false) := by
  have hr : startS aeCn Ev.nil 20 0 Try.f20 (some 0) (z20 n (ints s) s.length c z) (roundD aeCn 20 0 0) = some (Ex.norm, s20 n (ints s) s.length c z (ints (namesS s 1)) 1 false false (1 : Nat)) := by
    refine (t20_00 ..).trans ((cnd_pos (by omega)).trans ?_)
    have hn1 : namesS s 1 = [0] := by
      have := pos_le s 0
      simp [namesS]
    by_cases hq : 0 < s.length
    · refine (cnd_pos (by omega)).trans ((inR_pos (by omega) (by omega)).trans ?_)
      rw [nth_ints_o hq, getI_some]
      have hpe : p20 (s.getD 0 0) (0 : Nat) = (((IntKind.wrap .u64 (s.getD 0 0)).toNat % (0 + 1) : Nat) : Int) := p20_eq (by omega)
      have hpe : p20 (s.getD 0 0) 0 = 0 := by rw [Nat.zero_add, Nat.mod_one] at hpe; exact hpe
      rw [hpe, hn1]
      exact W20_ok (O := []) (i := 0) (p := 0) rfl (by omega) (by omega) _
    · refine (cnd_neg (by omega)).trans ?_
      rw [hn1]; rfl
  exact ae_puren EvOK.nil (fn := Try.f20) k20 (by kernel_rfl) (by kernel_rfl) (startF_one k20 done_plain (t20_h ..) (.next k20_0 hr (loop20 hn s c z (n - 1) 1 (by omega) (by omega))) (t20_e ..))
end Go.Proofs.Ytigijjinlalnaaa

/- Chapter 04: tame 19, its rounds by the kernel. Written by wip/tools/gen19.py. -/
namespace Go.Proofs.Ytigijjinlalnaaa
open Go Go.AE
set_option maxRecDepth 100000
def allP {α : Type} (P : α → Prop) : List α → Prop
  | [] => True
  | x :: l => P x ∧ allP P l
theorem allP_mem {α : Type} {P : α → Prop} : ∀ {l : List α}, allP P l → ∀ x ∈ l, P x
  | [], _, x, h => by cases h
  | y :: l, h, x, hx => by
    rcases List.mem_cons.1 hx with rfl | hx
    · exact h.1
    · exact allP_mem h.2 x hx
noncomputable def aeC4 : Ctx := { aeC.open' [41] with settle := false }
theorem ae_fn4 {f : FuncId} {fn : Func} (h : tget aeF f = some fn) : FnOK Try.prog aeC4 f fn := (ae_fn h).same (show aeC4.plan = aeC.plan from rfl)
theorem ae_pure4 {E : Ev} (hE : EvOK Try.prog E) {f : FuncId} {fn : Func} {ids : List Nat} {ds : List DV} {d : DV} (ok : OkSeg fn none ids) (h : tget aeF f = some fn) (hb : (fn.body.isSome && Nat.ble ds.length fn.ntmps) = true)
    (e : startF aeC4 E f 0 fn none ⟨envOf 0 (ds.map .d), [], []⟩ (doneE aeC4 fn 0 fun v h => freezeV h 4 v) = some d) (hfr : freshF f = false := by rfl) : PureOK Try.prog f ds d :=
  pure_of_go (C := aeC4) ae_T ae_Q ae_mixed hE (ae_fn4 h) ok hb e hfr
def i19 (m : Int) (X : List DV) (k : Nat) (f : Nat) (ds : List DV) : DV := bif Nat.beq f 27 then iD m else .sl X k 1 false false
noncomputable def E19 (ok : Nat → List DV → Bool) (m : Int) (X : List DV) (k : Nat) : Ev := evO aeC4 aeF (evT ok (i19 m X k)) [20, 27] [] 30 40
theorem E19_ok (m : Int) (X : List DV) (k : Nat) : EvOK Try.prog (E19 (okS (i19 m X k)) m X k) := evO_ok (C := aeC4) ae_T ae_Q ae_mixed (fun _ _ h => ae_fn4 h) (evT_ok (i19 m X k)) [20, 27] [] 30 40
def H19 (r sh i : Nat) (R : List (List DV)) : List Blk := .ac ((List.range r).map fun k => AV.grow (k+1) 2 false) :: (R.map .dc ++ [if i=0 then .dc [] else .ac ((List.range i).map fun k => AV.grow ((k+sh)%r+1) 2 false)])
def s19 (r : Nat) (S : DV) (sh i : Nat) (R : List (List DV)) : St := ⟨[(0, .d (iD ((r + 1 : Nat) : Int))), (1, .d S), (6, AV.grow 0 1 false), (7, AV.grow (r + 1) 1 false), (8, .d (iD sh)), (9, .d (iD i))], H19 r sh i R, []⟩
def d19 (r : Nat) (S : DV) (sh i : Nat) (R : List (List DV)) (j : Int) : St := ⟨[(0, .d (iD ((r + 1 : Nat) : Int))), (1, .d S), (6, AV.grow 0 1 false), (7, AV.grow (r + 1) 1 false), (8, .d (iD sh)), (9, .d (iD i)), (10, .grow ((i+sh)%r+1) 2 false), (11, .d (iD j))], H19 r sh i R, []⟩
def c19 (r : Nat) (S : DV) (sh i : Nat) (R : List (List DV)) : St := ⟨[(0, .d (iD ((r + 1 : Nat) : Int))), (1, .d S), (6, AV.grow 0 1 false), (7, AV.grow (r + 1) 1 false), (8, .d (iD sh)), (9, .d (iD i)), (10, .grow ((i+sh)%r+1) 2 false)], H19 r sh i R, []⟩
def x19 (r : Nat) (R : List (List DV)) : St := ⟨[(0, .d (iD ((r + 1 : Nat) : Int))), (7, AV.grow 0 1 false)], .ac ((List.range r).map fun k => AV.grow (k+1) 2 false) :: R.map .dc, []⟩
def rot (r sh : Nat) (R : List (List DV)) : List (List DV) := (List.range r).map fun k => R.getD ((k + sh) % r) []
def e19 (i q : Nat) (len : Nat) (j : Int) : Int := Int.tmod (IntKind.wrap IntKind.i64 (IntKind.wrap IntKind.i64 ((i : Int) * (len : Int)) + j)) (q : Int)
def W19 {X : Type} (S : List DV) (q i : Nat) (A : List DV) (j : Int) (out : Option X) (K : List DV → Option X) : Option X :=
  bif decide (j < (lenOf 2 A.length : Int)) then (bif decide (0 < (q : Int)) then (bif decide ((q : Int) = 0) then none else
    bif inRange (e19 i q (lenOf 2 A.length) j) q then (getI (nth S (Int.toNat (e19 i q (lenOf 2 A.length) j) * 1)) fun x0 => bif decide (Int.tmod (IntKind.wrap IntKind.u64 x0) 2 = 1) then
      (bif inRange j (lenOf 2 A.length) then (getI (nth A (Int.toNat j * 2 + 1)) fun x1 => bif inRange j (lenOf 2 A.length) then (getI (nth A (Int.toNat j * 2 + 0)) fun x2 => bif inRange j (lenOf 2 A.length) then
        (bif Nat.ble (Int.toNat j * 2 + 2) A.length then K (setMany A (Int.toNat j * 2) [iD x1, iD x2]) else none) else none) else none) else none)
      else K A) else none)
    else K A)
  else out
/-- The opening of a tournament, as the document turns it. -/
def turnedM (m : Nat) : List (List Nat) := (List.range (m - 1)).map fun i => [m - 1, i] ++ (List.range (m / 2 - 1)).flatMap fun j => [(i + (j + 1)) % (m - 1), (i + m - 1 - (j + 1)) % (m - 1)]
def renD (X : List DV) (T : List (List Nat)) : List (List DV) := T.map fun row => row.map fun a => (nth X a).getD (iD 0)
def h19 (r : Nat) (S : DV) (sh : Int) (R : List (List DV)) : St := ⟨[(0, .d (iD ((r + 1 : Nat) : Int))), (1, .d S), (6, AV.grow 0 1 false), (7, AV.grow (r + 1) 1 false), (8, .d (iD sh)), (9, .d (iD 0))], H19 r 0 0 R, []⟩

theorem len1 {α : Type} : ∀ {R : List α}, R.length = 1 → ∃ A0, R = [A0]
  | [A0], _ => ⟨A0, rfl⟩
theorem len2' {α : Type} : ∀ {R : List α}, R.length = 2 → ∃ x0 x1, R = [x0, x1]
  | [x0, x1], _ => ⟨x0, x1, rfl⟩
theorem t19_h2 (ok : Nat → List DV → Bool) (S : List DV) (q : Nat) (c z : Bool) (n x0 x1 : Int) : startS aeC4 (E19 ok 2 [iD x0, iD x1] 2) 19 0 Try.f19 none ⟨envOf 0 [.d (iD n), .d (.sl S q 1 c z)], [], []⟩ (heldD aeC4 19 0) = bif ok 27 [iD n, iD 10] then (bif ok 20 [iD 2, .sl S q 1 c z] then some (0, h19 1 (.sl S q 1 c z) (Int.tmod (q : Int) 1) (renD [iD x0, iD x1] (turnedM 2))) else none) else none := by kernel_rfl
section
variable (ok : Nat → List DV → Bool) (m : Int) (X S : List DV) (k q : Nat) (c z : Bool) (A0 : List DV)
theorem t19_0h1 : ∀ p ∈ [(0, 0)], startS aeC4 (E19 ok m X k) 19 0 Try.f19 (some 0) (s19 1 (.sl S q 1 c z) p.1 p.2 [A0]) (heldD aeC4 19 0) = some (2, d19 1 (.sl S q 1 c z) p.1 p.2 [A0] 0) := allP_mem ⟨(by show _ = _; kernel_rfl), trivial⟩
theorem t19_0x1 : ∀ p ∈ [0], startS aeC4 (E19 ok m X k) 19 0 Try.f19 (some 0) (s19 1 (.sl S q 1 c z) p 1 [A0]) (roundD aeC4 19 0 0) = some (.exit 0, x19 1 (rot 1 p [A0])) := allP_mem ⟨(by show _ = _; kernel_rfl), trivial⟩
theorem t19_21 (j : Int) : ∀ p ∈ [(0, 0)], startS aeC4 (E19 ok m X k) 19 0 Try.f19 (some 2) (d19 1 (.sl S q 1 c z) p.1 p.2 [A0] j) (roundD aeC4 19 0 2) = W19 S q p.2 ([A0].getD ((p.2 + p.1) % 1) []) j (some (.exit 2, c19 1 (.sl S q 1 c z) p.1 p.2 [A0])) fun A' => some (.norm, d19 1 (.sl S q 1 c z) p.1 p.2 ([A0].set ((p.2 + p.1) % 1) A') (IntKind.wrap .i64 (j + 1))) := allP_mem ⟨(by show _ = _; kernel_rfl), trivial⟩
theorem t19_y1 : ∀ p ∈ [(0, 0)], nextS aeC4 (E19 ok m X k) 19 0 Try.f19 (some 0) 2 (.exit 2) (c19 1 (.sl S q 1 c z) p.1 p.2 [A0]) (roundD aeC4 19 0 0) = some (.norm, s19 1 (.sl S q 1 c z) p.1 (p.2 + 1) [A0]) := allP_mem ⟨(by show _ = _; kernel_rfl), trivial⟩
theorem t19_e1 : nextS aeC4 (E19 ok m X k) 19 0 Try.f19 none 0 (.exit 0) (x19 1 [A0]) (doneE aeC4 Try.f19 0 fun v h => freezeP 19 h v) = some (.tup [iD ((1 + 1 : Nat) : Int), .sl ([A0].map fun A => .sl A (lenOf 2 A.length) 2 false (true && Nat.beq A.length 0)) 1 1 false false]) := by kernel_rfl
end

theorem len3 {α : Type} : ∀ {R : List α}, R.length = 3 → ∃ A0 A1 A2, R = [A0, A1, A2]
  | [A0, A1, A2], _ => ⟨A0, A1, A2, rfl⟩
theorem len4' {α : Type} : ∀ {R : List α}, R.length = 4 → ∃ x0 x1 x2 x3, R = [x0, x1, x2, x3]
  | [x0, x1, x2, x3], _ => ⟨x0, x1, x2, x3, rfl⟩
theorem t19_h4 (ok : Nat → List DV → Bool) (S : List DV) (q : Nat) (c z : Bool) (n x0 x1 x2 x3 : Int) : startS aeC4 (E19 ok 4 [iD x0, iD x1, iD x2, iD x3] 4) 19 0 Try.f19 none ⟨envOf 0 [.d (iD n), .d (.sl S q 1 c z)], [], []⟩ (heldD aeC4 19 0) = bif ok 27 [iD n, iD 10] then (bif ok 20 [iD 4, .sl S q 1 c z] then some (0, h19 3 (.sl S q 1 c z) (Int.tmod (q : Int) 3) (renD [iD x0, iD x1, iD x2, iD x3] (turnedM 4))) else none) else none := by kernel_rfl
section
variable (ok : Nat → List DV → Bool) (m : Int) (X S : List DV) (k q : Nat) (c z : Bool) (A0 A1 A2 : List DV)
theorem t19_0h3 : ∀ p ∈ [(0, 0), (0, 1), (0, 2), (1, 0), (1, 1), (1, 2), (2, 0), (2, 1), (2, 2)], startS aeC4 (E19 ok m X k) 19 0 Try.f19 (some 0) (s19 3 (.sl S q 1 c z) p.1 p.2 [A0, A1, A2]) (heldD aeC4 19 0) = some (2, d19 3 (.sl S q 1 c z) p.1 p.2 [A0, A1, A2] 0) := allP_mem ⟨(by show _ = _; kernel_rfl), (by show _ = _; kernel_rfl), (by show _ = _; kernel_rfl), (by show _ = _; kernel_rfl), (by show _ = _; kernel_rfl), (by show _ = _; kernel_rfl), (by show _ = _; kernel_rfl), (by show _ = _; kernel_rfl), (by show _ = _; kernel_rfl), trivial⟩
theorem t19_0x3 : ∀ p ∈ [0, 1, 2], startS aeC4 (E19 ok m X k) 19 0 Try.f19 (some 0) (s19 3 (.sl S q 1 c z) p 3 [A0, A1, A2]) (roundD aeC4 19 0 0) = some (.exit 0, x19 3 (rot 3 p [A0, A1, A2])) := allP_mem ⟨(by show _ = _; kernel_rfl), (by show _ = _; kernel_rfl), (by show _ = _; kernel_rfl), trivial⟩
theorem t19_23 (j : Int) : ∀ p ∈ [(0, 0), (0, 1), (0, 2), (1, 0), (1, 1), (1, 2), (2, 0), (2, 1), (2, 2)], startS aeC4 (E19 ok m X k) 19 0 Try.f19 (some 2) (d19 3 (.sl S q 1 c z) p.1 p.2 [A0, A1, A2] j) (roundD aeC4 19 0 2) = W19 S q p.2 ([A0, A1, A2].getD ((p.2 + p.1) % 3) []) j (some (.exit 2, c19 3 (.sl S q 1 c z) p.1 p.2 [A0, A1, A2])) fun A' => some (.norm, d19 3 (.sl S q 1 c z) p.1 p.2 ([A0, A1, A2].set ((p.2 + p.1) % 3) A') (IntKind.wrap .i64 (j + 1))) := allP_mem ⟨(by show _ = _; kernel_rfl), (by show _ = _; kernel_rfl), (by show _ = _; kernel_rfl), (by show _ = _; kernel_rfl), (by show _ = _; kernel_rfl), (by show _ = _; kernel_rfl), (by show _ = _; kernel_rfl), (by show _ = _; kernel_rfl), (by show _ = _; kernel_rfl), trivial⟩
theorem t19_y3 : ∀ p ∈ [(0, 0), (0, 1), (0, 2), (1, 0), (1, 1), (1, 2), (2, 0), (2, 1), (2, 2)], nextS aeC4 (E19 ok m X k) 19 0 Try.f19 (some 0) 2 (.exit 2) (c19 3 (.sl S q 1 c z) p.1 p.2 [A0, A1, A2]) (roundD aeC4 19 0 0) = some (.norm, s19 3 (.sl S q 1 c z) p.1 (p.2 + 1) [A0, A1, A2]) := allP_mem ⟨(by show _ = _; kernel_rfl), (by show _ = _; kernel_rfl), (by show _ = _; kernel_rfl), (by show _ = _; kernel_rfl), (by show _ = _; kernel_rfl), (by show _ = _; kernel_rfl), (by show _ = _; kernel_rfl), (by show _ = _; kernel_rfl), (by show _ = _; kernel_rfl), trivial⟩
theorem t19_e3 : nextS aeC4 (E19 ok m X k) 19 0 Try.f19 none 0 (.exit 0) (x19 3 [A0, A1, A2]) (doneE aeC4 Try.f19 0 fun v h => freezeP 19 h v) = some (.tup [iD ((3 + 1 : Nat) : Int), .sl ([A0, A1, A2].map fun A => .sl A (lenOf 2 A.length) 2 false (true && Nat.beq A.length 0)) 3 1 false false]) := by kernel_rfl
end

theorem len5 {α : Type} : ∀ {R : List α}, R.length = 5 → ∃ A0 A1 A2 A3 A4, R = [A0, A1, A2, A3, A4]
  | [A0, A1, A2, A3, A4], _ => ⟨A0, A1, A2, A3, A4, rfl⟩
theorem len6' {α : Type} : ∀ {R : List α}, R.length = 6 → ∃ x0 x1 x2 x3 x4 x5, R = [x0, x1, x2, x3, x4, x5]
  | [x0, x1, x2, x3, x4, x5], _ => ⟨x0, x1, x2, x3, x4, x5, rfl⟩
theorem t19_h6 (ok : Nat → List DV → Bool) (S : List DV) (q : Nat) (c z : Bool) (n x0 x1 x2 x3 x4 x5 : Int) : startS aeC4 (E19 ok 6 [iD x0, iD x1, iD x2, iD x3, iD x4, iD x5] 6) 19 0 Try.f19 none ⟨envOf 0 [.d (iD n), .d (.sl S q 1 c z)], [], []⟩ (heldD aeC4 19 0) = bif ok 27 [iD n, iD 10] then (bif ok 20 [iD 6, .sl S q 1 c z] then some (0, h19 5 (.sl S q 1 c z) (Int.tmod (q : Int) 5) (renD [iD x0, iD x1, iD x2, iD x3, iD x4, iD x5] (turnedM 6))) else none) else none := by kernel_rfl
section
variable (ok : Nat → List DV → Bool) (m : Int) (X S : List DV) (k q : Nat) (c z : Bool) (A0 A1 A2 A3 A4 : List DV)
theorem t19_0h5 : ∀ p ∈ [(0, 0), (0, 1), (0, 2), (0, 3), (0, 4), (1, 0), (1, 1), (1, 2), (1, 3), (1, 4), (2, 0), (2, 1), (2, 2), (2, 3), (2, 4), (3, 0), (3, 1), (3, 2), (3, 3), (3, 4), (4, 0), (4, 1), (4, 2), (4, 3), (4, 4)], startS aeC4 (E19 ok m X k) 19 0 Try.f19 (some 0) (s19 5 (.sl S q 1 c z) p.1 p.2 [A0, A1, A2, A3, A4]) (heldD aeC4 19 0) = some (2, d19 5 (.sl S q 1 c z) p.1 p.2 [A0, A1, A2, A3, A4] 0) := allP_mem ⟨(by show _ = _; kernel_rfl), (by show _ = _; kernel_rfl), (by show _ = _; kernel_rfl), (by show _ = _; kernel_rfl), (by show _ = _; kernel_rfl), (by show _ = _; kernel_rfl), (by show _ = _; kernel_rfl), (by show _ = _; kernel_rfl), (by show _ = _; kernel_rfl), (by show _ = _; kernel_rfl), (by show _ = _; kernel_rfl), (by show _ = _; kernel_rfl), (by show _ = _; kernel_rfl), (by show _ = _; kernel_rfl), (by show _ = _; kernel_rfl), (by show _ = _; kernel_rfl), (by show _ = _; kernel_rfl), (by show _ = _; kernel_rfl), (by show _ = _; kernel_rfl), (by show _ = _; kernel_rfl), (by show _ = _; kernel_rfl), (by show _ = _; kernel_rfl), (by show _ = _; kernel_rfl), (by show _ = _; kernel_rfl), (by show _ = _; kernel_rfl), trivial⟩
theorem t19_0x5 : ∀ p ∈ [0, 1, 2, 3, 4], startS aeC4 (E19 ok m X k) 19 0 Try.f19 (some 0) (s19 5 (.sl S q 1 c z) p 5 [A0, A1, A2, A3, A4]) (roundD aeC4 19 0 0) = some (.exit 0, x19 5 (rot 5 p [A0, A1, A2, A3, A4])) := allP_mem ⟨(by show _ = _; kernel_rfl), (by show _ = _; kernel_rfl), (by show _ = _; kernel_rfl), (by show _ = _; kernel_rfl), (by show _ = _; kernel_rfl), trivial⟩
theorem t19_25 (j : Int) : ∀ p ∈ [(0, 0), (0, 1), (0, 2), (0, 3), (0, 4), (1, 0), (1, 1), (1, 2), (1, 3), (1, 4), (2, 0), (2, 1), (2, 2), (2, 3), (2, 4), (3, 0), (3, 1), (3, 2), (3, 3), (3, 4), (4, 0), (4, 1), (4, 2), (4, 3), (4, 4)], startS aeC4 (E19 ok m X k) 19 0 Try.f19 (some 2) (d19 5 (.sl S q 1 c z) p.1 p.2 [A0, A1, A2, A3, A4] j) (roundD aeC4 19 0 2) = W19 S q p.2 ([A0, A1, A2, A3, A4].getD ((p.2 + p.1) % 5) []) j (some (.exit 2, c19 5 (.sl S q 1 c z) p.1 p.2 [A0, A1, A2, A3, A4])) fun A' => some (.norm, d19 5 (.sl S q 1 c z) p.1 p.2 ([A0, A1, A2, A3, A4].set ((p.2 + p.1) % 5) A') (IntKind.wrap .i64 (j + 1))) := allP_mem ⟨(by show _ = _; kernel_rfl), (by show _ = _; kernel_rfl), (by show _ = _; kernel_rfl), (by show _ = _; kernel_rfl), (by show _ = _; kernel_rfl), (by show _ = _; kernel_rfl), (by show _ = _; kernel_rfl), (by show _ = _; kernel_rfl), (by show _ = _; kernel_rfl), (by show _ = _; kernel_rfl), (by show _ = _; kernel_rfl), (by show _ = _; kernel_rfl), (by show _ = _; kernel_rfl), (by show _ = _; kernel_rfl), (by show _ = _; kernel_rfl), (by show _ = _; kernel_rfl), (by show _ = _; kernel_rfl), (by show _ = _; kernel_rfl), (by show _ = _; kernel_rfl), (by show _ = _; kernel_rfl), (by show _ = _; kernel_rfl), (by show _ = _; kernel_rfl), (by show _ = _; kernel_rfl), (by show _ = _; kernel_rfl), (by show _ = _; kernel_rfl), trivial⟩
theorem t19_y5 : ∀ p ∈ [(0, 0), (0, 1), (0, 2), (0, 3), (0, 4), (1, 0), (1, 1), (1, 2), (1, 3), (1, 4), (2, 0), (2, 1), (2, 2), (2, 3), (2, 4), (3, 0), (3, 1), (3, 2), (3, 3), (3, 4), (4, 0), (4, 1), (4, 2), (4, 3), (4, 4)], nextS aeC4 (E19 ok m X k) 19 0 Try.f19 (some 0) 2 (.exit 2) (c19 5 (.sl S q 1 c z) p.1 p.2 [A0, A1, A2, A3, A4]) (roundD aeC4 19 0 0) = some (.norm, s19 5 (.sl S q 1 c z) p.1 (p.2 + 1) [A0, A1, A2, A3, A4]) := allP_mem ⟨(by show _ = _; kernel_rfl), (by show _ = _; kernel_rfl), (by show _ = _; kernel_rfl), (by show _ = _; kernel_rfl), (by show _ = _; kernel_rfl), (by show _ = _; kernel_rfl), (by show _ = _; kernel_rfl), (by show _ = _; kernel_rfl), (by show _ = _; kernel_rfl), (by show _ = _; kernel_rfl), (by show _ = _; kernel_rfl), (by show _ = _; kernel_rfl), (by show _ = _; kernel_rfl), (by show _ = _; kernel_rfl), (by show _ = _; kernel_rfl), (by show _ = _; kernel_rfl), (by show _ = _; kernel_rfl), (by show _ = _; kernel_rfl), (by show _ = _; kernel_rfl), (by show _ = _; kernel_rfl), (by show _ = _; kernel_rfl), (by show _ = _; kernel_rfl), (by show _ = _; kernel_rfl), (by show _ = _; kernel_rfl), (by show _ = _; kernel_rfl), trivial⟩
theorem t19_e5 : nextS aeC4 (E19 ok m X k) 19 0 Try.f19 none 0 (.exit 0) (x19 5 [A0, A1, A2, A3, A4]) (doneE aeC4 Try.f19 0 fun v h => freezeP 19 h v) = some (.tup [iD ((5 + 1 : Nat) : Int), .sl ([A0, A1, A2, A3, A4].map fun A => .sl A (lenOf 2 A.length) 2 false (true && Nat.beq A.length 0)) 5 1 false false]) := by kernel_rfl
end

theorem len7 {α : Type} : ∀ {R : List α}, R.length = 7 → ∃ A0 A1 A2 A3 A4 A5 A6, R = [A0, A1, A2, A3, A4, A5, A6]
  | [A0, A1, A2, A3, A4, A5, A6], _ => ⟨A0, A1, A2, A3, A4, A5, A6, rfl⟩
theorem len8' {α : Type} : ∀ {R : List α}, R.length = 8 → ∃ x0 x1 x2 x3 x4 x5 x6 x7, R = [x0, x1, x2, x3, x4, x5, x6, x7]
  | [x0, x1, x2, x3, x4, x5, x6, x7], _ => ⟨x0, x1, x2, x3, x4, x5, x6, x7, rfl⟩
theorem t19_h8 (ok : Nat → List DV → Bool) (S : List DV) (q : Nat) (c z : Bool) (n x0 x1 x2 x3 x4 x5 x6 x7 : Int) : startS aeC4 (E19 ok 8 [iD x0, iD x1, iD x2, iD x3, iD x4, iD x5, iD x6, iD x7] 8) 19 0 Try.f19 none ⟨envOf 0 [.d (iD n), .d (.sl S q 1 c z)], [], []⟩ (heldD aeC4 19 0) = bif ok 27 [iD n, iD 10] then (bif ok 20 [iD 8, .sl S q 1 c z] then some (0, h19 7 (.sl S q 1 c z) (Int.tmod (q : Int) 7) (renD [iD x0, iD x1, iD x2, iD x3, iD x4, iD x5, iD x6, iD x7] (turnedM 8))) else none) else none := by kernel_rfl
section
variable (ok : Nat → List DV → Bool) (m : Int) (X S : List DV) (k q : Nat) (c z : Bool) (A0 A1 A2 A3 A4 A5 A6 : List DV)
theorem t19_0h7 : ∀ p ∈ [(0, 0), (0, 1), (0, 2), (0, 3), (0, 4), (0, 5), (0, 6), (1, 0), (1, 1), (1, 2), (1, 3), (1, 4), (1, 5), (1, 6), (2, 0), (2, 1), (2, 2), (2, 3), (2, 4), (2, 5), (2, 6), (3, 0), (3, 1), (3, 2), (3, 3), (3, 4), (3, 5), (3, 6), (4, 0), (4, 1), (4, 2), (4, 3), (4, 4), (4, 5), (4, 6), (5, 0), (5, 1), (5, 2), (5, 3), (5, 4), (5, 5), (5, 6), (6, 0), (6, 1), (6, 2), (6, 3), (6, 4), (6, 5), (6, 6)], startS aeC4 (E19 ok m X k) 19 0 Try.f19 (some 0) (s19 7 (.sl S q 1 c z) p.1 p.2 [A0, A1, A2, A3, A4, A5, A6]) (heldD aeC4 19 0) = some (2, d19 7 (.sl S q 1 c z) p.1 p.2 [A0, A1, A2, A3, A4, A5, A6] 0) := allP_mem ⟨(by show _ = _; kernel_rfl), (by show _ = _; kernel_rfl), (by show _ = _; kernel_rfl), (by show _ = _; kernel_rfl), (by show _ = _; kernel_rfl), (by show _ = _; kernel_rfl), (by show _ = _; kernel_rfl), (by show _ = _; kernel_rfl), (by show _ = _; kernel_rfl), (by show _ = _; kernel_rfl), (by show _ = _; kernel_rfl), (by show _ = _; kernel_rfl), (by show _ = _; kernel_rfl), (by show _ = _; kernel_rfl), (by show _ = _; kernel_rfl), (by show _ = _; kernel_rfl), (by show _ = _; kernel_rfl), (by show _ = _; kernel_rfl), (by show _ = _; kernel_rfl), (by show _ = _; kernel_rfl), (by show _ = _; kernel_rfl), (by show _ = _; kernel_rfl), (by show _ = _; kernel_rfl), (by show _ = _; kernel_rfl), (by show _ = _; kernel_rfl), (by show _ = _; kernel_rfl), (by show _ = _; kernel_rfl), (by show _ = _; kernel_rfl), (by show _ = _; kernel_rfl), (by show _ = _; kernel_rfl), (by show _ = _; kernel_rfl), (by show _ = _; kernel_rfl), (by show _ = _; kernel_rfl), (by show _ = _; kernel_rfl), (by show _ = _; kernel_rfl), (by show _ = _; kernel_rfl), (by show _ = _; kernel_rfl), (by show _ = _; kernel_rfl), (by show _ = _; kernel_rfl), (by show _ = _; kernel_rfl), (by show _ = _; kernel_rfl), (by show _ = _; kernel_rfl), (by show _ = _; kernel_rfl), (by show _ = _; kernel_rfl), (by show _ = _; kernel_rfl), (by show _ = _; kernel_rfl), (by show _ = _; kernel_rfl), (by show _ = _; kernel_rfl), (by show _ = _; kernel_rfl), trivial⟩
theorem t19_0x7 : ∀ p ∈ [0, 1, 2, 3, 4, 5, 6], startS aeC4 (E19 ok m X k) 19 0 Try.f19 (some 0) (s19 7 (.sl S q 1 c z) p 7 [A0, A1, A2, A3, A4, A5, A6]) (roundD aeC4 19 0 0) = some (.exit 0, x19 7 (rot 7 p [A0, A1, A2, A3, A4, A5, A6])) := allP_mem ⟨(by show _ = _; kernel_rfl), (by show _ = _; kernel_rfl), (by show _ = _; kernel_rfl), (by show _ = _; kernel_rfl), (by show _ = _; kernel_rfl), (by show _ = _; kernel_rfl), (by show _ = _; kernel_rfl), trivial⟩
theorem t19_27 (j : Int) : ∀ p ∈ [(0, 0), (0, 1), (0, 2), (0, 3), (0, 4), (0, 5), (0, 6), (1, 0), (1, 1), (1, 2), (1, 3), (1, 4), (1, 5), (1, 6), (2, 0), (2, 1), (2, 2), (2, 3), (2, 4), (2, 5), (2, 6), (3, 0), (3, 1), (3, 2), (3, 3), (3, 4), (3, 5), (3, 6), (4, 0), (4, 1), (4, 2), (4, 3), (4, 4), (4, 5), (4, 6), (5, 0), (5, 1), (5, 2), (5, 3), (5, 4), (5, 5), (5, 6), (6, 0), (6, 1), (6, 2), (6, 3), (6, 4), (6, 5), (6, 6)], startS aeC4 (E19 ok m X k) 19 0 Try.f19 (some 2) (d19 7 (.sl S q 1 c z) p.1 p.2 [A0, A1, A2, A3, A4, A5, A6] j) (roundD aeC4 19 0 2) = W19 S q p.2 ([A0, A1, A2, A3, A4, A5, A6].getD ((p.2 + p.1) % 7) []) j (some (.exit 2, c19 7 (.sl S q 1 c z) p.1 p.2 [A0, A1, A2, A3, A4, A5, A6])) fun A' => some (.norm, d19 7 (.sl S q 1 c z) p.1 p.2 ([A0, A1, A2, A3, A4, A5, A6].set ((p.2 + p.1) % 7) A') (IntKind.wrap .i64 (j + 1))) := allP_mem ⟨(by show _ = _; kernel_rfl), (by show _ = _; kernel_rfl), (by show _ = _; kernel_rfl), (by show _ = _; kernel_rfl), (by show _ = _; kernel_rfl), (by show _ = _; kernel_rfl), (by show _ = _; kernel_rfl), (by show _ = _; kernel_rfl), (by show _ = _; kernel_rfl), (by show _ = _; kernel_rfl), (by show _ = _; kernel_rfl), (by show _ = _; kernel_rfl), (by show _ = _; kernel_rfl), (by show _ = _; kernel_rfl), (by show _ = _; kernel_rfl), (by show _ = _; kernel_rfl), (by show _ = _; kernel_rfl), (by show _ = _; kernel_rfl), (by show _ = _; kernel_rfl), (by show _ = _; kernel_rfl), (by show _ = _; kernel_rfl), (by show _ = _; kernel_rfl), (by show _ = _; kernel_rfl), (by show _ = _; kernel_rfl), (by show _ = _; kernel_rfl), (by show _ = _; kernel_rfl), (by show _ = _; kernel_rfl), (by show _ = _; kernel_rfl), (by show _ = _; kernel_rfl), (by show _ = _; kernel_rfl), (by show _ = _; kernel_rfl), (by show _ = _; kernel_rfl), (by show _ = _; kernel_rfl), (by show _ = _; kernel_rfl), (by show _ = _; kernel_rfl), (by show _ = _; kernel_rfl), (by show _ = _; kernel_rfl), (by show _ = _; kernel_rfl), (by show _ = _; kernel_rfl), (by show _ = _; kernel_rfl), (by show _ = _; kernel_rfl), (by show _ = _; kernel_rfl), (by show _ = _; kernel_rfl), (by show _ = _; kernel_rfl), (by show _ = _; kernel_rfl), (by show _ = _; kernel_rfl), (by show _ = _; kernel_rfl), (by show _ = _; kernel_rfl), (by show _ = _; kernel_rfl), trivial⟩
theorem t19_y7 : ∀ p ∈ [(0, 0), (0, 1), (0, 2), (0, 3), (0, 4), (0, 5), (0, 6), (1, 0), (1, 1), (1, 2), (1, 3), (1, 4), (1, 5), (1, 6), (2, 0), (2, 1), (2, 2), (2, 3), (2, 4), (2, 5), (2, 6), (3, 0), (3, 1), (3, 2), (3, 3), (3, 4), (3, 5), (3, 6), (4, 0), (4, 1), (4, 2), (4, 3), (4, 4), (4, 5), (4, 6), (5, 0), (5, 1), (5, 2), (5, 3), (5, 4), (5, 5), (5, 6), (6, 0), (6, 1), (6, 2), (6, 3), (6, 4), (6, 5), (6, 6)], nextS aeC4 (E19 ok m X k) 19 0 Try.f19 (some 0) 2 (.exit 2) (c19 7 (.sl S q 1 c z) p.1 p.2 [A0, A1, A2, A3, A4, A5, A6]) (roundD aeC4 19 0 0) = some (.norm, s19 7 (.sl S q 1 c z) p.1 (p.2 + 1) [A0, A1, A2, A3, A4, A5, A6]) := allP_mem ⟨(by show _ = _; kernel_rfl), (by show _ = _; kernel_rfl), (by show _ = _; kernel_rfl), (by show _ = _; kernel_rfl), (by show _ = _; kernel_rfl), (by show _ = _; kernel_rfl), (by show _ = _; kernel_rfl), (by show _ = _; kernel_rfl), (by show _ = _; kernel_rfl), (by show _ = _; kernel_rfl), (by show _ = _; kernel_rfl), (by show _ = _; kernel_rfl), (by show _ = _; kernel_rfl), (by show _ = _; kernel_rfl), (by show _ = _; kernel_rfl), (by show _ = _; kernel_rfl), (by show _ = _; kernel_rfl), (by show _ = _; kernel_rfl), (by show _ = _; kernel_rfl), (by show _ = _; kernel_rfl), (by show _ = _; kernel_rfl), (by show _ = _; kernel_rfl), (by show _ = _; kernel_rfl), (by show _ = _; kernel_rfl), (by show _ = _; kernel_rfl), (by show _ = _; kernel_rfl), (by show _ = _; kernel_rfl), (by show _ = _; kernel_rfl), (by show _ = _; kernel_rfl), (by show _ = _; kernel_rfl), (by show _ = _; kernel_rfl), (by show _ = _; kernel_rfl), (by show _ = _; kernel_rfl), (by show _ = _; kernel_rfl), (by show _ = _; kernel_rfl), (by show _ = _; kernel_rfl), (by show _ = _; kernel_rfl), (by show _ = _; kernel_rfl), (by show _ = _; kernel_rfl), (by show _ = _; kernel_rfl), (by show _ = _; kernel_rfl), (by show _ = _; kernel_rfl), (by show _ = _; kernel_rfl), (by show _ = _; kernel_rfl), (by show _ = _; kernel_rfl), (by show _ = _; kernel_rfl), (by show _ = _; kernel_rfl), (by show _ = _; kernel_rfl), (by show _ = _; kernel_rfl), trivial⟩
theorem t19_e7 : nextS aeC4 (E19 ok m X k) 19 0 Try.f19 none 0 (.exit 0) (x19 7 [A0, A1, A2, A3, A4, A5, A6]) (doneE aeC4 Try.f19 0 fun v h => freezeP 19 h v) = some (.tup [iD ((7 + 1 : Nat) : Int), .sl ([A0, A1, A2, A3, A4, A5, A6].map fun A => .sl A (lenOf 2 A.length) 2 false (true && Nat.beq A.length 0)) 7 1 false false]) := by kernel_rfl
end

theorem len9 {α : Type} : ∀ {R : List α}, R.length = 9 → ∃ A0 A1 A2 A3 A4 A5 A6 A7 A8, R = [A0, A1, A2, A3, A4, A5, A6, A7, A8]
  | [A0, A1, A2, A3, A4, A5, A6, A7, A8], _ => ⟨A0, A1, A2, A3, A4, A5, A6, A7, A8, rfl⟩
theorem len10' {α : Type} : ∀ {R : List α}, R.length = 10 → ∃ x0 x1 x2 x3 x4 x5 x6 x7 x8 x9, R = [x0, x1, x2, x3, x4, x5, x6, x7, x8, x9]
  | [x0, x1, x2, x3, x4, x5, x6, x7, x8, x9], _ => ⟨x0, x1, x2, x3, x4, x5, x6, x7, x8, x9, rfl⟩
theorem t19_h10 (ok : Nat → List DV → Bool) (S : List DV) (q : Nat) (c z : Bool) (n x0 x1 x2 x3 x4 x5 x6 x7 x8 x9 : Int) : startS aeC4 (E19 ok 10 [iD x0, iD x1, iD x2, iD x3, iD x4, iD x5, iD x6, iD x7, iD x8, iD x9] 10) 19 0 Try.f19 none ⟨envOf 0 [.d (iD n), .d (.sl S q 1 c z)], [], []⟩ (heldD aeC4 19 0) = bif ok 27 [iD n, iD 10] then (bif ok 20 [iD 10, .sl S q 1 c z] then some (0, h19 9 (.sl S q 1 c z) (Int.tmod (q : Int) 9) (renD [iD x0, iD x1, iD x2, iD x3, iD x4, iD x5, iD x6, iD x7, iD x8, iD x9] (turnedM 10))) else none) else none := by kernel_rfl
section
variable (ok : Nat → List DV → Bool) (m : Int) (X S : List DV) (k q : Nat) (c z : Bool) (A0 A1 A2 A3 A4 A5 A6 A7 A8 : List DV)
theorem t19_0h9 : ∀ p ∈ [(0, 0), (0, 1), (0, 2), (0, 3), (0, 4), (0, 5), (0, 6), (0, 7), (0, 8), (1, 0), (1, 1), (1, 2), (1, 3), (1, 4), (1, 5), (1, 6), (1, 7), (1, 8), (2, 0), (2, 1), (2, 2), (2, 3), (2, 4), (2, 5), (2, 6), (2, 7), (2, 8), (3, 0), (3, 1), (3, 2), (3, 3), (3, 4), (3, 5), (3, 6), (3, 7), (3, 8), (4, 0), (4, 1), (4, 2), (4, 3), (4, 4), (4, 5), (4, 6), (4, 7), (4, 8), (5, 0), (5, 1), (5, 2), (5, 3), (5, 4), (5, 5), (5, 6), (5, 7), (5, 8), (6, 0), (6, 1), (6, 2), (6, 3), (6, 4), (6, 5), (6, 6), (6, 7), (6, 8), (7, 0), (7, 1), (7, 2), (7, 3), (7, 4), (7, 5), (7, 6), (7, 7), (7, 8), (8, 0), (8, 1), (8, 2), (8, 3), (8, 4), (8, 5), (8, 6), (8, 7), (8, 8)], startS aeC4 (E19 ok m X k) 19 0 Try.f19 (some 0) (s19 9 (.sl S q 1 c z) p.1 p.2 [A0, A1, A2, A3, A4, A5, A6, A7, A8]) (heldD aeC4 19 0) = some (2, d19 9 (.sl S q 1 c z) p.1 p.2 [A0, A1, A2, A3, A4, A5, A6, A7, A8] 0) := allP_mem ⟨(by show _ = _; kernel_rfl), (by show _ = _; kernel_rfl), (by show _ = _; kernel_rfl), (by show _ = _; kernel_rfl), (by show _ = _; kernel_rfl), (by show _ = _; kernel_rfl), (by show _ = _; kernel_rfl), (by show _ = _; kernel_rfl), (by show _ = _; kernel_rfl), (by show _ = _; kernel_rfl), (by show _ = _; kernel_rfl), (by show _ = _; kernel_rfl), (by show _ = _; kernel_rfl), (by show _ = _; kernel_rfl), (by show _ = _; kernel_rfl), (by show _ = _; kernel_rfl), (by show _ = _; kernel_rfl), (by show _ = _; kernel_rfl), (by show _ = _; kernel_rfl), (by show _ = _; kernel_rfl), (by show _ = _; kernel_rfl), (by show _ = _; kernel_rfl), (by show _ = _; kernel_rfl), (by show _ = _; kernel_rfl), (by show _ = _; kernel_rfl), (by show _ = _; kernel_rfl), (by show _ = _; kernel_rfl), (by show _ = _; kernel_rfl), (by show _ = _; kernel_rfl), (by show _ = _; kernel_rfl), (by show _ = _; kernel_rfl), (by show _ = _; kernel_rfl), (by show _ = _; kernel_rfl), (by show _ = _; kernel_rfl), (by show _ = _; kernel_rfl), (by show _ = _; kernel_rfl), (by show _ = _; kernel_rfl), (by show _ = _; kernel_rfl), (by show _ = _; kernel_rfl), (by show _ = _; kernel_rfl), (by show _ = _; kernel_rfl), (by show _ = _; kernel_rfl), (by show _ = _; kernel_rfl), (by show _ = _; kernel_rfl), (by show _ = _; kernel_rfl), (by show _ = _; kernel_rfl), (by show _ = _; kernel_rfl), (by show _ = _; kernel_rfl), (by show _ = _; kernel_rfl), (by show _ = _; kernel_rfl), (by show _ = _; kernel_rfl), (by show _ = _; kernel_rfl), (by show _ = _; kernel_rfl), (by show _ = _; kernel_rfl), (by show _ = _; kernel_rfl), (by show _ = _; kernel_rfl), (by show _ = _; kernel_rfl), (by show _ = _; kernel_rfl), (by show _ = _; kernel_rfl), (by show _ = _; kernel_rfl), (by show _ = _; kernel_rfl), (by show _ = _; kernel_rfl), (by show _ = _; kernel_rfl), (by show _ = _; kernel_rfl), (by show _ = _; kernel_rfl), (by show _ = _; kernel_rfl), (by show _ = _; kernel_rfl), (by show _ = _; kernel_rfl), (by show _ = _; kernel_rfl), (by show _ = _; kernel_rfl), (by show _ = _; kernel_rfl), (by show _ = _; kernel_rfl), (by show _ = _; kernel_rfl), (by show _ = _; kernel_rfl), (by show _ = _; kernel_rfl), (by show _ = _; kernel_rfl), (by show _ = _; kernel_rfl), (by show _ = _; kernel_rfl), (by show _ = _; kernel_rfl), (by show _ = _; kernel_rfl), (by show _ = _; kernel_rfl), trivial⟩
theorem t19_0x9 : ∀ p ∈ [0, 1, 2, 3, 4, 5, 6, 7, 8], startS aeC4 (E19 ok m X k) 19 0 Try.f19 (some 0) (s19 9 (.sl S q 1 c z) p 9 [A0, A1, A2, A3, A4, A5, A6, A7, A8]) (roundD aeC4 19 0 0) = some (.exit 0, x19 9 (rot 9 p [A0, A1, A2, A3, A4, A5, A6, A7, A8])) := allP_mem ⟨(by show _ = _; kernel_rfl), (by show _ = _; kernel_rfl), (by show _ = _; kernel_rfl), (by show _ = _; kernel_rfl), (by show _ = _; kernel_rfl), (by show _ = _; kernel_rfl), (by show _ = _; kernel_rfl), (by show _ = _; kernel_rfl), (by show _ = _; kernel_rfl), trivial⟩
theorem t19_29 (j : Int) : ∀ p ∈ [(0, 0), (0, 1), (0, 2), (0, 3), (0, 4), (0, 5), (0, 6), (0, 7), (0, 8), (1, 0), (1, 1), (1, 2), (1, 3), (1, 4), (1, 5), (1, 6), (1, 7), (1, 8), (2, 0), (2, 1), (2, 2), (2, 3), (2, 4), (2, 5), (2, 6), (2, 7), (2, 8), (3, 0), (3, 1), (3, 2), (3, 3), (3, 4), (3, 5), (3, 6), (3, 7), (3, 8), (4, 0), (4, 1), (4, 2), (4, 3), (4, 4), (4, 5), (4, 6), (4, 7), (4, 8), (5, 0), (5, 1), (5, 2), (5, 3), (5, 4), (5, 5), (5, 6), (5, 7), (5, 8), (6, 0), (6, 1), (6, 2), (6, 3), (6, 4), (6, 5), (6, 6), (6, 7), (6, 8), (7, 0), (7, 1), (7, 2), (7, 3), (7, 4), (7, 5), (7, 6), (7, 7), (7, 8), (8, 0), (8, 1), (8, 2), (8, 3), (8, 4), (8, 5), (8, 6), (8, 7), (8, 8)], startS aeC4 (E19 ok m X k) 19 0 Try.f19 (some 2) (d19 9 (.sl S q 1 c z) p.1 p.2 [A0, A1, A2, A3, A4, A5, A6, A7, A8] j) (roundD aeC4 19 0 2) = W19 S q p.2 ([A0, A1, A2, A3, A4, A5, A6, A7, A8].getD ((p.2 + p.1) % 9) []) j (some (.exit 2, c19 9 (.sl S q 1 c z) p.1 p.2 [A0, A1, A2, A3, A4, A5, A6, A7, A8])) fun A' => some (.norm, d19 9 (.sl S q 1 c z) p.1 p.2 ([A0, A1, A2, A3, A4, A5, A6, A7, A8].set ((p.2 + p.1) % 9) A') (IntKind.wrap .i64 (j + 1))) := allP_mem ⟨(by show _ = _; kernel_rfl), (by show _ = _; kernel_rfl), (by show _ = _; kernel_rfl), (by show _ = _; kernel_rfl), (by show _ = _; kernel_rfl), (by show _ = _; kernel_rfl), (by show _ = _; kernel_rfl), (by show _ = _; kernel_rfl), (by show _ = _; kernel_rfl), (by show _ = _; kernel_rfl), (by show _ = _; kernel_rfl), (by show _ = _; kernel_rfl), (by show _ = _; kernel_rfl), (by show _ = _; kernel_rfl), (by show _ = _; kernel_rfl), (by show _ = _; kernel_rfl), (by show _ = _; kernel_rfl), (by show _ = _; kernel_rfl), (by show _ = _; kernel_rfl), (by show _ = _; kernel_rfl), (by show _ = _; kernel_rfl), (by show _ = _; kernel_rfl), (by show _ = _; kernel_rfl), (by show _ = _; kernel_rfl), (by show _ = _; kernel_rfl), (by show _ = _; kernel_rfl), (by show _ = _; kernel_rfl), (by show _ = _; kernel_rfl), (by show _ = _; kernel_rfl), (by show _ = _; kernel_rfl), (by show _ = _; kernel_rfl), (by show _ = _; kernel_rfl), (by show _ = _; kernel_rfl), (by show _ = _; kernel_rfl), (by show _ = _; kernel_rfl), (by show _ = _; kernel_rfl), (by show _ = _; kernel_rfl), (by show _ = _; kernel_rfl), (by show _ = _; kernel_rfl), (by show _ = _; kernel_rfl), (by show _ = _; kernel_rfl), (by show _ = _; kernel_rfl), (by show _ = _; kernel_rfl), (by show _ = _; kernel_rfl), (by show _ = _; kernel_rfl), (by show _ = _; kernel_rfl), (by show _ = _; kernel_rfl), (by show _ = _; kernel_rfl), (by show _ = _; kernel_rfl), (by show _ = _; kernel_rfl), (by show _ = _; kernel_rfl), (by show _ = _; kernel_rfl), (by show _ = _; kernel_rfl), (by show _ = _; kernel_rfl), (by show _ = _; kernel_rfl), (by show _ = _; kernel_rfl), (by show _ = _; kernel_rfl), (by show _ = _; kernel_rfl), (by show _ = _; kernel_rfl), (by show _ = _; kernel_rfl), (by show _ = _; kernel_rfl), (by show _ = _; kernel_rfl), (by show _ = _; kernel_rfl), (by show _ = _; kernel_rfl), (by show _ = _; kernel_rfl), (by show _ = _; kernel_rfl), (by show _ = _; kernel_rfl), (by show _ = _; kernel_rfl), (by show _ = _; kernel_rfl), (by show _ = _; kernel_rfl), (by show _ = _; kernel_rfl), (by show _ = _; kernel_rfl), (by show _ = _; kernel_rfl), (by show _ = _; kernel_rfl), (by show _ = _; kernel_rfl), (by show _ = _; kernel_rfl), (by show _ = _; kernel_rfl), (by show _ = _; kernel_rfl), (by show _ = _; kernel_rfl), (by show _ = _; kernel_rfl), (by show _ = _; kernel_rfl), trivial⟩
theorem t19_y9 : ∀ p ∈ [(0, 0), (0, 1), (0, 2), (0, 3), (0, 4), (0, 5), (0, 6), (0, 7), (0, 8), (1, 0), (1, 1), (1, 2), (1, 3), (1, 4), (1, 5), (1, 6), (1, 7), (1, 8), (2, 0), (2, 1), (2, 2), (2, 3), (2, 4), (2, 5), (2, 6), (2, 7), (2, 8), (3, 0), (3, 1), (3, 2), (3, 3), (3, 4), (3, 5), (3, 6), (3, 7), (3, 8), (4, 0), (4, 1), (4, 2), (4, 3), (4, 4), (4, 5), (4, 6), (4, 7), (4, 8), (5, 0), (5, 1), (5, 2), (5, 3), (5, 4), (5, 5), (5, 6), (5, 7), (5, 8), (6, 0), (6, 1), (6, 2), (6, 3), (6, 4), (6, 5), (6, 6), (6, 7), (6, 8), (7, 0), (7, 1), (7, 2), (7, 3), (7, 4), (7, 5), (7, 6), (7, 7), (7, 8), (8, 0), (8, 1), (8, 2), (8, 3), (8, 4), (8, 5), (8, 6), (8, 7), (8, 8)], nextS aeC4 (E19 ok m X k) 19 0 Try.f19 (some 0) 2 (.exit 2) (c19 9 (.sl S q 1 c z) p.1 p.2 [A0, A1, A2, A3, A4, A5, A6, A7, A8]) (roundD aeC4 19 0 0) = some (.norm, s19 9 (.sl S q 1 c z) p.1 (p.2 + 1) [A0, A1, A2, A3, A4, A5, A6, A7, A8]) := allP_mem ⟨(by show _ = _; kernel_rfl), (by show _ = _; kernel_rfl), (by show _ = _; kernel_rfl), (by show _ = _; kernel_rfl), (by show _ = _; kernel_rfl), (by show _ = _; kernel_rfl), (by show _ = _; kernel_rfl), (by show _ = _; kernel_rfl), (by show _ = _; kernel_rfl), (by show _ = _; kernel_rfl), (by show _ = _; kernel_rfl), (by show _ = _; kernel_rfl), (by show _ = _; kernel_rfl), (by show _ = _; kernel_rfl), (by show _ = _; kernel_rfl), (by show _ = _; kernel_rfl), (by show _ = _; kernel_rfl), (by show _ = _; kernel_rfl), (by show _ = _; kernel_rfl), (by show _ = _; kernel_rfl), (by show _ = _; kernel_rfl), (by show _ = _; kernel_rfl), (by show _ = _; kernel_rfl), (by show _ = _; kernel_rfl), (by show _ = _; kernel_rfl), (by show _ = _; kernel_rfl), (by show _ = _; kernel_rfl), (by show _ = _; kernel_rfl), (by show _ = _; kernel_rfl), (by show _ = _; kernel_rfl), (by show _ = _; kernel_rfl), (by show _ = _; kernel_rfl), (by show _ = _; kernel_rfl), (by show _ = _; kernel_rfl), (by show _ = _; kernel_rfl), (by show _ = _; kernel_rfl), (by show _ = _; kernel_rfl), (by show _ = _; kernel_rfl), (by show _ = _; kernel_rfl), (by show _ = _; kernel_rfl), (by show _ = _; kernel_rfl), (by show _ = _; kernel_rfl), (by show _ = _; kernel_rfl), (by show _ = _; kernel_rfl), (by show _ = _; kernel_rfl), (by show _ = _; kernel_rfl), (by show _ = _; kernel_rfl), (by show _ = _; kernel_rfl), (by show _ = _; kernel_rfl), (by show _ = _; kernel_rfl), (by show _ = _; kernel_rfl), (by show _ = _; kernel_rfl), (by show _ = _; kernel_rfl), (by show _ = _; kernel_rfl), (by show _ = _; kernel_rfl), (by show _ = _; kernel_rfl), (by show _ = _; kernel_rfl), (by show _ = _; kernel_rfl), (by show _ = _; kernel_rfl), (by show _ = _; kernel_rfl), (by show _ = _; kernel_rfl), (by show _ = _; kernel_rfl), (by show _ = _; kernel_rfl), (by show _ = _; kernel_rfl), (by show _ = _; kernel_rfl), (by show _ = _; kernel_rfl), (by show _ = _; kernel_rfl), (by show _ = _; kernel_rfl), (by show _ = _; kernel_rfl), (by show _ = _; kernel_rfl), (by show _ = _; kernel_rfl), (by show _ = _; kernel_rfl), (by show _ = _; kernel_rfl), (by show _ = _; kernel_rfl), (by show _ = _; kernel_rfl), (by show _ = _; kernel_rfl), (by show _ = _; kernel_rfl), (by show _ = _; kernel_rfl), (by show _ = _; kernel_rfl), (by show _ = _; kernel_rfl), (by show _ = _; kernel_rfl), trivial⟩
theorem t19_e9 : nextS aeC4 (E19 ok m X k) 19 0 Try.f19 none 0 (.exit 0) (x19 9 [A0, A1, A2, A3, A4, A5, A6, A7, A8]) (doneE aeC4 Try.f19 0 fun v h => freezeP 19 h v) = some (.tup [iD ((9 + 1 : Nat) : Int), .sl ([A0, A1, A2, A3, A4, A5, A6, A7, A8].map fun A => .sl A (lenOf 2 A.length) 2 false (true && Nat.beq A.length 0)) 9 1 false false]) := by kernel_rfl
end

end Go.Proofs.Ytigijjinlalnaaa

/- Chapter 04: tame 19: what it answers. -/
namespace Go.Proofs.Ytigijjinlalnaaa
open Go Go.AE
set_option maxRecDepth 100000
theorem k19 : OkSeg Try.f19 none [0] := ⟨by kernel_rfl, by kernel_rfl, by decide⟩
theorem k19_0 : OkSeg Try.f19 (some 0) [2] := ⟨by kernel_rfl, by kernel_rfl, by decide⟩
theorem k19_2 : OkSeg Try.f19 (some 2) [] := ⟨by kernel_rfl, by kernel_rfl, by decide⟩
/-- The kernel's facts, for each number of rounds. -/
structure Walk19 (r : Nat) : Prop where
  h0 : ∀ (ok : Nat → List DV → Bool) (m : Int) (X S : List DV) (k q : Nat) (c z : Bool) (R : List (List DV)), R.length = r → ∀ sh < r, ∀ i < r, startS aeC4 (E19 ok m X k) 19 0 Try.f19 (some 0) (s19 r (.sl S q 1 c z) sh i R) (heldD aeC4 19 0) = some (2, d19 r (.sl S q 1 c z) sh i R 0)
  hx : ∀ (ok : Nat → List DV → Bool) (m : Int) (X S : List DV) (k q : Nat) (c z : Bool) (R : List (List DV)), R.length = r → ∀ sh < r, startS aeC4 (E19 ok m X k) 19 0 Try.f19 (some 0) (s19 r (.sl S q 1 c z) sh r R) (roundD aeC4 19 0 0) = some (.exit 0, x19 r (rot r sh R))
  h2 : ∀ (ok : Nat → List DV → Bool) (m : Int) (X S : List DV) (k q : Nat) (c z : Bool) (R : List (List DV)), R.length = r → ∀ sh < r, ∀ i < r, ∀ j : Int, startS aeC4 (E19 ok m X k) 19 0 Try.f19 (some 2) (d19 r (.sl S q 1 c z) sh i R j) (roundD aeC4 19 0 2) = W19 S q i (R.getD ((i + sh) % r) []) j (some (.exit 2, c19 r (.sl S q 1 c z) sh i R)) fun A' => some (.norm, d19 r (.sl S q 1 c z) sh i (R.set ((i + sh) % r) A') (IntKind.wrap .i64 (j + 1)))
  hy : ∀ (ok : Nat → List DV → Bool) (m : Int) (X S : List DV) (k q : Nat) (c z : Bool) (R : List (List DV)), R.length = r → ∀ sh < r, ∀ i < r, nextS aeC4 (E19 ok m X k) 19 0 Try.f19 (some 0) 2 (.exit 2) (c19 r (.sl S q 1 c z) sh i R) (roundD aeC4 19 0 0) = some (.norm, s19 r (.sl S q 1 c z) sh (i + 1) R)
  he : ∀ (ok : Nat → List DV → Bool) (m : Int) (X : List DV) (k : Nat) (R : List (List DV)), R.length = r → nextS aeC4 (E19 ok m X k) 19 0 Try.f19 none 0 (.exit 0) (x19 r R) (doneE aeC4 Try.f19 0 fun v h => freezeP 19 h v) = some (.tup [iD ((r + 1 : Nat) : Int), .sl (R.map fun A => .sl A (lenOf 2 A.length) 2 false (true && Nat.beq A.length 0)) r 1 false false])
  hh : ∀ (ok : Nat → List DV → Bool) (S : List DV) (q : Nat) (c z : Bool) (n : Int) (X : List Int), X.length = r + 1 → startS aeC4 (E19 ok ((r + 1 : Nat) : Int) (ints X) (r + 1)) 19 0 Try.f19 none ⟨envOf 0 [.d (iD n), .d (.sl S q 1 c z)], [], []⟩ (heldD aeC4 19 0) = bif ok 27 [iD n, iD 10] then (bif ok 20 [iD ((r + 1 : Nat) : Int), .sl S q 1 c z] then some (0, h19 r (.sl S q 1 c z) (Int.tmod (q : Int) (r : Int)) (renD (ints X) (turnedM (r + 1)))) else none) else none
theorem prs_mem {r : Nat} {l : List (Nat × Nat)} (h : l = (List.range r).flatMap fun s => (List.range r).map fun i => (s, i)) {sh i : Nat} (h1 : sh < r) (h2 : i < r) : (sh, i) ∈ l := by
  subst h
  exact List.mem_flatMap.2 ⟨sh, List.mem_range.2 h1, List.mem_map.2 ⟨i, List.mem_range.2 h2, rfl⟩⟩
theorem shs_mem {r : Nat} {l : List Nat} (h : l = List.range r) {sh : Nat} (h1 : sh < r) : sh ∈ l := by subst h; exact List.mem_range.2 h1
theorem walk19_1 : Walk19 1 where
  h0 := by
    intro ok m X S k q c z R hR sh h1 i h2
    obtain ⟨A0, rfl⟩ := len1 hR
    exact t19_0h1 ok m X S k q c z A0 (sh, i) (prs_mem (by decide) h1 h2)
  hx := by
    intro ok m X S k q c z R hR sh h1
    obtain ⟨A0, rfl⟩ := len1 hR
    exact t19_0x1 ok m X S k q c z A0 sh (shs_mem (by decide) h1)
  h2 := by
    intro ok m X S k q c z R hR sh h1 i h2 j
    obtain ⟨A0, rfl⟩ := len1 hR
    exact t19_21 ok m X S k q c z A0 j (sh, i) (prs_mem (by decide) h1 h2)
  hy := by
    intro ok m X S k q c z R hR sh h1 i h2
    obtain ⟨A0, rfl⟩ := len1 hR
    exact t19_y1 ok m X S k q c z A0 (sh, i) (prs_mem (by decide) h1 h2)
  he := by
    intro ok m X k R hR
    obtain ⟨A0, rfl⟩ := len1 hR
    exact t19_e1 ok m X k A0
  hh := by
    intro ok S q c z n X hX
    obtain ⟨x0, x1, rfl⟩ := len2' hX
    exact t19_h2 ok S q c z n x0 x1
theorem walk19_3 : Walk19 3 where
  h0 := by
    intro ok m X S k q c z R hR sh h1 i h2
    obtain ⟨A0, A1, A2, rfl⟩ := len3 hR
    exact t19_0h3 ok m X S k q c z A0 A1 A2 (sh, i) (prs_mem (by decide) h1 h2)
  hx := by
    intro ok m X S k q c z R hR sh h1
    obtain ⟨A0, A1, A2, rfl⟩ := len3 hR
    exact t19_0x3 ok m X S k q c z A0 A1 A2 sh (shs_mem (by decide) h1)
  h2 := by
    intro ok m X S k q c z R hR sh h1 i h2 j
    obtain ⟨A0, A1, A2, rfl⟩ := len3 hR
    exact t19_23 ok m X S k q c z A0 A1 A2 j (sh, i) (prs_mem (by decide) h1 h2)
  hy := by
    intro ok m X S k q c z R hR sh h1 i h2
    obtain ⟨A0, A1, A2, rfl⟩ := len3 hR
    exact t19_y3 ok m X S k q c z A0 A1 A2 (sh, i) (prs_mem (by decide) h1 h2)
  he := by
    intro ok m X k R hR
    obtain ⟨A0, A1, A2, rfl⟩ := len3 hR
    exact t19_e3 ok m X k A0 A1 A2
  hh := by
    intro ok S q c z n X hX
    obtain ⟨x0, x1, x2, x3, rfl⟩ := len4' hX
    exact t19_h4 ok S q c z n x0 x1 x2 x3
theorem walk19_5 : Walk19 5 where
  h0 := by
    intro ok m X S k q c z R hR sh h1 i h2
    obtain ⟨A0, A1, A2, A3, A4, rfl⟩ := len5 hR
    exact t19_0h5 ok m X S k q c z A0 A1 A2 A3 A4 (sh, i) (prs_mem (by decide) h1 h2)
  hx := by
    intro ok m X S k q c z R hR sh h1
    obtain ⟨A0, A1, A2, A3, A4, rfl⟩ := len5 hR
    exact t19_0x5 ok m X S k q c z A0 A1 A2 A3 A4 sh (shs_mem (by decide) h1)
  h2 := by
    intro ok m X S k q c z R hR sh h1 i h2 j
    obtain ⟨A0, A1, A2, A3, A4, rfl⟩ := len5 hR
    exact t19_25 ok m X S k q c z A0 A1 A2 A3 A4 j (sh, i) (prs_mem (by decide) h1 h2)
  hy := by
    intro ok m X S k q c z R hR sh h1 i h2
    obtain ⟨A0, A1, A2, A3, A4, rfl⟩ := len5 hR
    exact t19_y5 ok m X S k q c z A0 A1 A2 A3 A4 (sh, i) (prs_mem (by decide) h1 h2)
  he := by
    intro ok m X k R hR
    obtain ⟨A0, A1, A2, A3, A4, rfl⟩ := len5 hR
    exact t19_e5 ok m X k A0 A1 A2 A3 A4
  hh := by
    intro ok S q c z n X hX
    obtain ⟨x0, x1, x2, x3, x4, x5, rfl⟩ := len6' hX
    exact t19_h6 ok S q c z n x0 x1 x2 x3 x4 x5
theorem walk19_7 : Walk19 7 where
  h0 := by
    intro ok m X S k q c z R hR sh h1 i h2
    obtain ⟨A0, A1, A2, A3, A4, A5, A6, rfl⟩ := len7 hR
    exact t19_0h7 ok m X S k q c z A0 A1 A2 A3 A4 A5 A6 (sh, i) (prs_mem (by decide) h1 h2)
  hx := by
    intro ok m X S k q c z R hR sh h1
    obtain ⟨A0, A1, A2, A3, A4, A5, A6, rfl⟩ := len7 hR
    exact t19_0x7 ok m X S k q c z A0 A1 A2 A3 A4 A5 A6 sh (shs_mem (by decide) h1)
  h2 := by
    intro ok m X S k q c z R hR sh h1 i h2 j
    obtain ⟨A0, A1, A2, A3, A4, A5, A6, rfl⟩ := len7 hR
    exact t19_27 ok m X S k q c z A0 A1 A2 A3 A4 A5 A6 j (sh, i) (prs_mem (by decide) h1 h2)
  hy := by
    intro ok m X S k q c z R hR sh h1 i h2
    obtain ⟨A0, A1, A2, A3, A4, A5, A6, rfl⟩ := len7 hR
    exact t19_y7 ok m X S k q c z A0 A1 A2 A3 A4 A5 A6 (sh, i) (prs_mem (by decide) h1 h2)
  he := by
    intro ok m X k R hR
    obtain ⟨A0, A1, A2, A3, A4, A5, A6, rfl⟩ := len7 hR
    exact t19_e7 ok m X k A0 A1 A2 A3 A4 A5 A6
  hh := by
    intro ok S q c z n X hX
    obtain ⟨x0, x1, x2, x3, x4, x5, x6, x7, rfl⟩ := len8' hX
    exact t19_h8 ok S q c z n x0 x1 x2 x3 x4 x5 x6 x7
theorem walk19_9 : Walk19 9 where
  h0 := by
    intro ok m X S k q c z R hR sh h1 i h2
    obtain ⟨A0, A1, A2, A3, A4, A5, A6, A7, A8, rfl⟩ := len9 hR
    exact t19_0h9 ok m X S k q c z A0 A1 A2 A3 A4 A5 A6 A7 A8 (sh, i) (prs_mem (by decide) h1 h2)
  hx := by
    intro ok m X S k q c z R hR sh h1
    obtain ⟨A0, A1, A2, A3, A4, A5, A6, A7, A8, rfl⟩ := len9 hR
    exact t19_0x9 ok m X S k q c z A0 A1 A2 A3 A4 A5 A6 A7 A8 sh (shs_mem (by decide) h1)
  h2 := by
    intro ok m X S k q c z R hR sh h1 i h2 j
    obtain ⟨A0, A1, A2, A3, A4, A5, A6, A7, A8, rfl⟩ := len9 hR
    exact t19_29 ok m X S k q c z A0 A1 A2 A3 A4 A5 A6 A7 A8 j (sh, i) (prs_mem (by decide) h1 h2)
  hy := by
    intro ok m X S k q c z R hR sh h1 i h2
    obtain ⟨A0, A1, A2, A3, A4, A5, A6, A7, A8, rfl⟩ := len9 hR
    exact t19_y9 ok m X S k q c z A0 A1 A2 A3 A4 A5 A6 A7 A8 (sh, i) (prs_mem (by decide) h1 h2)
  he := by
    intro ok m X k R hR
    obtain ⟨A0, A1, A2, A3, A4, A5, A6, A7, A8, rfl⟩ := len9 hR
    exact t19_e9 ok m X k A0 A1 A2 A3 A4 A5 A6 A7 A8
  hh := by
    intro ok S q c z n X hX
    obtain ⟨x0, x1, x2, x3, x4, x5, x6, x7, x8, x9, rfl⟩ := len10' hX
    exact t19_h10 ok S q c z n x0 x1 x2 x3 x4 x5 x6 x7 x8 x9
theorem walk19 {r : Nat} (h : r = 1 ∨ r = 3 ∨ r = 5 ∨ r = 7 ∨ r = 9) : Walk19 r := by
  rcases h with rfl | rfl | rfl | rfl | rfl
  · exact walk19_1
  · exact walk19_3
  · exact walk19_5
  · exact walk19_7
  · exact walk19_9
/-! ### A round with some games turned over -/
def condS (s : List Int) (e : Nat) : Bool := decide (0 < s.length) && decide (Int.tmod (IntKind.wrap .u64 (s.getD (e % s.length) 0)) 2 = 1)
def swL (s : List Int) : Nat → List (Int × Int) → List (Int × Int)
  | _, [] => []
  | e, g :: r => (bif condS s e then (g.2, g.1) else g) :: swL s (e + 1) r
theorem swL_len (s : List Int) : ∀ (e : Nat) (l : List (Int × Int)), (swL s e l).length = l.length
  | _, [] => rfl
  | e, g :: r => by simp only [swL, List.length_cons, swL_len s (e + 1) r]
theorem edD_app (a b : List (Int × Int)) : edD (a ++ b) = edD a ++ edD b := by
  induction a with
  | nil => rfl
  | cons g a ih => show iD g.1 :: iD g.2 :: edD (a ++ b) = _; rw [ih]; rfl
theorem setMany_mid {α : Type} : ∀ (v p q r : List α), q.length = v.length → setMany (p ++ q ++ r) p.length v = p ++ v ++ r
  | [], p, q, r, h => by rw [List.length_eq_zero_iff.1 h]; rfl
  | x :: v, p, [], r, h => by simp at h
  | x :: v, p, y :: q, r, h => by
    unfold setMany
    have e : setNth (p ++ (y :: q) ++ r) p.length x = (p ++ [x]) ++ q ++ r := by
      rw [setNth_eq, List.append_assoc, List.set_append_right _ _ (Nat.le_refl _)]; simp
    rw [e]
    have := setMany_mid v (p ++ [x]) q r (by simpa using h)
    simpa using this
theorem set_ed (p : List (Int × Int)) (g g' : Int × Int) (r : List (Int × Int)) : setMany (edD (p ++ g :: r)) (p.length * 2) [iD g'.1, iD g'.2] = edD (p ++ g' :: r) := by
  rw [edD_app, edD_app]
  have := setMany_mid [iD g'.1, iD g'.2] (edD p) [iD g.1, iD g.2] (edD r) rfl
  rw [len_prs] at this
  simpa [edD] using this
theorem e19_eq {i q len j : Nat} (hi : i ≤ 100) (hl : len ≤ 100) (hj : j ≤ 100) : e19 i q len j = (((i * len + j) % q : Nat) : Int) := by
  unfold e19
  have h1 : i * len ≤ 100 * 100 := Nat.mul_le_mul hi hl
  rw [show (i : Int) * (len : Int) = ((i * len : Nat) : Int) from (Int.natCast_mul i len).symm]
  generalize i * len = P at h1 ⊢
  rw [wrap64_o (n := (P : Int)) (by omega) (by omega), wrap64_o (by omega) (by omega), Int.tmod_eq_emod_of_nonneg (by omega), Int.natCast_emod, Int.natCast_add]
theorem W19_ok {X : Type} {s : List Int} {i : Nat} (hi : i ≤ 100) {p r : List (Int × Int)} {g : Int × Int} (hl : (p ++ g :: r).length ≤ 100) (out : Option X) (K : List DV → Option X) :
    W19 (ints s) s.length i (edD (p ++ g :: r)) (p.length : Nat) out K = K (edD (p ++ (bif condS s (i * (p ++ g :: r).length + p.length) then (g.2, g.1) else g) :: r)) := by
  have hlen : lenOf 2 (edD (p ++ g :: r)).length = (p ++ g :: r).length := by rw [len_prs]; show _ * 2 / 2 = _; omega
  have hpl : p.length < (p ++ g :: r).length := by simp
  have hat : (p ++ g :: r).getD p.length (0, 0) = g := by simp [List.getD_eq_getElem?_getD]
  unfold W19 condS
  rw [hlen, e19_eq hi hl (by omega)]
  refine (cnd_pos (by omega)).trans ?_
  by_cases hq : 0 < s.length
  · refine (cnd_pos (by omega)).trans ((cnd_neg (by omega)).trans ?_)
    have hm := Nat.mod_lt (i * (p ++ g :: r).length + p.length) hq
    refine (inR_pos (by omega) (by omega)).trans ?_
    rw [Int.toNat_natCast, Nat.mul_one, nth_ints_o hm, getI_some, decide_eq_true hq, Bool.true_and]
    cases hc : decide (Int.tmod (IntKind.wrap .u64 (s.getD ((i * (p ++ g :: r).length + p.length) % s.length) 0)) 2 = 1) with
    | false => rfl
    | true =>
      rw [cond_true]
      refine (inR_pos (by omega) (by omega)).trans ?_
      rw [Int.toNat_natCast, nth_pr2 hpl, hat, getI_some]
      refine (inR_pos (by omega) (by omega)).trans ?_
      rw [Nat.add_zero, nth_pr1 hpl, hat, getI_some]
      refine (inR_pos (by omega) (by omega)).trans ?_
      refine (ble_pos (by rw [len_prs]; omega)).trans ?_
      rw [set_ed p g (g.2, g.1) r]; rfl
  · refine (cnd_neg (by omega)).trans ?_
    rw [decide_eq_false hq]; rfl
section
variable {r : Nat} (W : Walk19 r) (hr9 : r ≤ 9) (ok : Nat → List DV → Bool) (m : Int) (X : List DV) (k : Nat) (s : List Int) (c z : Bool) {sh i : Nat} (hsh : sh < r)
include W hr9 hsh
theorem loop19_2 (hi : i < r) : ∀ (t p : List (Int × Int)) (R : List (List DV)), R.length = r → (p ++ t).length ≤ 100 → R.getD ((i + sh) % r) [] = edD (p ++ t) →
    LoopAt aeC4 (E19 ok m X k) 19 0 Try.f19 2 (d19 r (.sl (ints s) s.length 1 c z) sh i R (p.length : Nat)) (.exit 2) (c19 r (.sl (ints s) s.length 1 c z) sh i (R.set ((i + sh) % r) (edD (p ++ swL s (i * (p ++ t).length + p.length) t))))
  | [], p, R, hR, hl, hb => by
    have hbr : (i + sh) % r < R.length := by rw [hR]; exact Nat.mod_lt _ (by omega)
    rw [List.append_nil] at hb hl ⊢
    have e : R.set ((i + sh) % r) (edD (p ++ swL s (i * p.length + p.length) [])) = R := by
      rw [swL, List.append_nil, ← hb]
      apply List.ext_getElem
      · simp
      · intro j h1 h2
        rw [List.getElem_set]
        split
        · rename_i e; subst e; simp [List.getD_eq_getElem?_getD, hbr]
        · rfl
    rw [e]
    refine .out k19_2 (by simp) ((W.h2 ok m X _ k _ c z R hR sh hsh i hi _).trans ?_)
    rw [hb]
    unfold W19
    exact cnd_neg (by rw [len_prs]; show ¬ ((p.length : Nat) : Int) < ((p.length * 2 / 2 : Nat) : Int); omega)
  | g :: t, p, R, hR, hl, hb => by
    have hbr : (i + sh) % r < R.length := by rw [hR]; exact Nat.mod_lt _ (by omega)
    generalize hg : (bif condS s (i * (p ++ g :: t).length + p.length) then (g.2, g.1) else g) = g'
    have hs : startS aeC4 (E19 ok m X k) 19 0 Try.f19 (some 2) (d19 r (.sl (ints s) s.length 1 c z) sh i R (p.length : Nat)) (roundD aeC4 19 0 2) = some (Ex.norm, d19 r (.sl (ints s) s.length 1 c z) sh i (R.set ((i + sh) % r) (edD ((p ++ [g']) ++ t))) ((p ++ [g']).length : Nat)) := by
      refine (W.h2 ok m X _ k _ c z R hR sh hsh i hi _).trans ?_
      rw [hb, W19_ok (by omega) hl, hg, wr1 (by simp at hl; omega)]
      simp
    have e1 : (p ++ g :: t).length = ((p ++ [g']) ++ t).length := by simp
    have ih := loop19_2 hi t (p ++ [g']) (R.set ((i + sh) % r) (edD ((p ++ [g']) ++ t))) (by simpa using hR) (by rw [← e1]; exact hl) (by simp [List.getD_eq_getElem?_getD, hbr])
    rw [List.set_set] at ih
    have e2 : p ++ swL s (i * (p ++ g :: t).length + p.length) (g :: t) = (p ++ [g']) ++ swL s (i * ((p ++ [g']) ++ t).length + (p ++ [g']).length) t := by
      rw [swL, hg, e1]; simp [Nat.add_assoc]
    rw [e2]
    exact .next k19_2 hs ih
/-- The rounds of a tournament, from a later one on, some games turned over. -/
theorem loop19 (Q : List (List (Int × Int))) (hQ : ∀ b, (Q.getD b []).length ≤ 100) : ∀ (j i : Nat) (R : List (List DV)), i + j = r → R.length = r → (∀ u < i, R.getD ((u + sh) % r) [] = edD (swL s (u * (Q.getD ((u + sh) % r) []).length) (Q.getD ((u + sh) % r) []))) → (∀ u, i ≤ u → u < r → R.getD ((u + sh) % r) [] = edD (Q.getD ((u + sh) % r) [])) →
    LoopAt aeC4 (E19 ok m X k) 19 0 Try.f19 0 (s19 r (.sl (ints s) s.length 1 c z) sh i R) (.exit 0) (x19 r ((List.range r).map fun u => edD (swL s (u * (Q.getD ((u + sh) % r) []).length) (Q.getD ((u + sh) % r) []))))
  | 0, i, R, hj, hR, hd, ht => by
    have : i = r := by omega
    subst this
    have e : rot i sh R = (List.range i).map fun u => edD (swL s (u * (Q.getD ((u + sh) % i) []).length) (Q.getD ((u + sh) % i) [])) := by
      unfold rot
      apply List.map_congr_left
      intro u hu
      exact hd u (List.mem_range.1 hu)
    rw [← e]
    exact .out k19_0 (by simp) (W.hx ok m X _ k _ c z R hR sh hsh)
  | j + 1, i, R, hj, hR, hd, ht => by
    have hi : i < r := by omega
    have hb := ht i (Nat.le_refl _) hi
    have hbr : (i + sh) % r < R.length := by rw [hR]; exact Nat.mod_lt _ (by omega)
    have hL := loop19_2 W hr9 ok m X k s c z hsh hi (Q.getD ((i + sh) % r) []) [] R hR (by simpa using hQ _) (by simpa using hb)
    simp only [List.nil_append, List.length_nil, Nat.add_zero] at hL
    have hne : ∀ u, u < r → u ≠ i → (u + sh) % r ≠ (i + sh) % r := by
      intro u hu hui e
      have f : ∀ v, v < r → (v + sh) % r = if v + sh < r then v + sh else v + sh - r := by
        intro v hv
        split
        · exact Nat.mod_eq_of_lt (by assumption)
        · rw [Nat.mod_eq_sub_mod (by omega), Nat.mod_eq_of_lt (by omega)]
      rw [f u hu, f i hi] at e
      split at e <;> split at e <;> omega
    have hne' : ∀ (A : List DV) u, u < r → u ≠ i → (R.set ((i + sh) % r) A).getD ((u + sh) % r) [] = R.getD ((u + sh) % r) [] := by
      intro A u hu hui
      rw [List.getD_eq_getElem?_getD, List.getD_eq_getElem?_getD, List.getElem?_set_ne (Ne.symm (hne u hu hui))]
    refine .nextF k19_0 (startF_one k19_0 roundD_plain (W.h0 ok m X _ k _ c z R hR sh hsh i hi) hL (W.hy ok m X _ k _ c z _ (by simpa using hR) sh hsh i hi)) (loop19 Q hQ j (i + 1) _ (by omega) (by simpa using hR) ?_ ?_)
    · intro u hu
      by_cases e : u = i
      · subst e; simp [List.getD_eq_getElem?_getD, hbr]
      · rw [hne' _ u (by omega) e]; exact hd u (by omega)
    · intro u hu1 hu2
      rw [hne' _ u hu2 (by omega)]; exact ht u (by omega) hu2
end
end Go.Proofs.Ytigijjinlalnaaa

/- Chapter 04: what tame 19 answers; teams 27, 51, 15. -/
namespace Go.Proofs.Ytigijjinlalnaaa
open Go Go.AE
set_option maxRecDepth 100000
/-! ### Numbers of teams -/
def teamsN (n : Int) : Nat := 2 + 2 * ((IntKind.wrap .u64 n).toNat % 5)
theorem teamsN_cases (n : Int) : teamsN n - 1 = 1 ∨ teamsN n - 1 = 3 ∨ teamsN n - 1 = 5 ∨ teamsN n - 1 = 7 ∨ teamsN n - 1 = 9 := by
  have := Nat.mod_lt (IntKind.wrap .u64 n).toNat (show 0 < 5 by omega)
  unfold teamsN; omega
theorem teams_ok (n : Int) : PureOK Try.prog 27 [iD n, iD 10] (iD (teamsN n)) := by
  have h : pureE aeC evA 30 27 Try.f27 [iD n, iD 10] = some (iD (IntKind.wrap IntKind.i64 (2 + IntKind.wrap IntKind.i64 (2 * IntKind.wrap IntKind.i64 (Int.tmod (IntKind.wrap IntKind.u64 n) 5))))) := by kernel_rfl
  have e : IntKind.wrap IntKind.i64 (2 + IntKind.wrap IntKind.i64 (2 * IntKind.wrap IntKind.i64 (Int.tmod (IntKind.wrap IntKind.u64 n) 5))) = (teamsN n : Int) := by
    have h0 : 0 ≤ IntKind.wrap IntKind.u64 n := by rw [wrapU_eq]; omega
    rw [Int.tmod_eq_emod_of_nonneg h0]
    rw [wrap64_o (n := IntKind.wrap IntKind.u64 n % 5) (by omega) (by omega), wrap64_o (n := 2 * (IntKind.wrap IntKind.u64 n % 5)) (by omega) (by omega), wrap64_o (by omega) (by omega)]
    unfold teamsN
    omega
  rw [e] at h
  exact walkA (by kernel_rfl : tget aeF 27 = some Try.f27) h
def teamB (n : Int) : Bool := decide (2 ≤ n) && (decide (n ≤ 10) && decide (Int.tmod n 2 = 0))
theorem isT51 (n : Int) : PureOK Try.prog 51 [iD n] (bD (teamB n)) := by
  have h : pureE aeC evA 30 51 Try.f51 [iD n] = bif decide (2 ≤ n) then (bif decide (n ≤ 10) then some (bD (decide (Int.tmod n 2 = 0))) else some (bD false)) else some (bD false) := by kernel_rfl
  refine walkA (by kernel_rfl : tget aeF 51 = some Try.f51) (h.trans ?_)
  unfold teamB
  cases decide (2 ≤ n) <;> cases decide (n ≤ 10) <;> rfl
theorem isT15 (n : Int) : PureOK Try.prog 15 [iD n] (bD (teamB n)) := by
  have h : pureE aeC evA 30 15 Try.f15 [iD n] = bif decide (2 ≤ n) then (bif decide (n ≤ 10) then some (bD (decide (Int.tmod n 2 = 0))) else some (bD false)) else some (bD false) := by kernel_rfl
  refine walkA (by kernel_rfl : tget aeF 15 = some Try.f15) (h.trans ?_)
  unfold teamB
  cases decide (2 ≤ n) <;> cases decide (n ≤ 10) <;> rfl
/-! ### The opening, renamed -/
def renQ (X : List Int) (T : List (List Nat)) : List (List (Int × Int)) := T.map fun row => unPr (row.map fun a => iD (X.getD a 0))
theorem ed_unPr : ∀ (k : Nat) (Y : List Int), Y.length = 2 * k → edD (unPr (ints Y)) = ints Y ∧ (unPr (ints Y)).length = k
  | 0, [], _ => ⟨rfl, rfl⟩
  | 0, _ :: _, h => by simp at h
  | k + 1, [], h => by simp at h
  | k + 1, [x], h => by simp at h; omega
  | k + 1, x :: y :: Y, h => by
    obtain ⟨h1, h2⟩ := ed_unPr k Y (by simp at h; omega)
    refine ⟨?_, ?_⟩
    · show iD x :: iD y :: edD (unPr (ints Y)) = _
      rw [h1]; rfl
    · show (unPr (ints Y)).length + 1 = _
      rw [h2]
def turnOK (m : Nat) : Bool := (turnedM m).all fun row => decide (row.length = m) && row.all fun a => decide (a < m)
theorem turn_ok {m : Nat} (h : m - 1 = 1 ∨ m - 1 = 3 ∨ m - 1 = 5 ∨ m - 1 = 7 ∨ m - 1 = 9) : turnOK m = true ∧ (turnedM m).length = m - 1 := by
  have : m = 2 ∨ m = 4 ∨ m = 6 ∨ m = 8 ∨ m = 10 := by omega
  rcases this with rfl | rfl | rfl | rfl | rfl <;> exact ⟨by decide, by decide⟩
theorem ren_eq {m : Nat} (hev : m % 2 = 0) (ht : turnOK m = true) {X : List Int} (hX : X.length = m) : renD (ints X) (turnedM m) = (renQ X (turnedM m)).map edD ∧ ∀ q ∈ renQ X (turnedM m), q.length = m / 2 := by
  have hrow : ∀ row ∈ turnedM m, row.length = m ∧ ∀ a ∈ row, a < m := by
    intro row hr
    have := List.all_eq_true.1 ht row hr
    simp only [Bool.and_eq_true, decide_eq_true_eq, List.all_eq_true] at this
    exact this
  have key : ∀ row ∈ turnedM m, (row.map fun a => (nth (ints X) a).getD (iD 0)) = edD (unPr (row.map fun a => iD (X.getD a 0))) ∧ (unPr (row.map fun a => iD (X.getD a 0))).length = m / 2 := by
    intro row hr
    obtain ⟨h1, h2⟩ := hrow row hr
    have e : (row.map fun a => iD (X.getD a 0)) = ints (row.map fun a => X.getD a 0) := by unfold ints; rw [List.map_map]; rfl
    obtain ⟨k1, k2⟩ := ed_unPr (m / 2) (row.map fun a => X.getD a 0) (by rw [List.length_map, h1]; omega)
    rw [e, k1]
    refine ⟨?_, k2⟩
    rw [← e]
    apply List.map_congr_left
    intro a ha
    rw [nth_ints_o (by rw [hX]; exact h2 a ha)]; rfl
  refine ⟨?_, ?_⟩
  · unfold renD renQ
    rw [List.map_map]
    exact List.map_congr_left fun row hr => (key row hr).1
  · intro q hq
    obtain ⟨row, hr, rfl⟩ := List.mem_map.1 hq
    exact (key row hr).2
/-- The tournament that tame answers. -/
def tameR (m : Nat) (s : List Int) : List (List (Int × Int)) := (List.range (m - 1)).map fun u => swL s (u * (m / 2)) ((renQ (namesS s m) (turnedM m)).getD ((u + s.length % (m - 1)) % (m - 1)) [])
def gamesD (l : List (Int × Int)) : DV := .sl (edD l) l.length 2 false false
theorem tame_ok (n : Int) (s : List Int) (c z : Bool) : PureOK Try.prog 19 [iD n, .sl (ints s) s.length 1 c z] (.tup [iD (teamsN n), .sl ((tameR (teamsN n) s).map gamesD) (teamsN n - 1) 1 false false]) := by
  have hm := teamsN_cases n
  have hte := teams_ok n
  generalize teamsN n = m at hm hte ⊢
  obtain ⟨ht, htl⟩ := turn_ok hm
  have hev : m % 2 = 0 := by omega
  have W := walk19 hm
  have hX := names_len s m
  have hna := names_ok (n := m) (by omega) (by omega) s c z
  obtain ⟨e1, e2⟩ := ren_eq hev ht hX
  generalize hQd : renQ (namesS s m) (turnedM m) = Q at e1 e2
  generalize hXd : namesS s m = X at hX hna e1 hQd
  have hr : m - 1 + 1 = m := by omega
  have hQl : Q.length = m - 1 := by rw [← hQd]; unfold renQ; rw [List.length_map, htl]
  have hsh : s.length % (m - 1) < m - 1 := Nat.mod_lt _ (by omega)
  have hget : ∀ b, b < m - 1 → (Q.getD b []).length = m / 2 := by
    intro b hb
    have hb' : b < Q.length := by omega
    rw [List.getD_eq_getElem?_getD, List.getElem?_eq_getElem hb']
    exact e2 _ (List.getElem_mem hb')
  have hQ : ∀ b, (Q.getD b []).length ≤ 100 := by
    intro b
    by_cases hb : b < m - 1
    · rw [hget b hb]; omega
    · rw [List.getD_eq_getElem?_getD, List.getElem?_eq_none (by omega)]; simp
  have hL := loop19 W (by omega) (okS (i19 ((m - 1 + 1 : Nat) : Int) (ints X) (m - 1 + 1))) ((m - 1 + 1 : Nat) : Int) (ints X) (m - 1 + 1) s c z hsh Q hQ (m - 1) 0 (Q.map edD) (by omega) (by simpa using hQl) (by intro u hu; omega) (by
    intro u _ hu
    have hb : (u + s.length % (m - 1)) % (m - 1) < Q.length := by rw [hQl]; exact Nat.mod_lt _ (by omega)
    rw [List.getD_eq_getElem?_getD, List.getD_eq_getElem?_getD, List.getElem?_map, List.getElem?_eq_getElem hb]; rfl)
  have hh : startS aeC4 (E19 (okS (i19 ((m - 1 + 1 : Nat) : Int) (ints X) (m - 1 + 1))) ((m - 1 + 1 : Nat) : Int) (ints X) (m - 1 + 1)) 19 0 Try.f19 none ⟨envOf 0 [.d (iD n), .d (.sl (ints s) s.length 1 c z)], [], []⟩ (heldD aeC4 19 0) = some (0, s19 (m - 1) (.sl (ints s) s.length 1 c z) (s.length % (m - 1)) 0 (Q.map edD)) := by
    refine (W.hh _ _ _ _ _ n X (by omega)).trans ?_
    have o1 : okS (i19 ((m - 1 + 1 : Nat) : Int) (ints X) (m - 1 + 1)) 27 [iD n, iD 10] = true := by
      refine isP_iff.2 ?_
      show PureOK Try.prog 27 _ (iD ((m - 1 + 1 : Nat) : Int))
      rw [hr]; exact hte
    have o2 : okS (i19 ((m - 1 + 1 : Nat) : Int) (ints X) (m - 1 + 1)) 20 [iD ((m - 1 + 1 : Nat) : Int), .sl (ints s) s.length 1 c z] = true := by
      refine isP_iff.2 ?_
      show PureOK Try.prog 20 _ (.sl (ints X) (m - 1 + 1) 1 false false)
      rw [hr]; exact hna
    rw [o1, o2, cond_true, cond_true, Int.tmod_eq_emod_of_nonneg (by omega), ← Int.natCast_emod, hr, e1]
    simp [h19, s19, H19, hr]
  have hmap : ((List.range (m - 1)).map fun u => edD (swL s (u * (Q.getD ((u + s.length % (m - 1)) % (m - 1)) []).length) (Q.getD ((u + s.length % (m - 1)) % (m - 1)) []))) = (List.range (m - 1)).map fun u => edD (swL s (u * (m / 2)) (Q.getD ((u + s.length % (m - 1)) % (m - 1)) [])) := by
    apply List.map_congr_left
    intro u hu
    rw [hget _ (Nat.mod_lt _ (by omega))]
  rw [hmap] at hL
  have he := W.he (okS (i19 ((m - 1 + 1 : Nat) : Int) (ints X) (m - 1 + 1))) ((m - 1 + 1 : Nat) : Int) (ints X) (m - 1 + 1) ((List.range (m - 1)).map fun u => edD (swL s (u * (m / 2)) (Q.getD ((u + s.length % (m - 1)) % (m - 1)) []))) (by simp)
  have hfin : (((List.range (m - 1)).map fun u => edD (swL s (u * (m / 2)) (Q.getD ((u + s.length % (m - 1)) % (m - 1)) []))).map fun A => DV.sl A (lenOf 2 A.length) 2 false (true && Nat.beq A.length 0)) = (tameR m s).map gamesD := by
    unfold tameR
    rw [List.map_map, List.map_map]
    apply List.map_congr_left
    intro u hu
    have hb : (u + s.length % (m - 1)) % (m - 1) < m - 1 := Nat.mod_lt _ (by omega)
    have hl := hget _ hb
    rw [hXd, hQd]
    show DV.sl (edD (swL s (u * (m / 2)) (Q.getD ((u + s.length % (m - 1)) % (m - 1)) []))) (lenOf 2 (edD (swL s (u * (m / 2)) (Q.getD ((u + s.length % (m - 1)) % (m - 1)) []))).length) 2 false (true && Nat.beq (edD (swL s (u * (m / 2)) (Q.getD ((u + s.length % (m - 1)) % (m - 1)) []))).length 0) = gamesD (swL s (u * (m / 2)) (Q.getD ((u + s.length % (m - 1)) % (m - 1)) []))
    have hl2 : (swL s (u * (m / 2)) (Q.getD ((u + s.length % (m - 1)) % (m - 1)) [])).length = m / 2 := by rw [swL_len, hl]
    generalize swL s (u * (m / 2)) (Q.getD ((u + s.length % (m - 1)) % (m - 1)) []) = l at hl2
    unfold gamesD
    rw [len_prs]
    have h1 : lenOf 2 (l.length * 2) = l.length := by show l.length * 2 / 2 = _; omega
    have h2 : Nat.beq (l.length * 2) 0 = false := by
      cases hb : Nat.beq (l.length * 2) 0 with
      | false => rfl
      | true => have := Nat.eq_of_beq_eq_true hb; omega
    rw [h1, h2]; rfl
  rw [hfin, hr] at he
  rw [hr] at hL hh
  exact ae_pure4 (E19_ok (m : Int) (ints X) m) (fn := Try.f19) k19 (by kernel_rfl) (by kernel_rfl) (startF_one k19 done_plain hh hL he)
end Go.Proofs.Ytigijjinlalnaaa
