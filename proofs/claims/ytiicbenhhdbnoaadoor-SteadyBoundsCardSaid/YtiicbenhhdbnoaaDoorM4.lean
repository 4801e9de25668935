/- Part 4 of what the law stands on: the abstract machine over the model, and what the functions answer. No condition. -/
import Derived.Test.YtiicbenhhdbnoaaDoorProg
import Derived.Test.YtiicbenhhdbnoaaDoorChecked
import Derived.Test.YtiicbenhhdbnoaaDoorM3
set_option linter.unusedSimpArgs false
set_option linter.unusedVariables false

/- The tables of the seat for the abstract machine, written by a program of this session (wip/tools/aectx.py). -/
namespace Go.Proofs.YtiicbenhhdbnoaaDoor
open Go Go.AE

noncomputable def aeT : Tab TI :=
  (.node 67 (⟨.other, 1, 0, []⟩) (.node 36 (⟨.other, 1, 8, [.nilf]⟩) (.node 21 (⟨(.int .i32), 1, 4, [.int .i32 0]⟩) (.node 9 (⟨.str, 1, 16, [.str ⟨#[]⟩]⟩) (.node 3 (⟨(.int .i64), 1, 8, [.int .i64 0]⟩) (.node 1 (⟨.other, 1, 8, [.nilf]⟩) (.node 0 (⟨.other, 1, 0, []⟩) .leaf .leaf) (.node 2 (⟨(.int .i64), 1, 8, [.int .i64 0]⟩) .leaf .leaf)) (.node 5 (⟨(.int .u8), 1, 1, [.int .u8 0]⟩) (.node 4 (⟨.bool, 1, 1, [.bool false]⟩) .leaf .leaf) (.node 6 (⟨(.int .u8), 1, 1, [.int .u8 0]⟩) .leaf .leaf))) (.node 15 (⟨(.ptr 120), 1, 8, [.nilp]⟩) (.node 11 (⟨.str, 1, 16, [.str ⟨#[]⟩]⟩) (.node 10 (⟨.str, 1, 16, [.str ⟨#[]⟩]⟩) .leaf .leaf) (.node 12 (⟨(.int .u64), 1, 8, [.int .u64 0]⟩) .leaf .leaf)) (.node 17 (⟨(.ptr 133), 1, 8, [.nilp]⟩) (.node 16 (⟨(.ptr 123), 1, 8, [.nilp]⟩) .leaf .leaf) (.node 20 (⟨.other, 1, 16, [.nili]⟩) .leaf .leaf)))) (.node 29 (⟨.other, 1, 8, [.nilf]⟩) (.node 25 (⟨(.int .i64), 1, 8, [.int .i64 0]⟩) (.node 23 (⟨.other, 1, 8, [.nilf]⟩) (.node 22 (⟨(.slice 3), 1, 24, [.sl [] 0 0 false true]⟩) .leaf .leaf) (.node 24 (⟨(.slice 57), 1, 24, [.sl [] 0 0 false true]⟩) .leaf .leaf)) (.node 27 (⟨.other, 1, 8, [.nilf]⟩) (.node 26 (⟨.other, 1, 0, []⟩) .leaf .leaf) (.node 28 (⟨.other, 1, 0, []⟩) .leaf .leaf))) (.node 33 (⟨.other, 1, 0, []⟩) (.node 31 (⟨.other, 1, 8, [.nilf]⟩) (.node 30 (⟨.other, 1, 0, []⟩) .leaf .leaf) (.node 32 (⟨.other, 1, 8, [.nilf]⟩) .leaf .leaf)) (.node 35 (⟨.other, 1, 8, [.nilf]⟩) (.node 34 (⟨.other, 1, 8, [.nilf]⟩) .leaf .leaf) .leaf)))) (.node 52 (⟨(.int .u64), 1, 8, [.int .u64 0]⟩) (.node 44 (⟨.other, 1, 0, []⟩) (.node 40 (⟨.other, 1, 0, []⟩) (.node 38 (⟨.other, 1, 8, [.nilf]⟩) (.node 37 (⟨.other, 1, 8, [.nilf]⟩) .leaf .leaf) (.node 39 (⟨(.array 4 22), 4, 96, [.sl [] 0 0 false true, .sl [] 0 0 false true, .sl [] 0 0 false true, .sl [] 0 0 false true]⟩) .leaf .leaf)) (.node 42 (⟨.other, 1, 0, []⟩) (.node 41 (⟨.other, 1, 8, [.nilf]⟩) .leaf .leaf) (.node 43 (⟨.other, 1, 8, [.nilf]⟩) .leaf .leaf))) (.node 48 (⟨.other, 1, 8, [.nilf]⟩) (.node 46 (⟨.other, 1, 8, [.nilf]⟩) (.node 45 (⟨.other, 1, 8, [.nilf]⟩) .leaf .leaf) (.node 47 (⟨.other, 1, 8, [.nilf]⟩) .leaf .leaf)) (.node 50 (⟨.other, 1, 0, []⟩) (.node 49 (⟨.other, 1, 8, [.nilf]⟩) .leaf .leaf) (.node 51 (⟨.other, 1, 8, [.nilf]⟩) .leaf .leaf)))) (.node 60 (⟨(.array 2 22), 2, 48, [.sl [] 0 0 false true, .sl [] 0 0 false true]⟩) (.node 56 (⟨.other, 1, 8, [.nilf]⟩) (.node 54 (⟨(.slice 2), 1, 24, [.sl [] 0 0 false true]⟩) (.node 53 (⟨.other, 1, 8, [.nilf]⟩) .leaf .leaf) (.node 55 (⟨.other, 1, 0, []⟩) .leaf .leaf)) (.node 58 (⟨(.array 2 2), 2, 16, [.int .i64 0, .int .i64 0]⟩) (.node 57 (⟨(.slice 58), 1, 24, [.sl [] 0 0 false true]⟩) .leaf .leaf) (.node 59 (⟨.other, 1, 8, [.nilf]⟩) .leaf .leaf))) (.node 64 (⟨.other, 1, 0, []⟩) (.node 62 (⟨.other, 1, 0, []⟩) (.node 61 (⟨.other, 1, 8, [.nilf]⟩) .leaf .leaf) (.node 63 (⟨.other, 1, 8, [.nilf]⟩) .leaf .leaf)) (.node 66 (⟨.other, 1, 8, [.nilf]⟩) (.node 65 (⟨.other, 1, 8, [.nilf]⟩) .leaf .leaf) .leaf))))) (.node 98 (⟨.other, 1, 8, [.nilf]⟩) (.node 83 (⟨.other, 1, 8, [.nilf]⟩) (.node 75 (⟨.other, 1, 0, []⟩) (.node 71 (⟨.other, 1, 8, [.nilf]⟩) (.node 69 (⟨.other, 1, 0, []⟩) (.node 68 (⟨.other, 1, 8, [.nilf]⟩) .leaf .leaf) (.node 70 (⟨.other, 1, 8, [.nilf]⟩) .leaf .leaf)) (.node 73 (⟨.other, 1, 8, [.nilf]⟩) (.node 72 (⟨.other, 1, 8, [.nilf]⟩) .leaf .leaf) (.node 74 (⟨(.slice 80), 1, 24, [.sl [] 0 0 false true]⟩) .leaf .leaf))) (.node 79 (⟨(.array 6 78), 12, 96, (List.replicate 12 (.int .i64 0))⟩) (.node 77 (⟨(.struct [(0, 2), (1, 2)]), 2, 16, [.int .i64 0, .int .i64 0]⟩) (.node 76 (⟨.other, 1, 8, [.nilf]⟩) .leaf .leaf) (.node 78 (⟨(.struct [(0, 2), (1, 2)]), 2, 16, [.int .i64 0, .int .i64 0]⟩) .leaf .leaf)) (.node 81 (⟨(.slice 78), 1, 24, [.sl [] 0 0 false true]⟩) (.node 80 (⟨(.array 6 78), 12, 96, (List.replicate 12 (.int .i64 0))⟩) .leaf .leaf) (.node 82 (⟨.other, 1, 8, [.nilf]⟩) .leaf .leaf)))) (.node 91 (⟨.other, 1, 8, [.nilf]⟩) (.node 87 (⟨(.struct [(0, 22), (1, 22)]), 2, 48, [.sl [] 0 0 false true, .sl [] 0 0 false true]⟩) (.node 85 (⟨.other, 1, 8, [.nilf]⟩) (.node 84 (⟨.other, 1, 8, [.nilf]⟩) .leaf .leaf) (.node 86 (⟨(.struct [(0, 22), (1, 22)]), 2, 48, [.sl [] 0 0 false true, .sl [] 0 0 false true]⟩) .leaf .leaf)) (.node 89 (⟨(.array 4 3), 4, 32, [.int .i64 0, .int .i64 0, .int .i64 0, .int .i64 0]⟩) (.node 88 (⟨(.array 4 9), 4, 64, [.str ⟨#[]⟩, .str ⟨#[]⟩, .str ⟨#[]⟩, .str ⟨#[]⟩]⟩) .leaf .leaf) (.node 90 (⟨.other, 1, 8, [.nilf]⟩) .leaf .leaf))) (.node 95 (⟨(.slice 54), 1, 24, [.sl [] 0 0 false true]⟩) (.node 93 (⟨.other, 1, 8, [.nilf]⟩) (.node 92 (⟨.other, 1, 8, [.nilf]⟩) .leaf .leaf) (.node 94 (⟨.other, 1, 8, [.nilf]⟩) .leaf .leaf)) (.node 97 (⟨.other, 1, 8, [.nilf]⟩) (.node 96 (⟨.other, 1, 8, [.nilf]⟩) .leaf .leaf) .leaf)))) (.node 113 (⟨.other, 1, 8, [.nilf]⟩) (.node 106 (⟨.other, 1, 8, [.nilf]⟩) (.node 102 (⟨.other, 1, 8, [.nilf]⟩) (.node 100 (⟨.other, 1, 8, [.nilf]⟩) (.node 99 (⟨.other, 1, 8, [.nilf]⟩) .leaf .leaf) (.node 101 (⟨.other, 1, 8, [.nilf]⟩) .leaf .leaf)) (.node 104 (⟨.other, 1, 8, [.nilf]⟩) (.node 103 (⟨.other, 1, 8, [.nilf]⟩) .leaf .leaf) (.node 105 (⟨(.slice 22), 1, 24, [.sl [] 0 0 false true]⟩) .leaf .leaf))) (.node 110 (⟨.other, 1, 8, [.nilf]⟩) (.node 108 (⟨.other, 1, 8, [.nilf]⟩) (.node 107 (⟨.other, 1, 8, [.nilf]⟩) .leaf .leaf) (.node 109 (⟨.other, 1, 8, [.nilf]⟩) .leaf .leaf)) (.node 112 (⟨.other, 1, 8, [.nilf]⟩) (.node 111 (⟨.other, 1, 8, [.nilf]⟩) .leaf .leaf) .leaf))) (.node 126 (⟨(.int .u8), 1, 1, [.int .u8 0]⟩) (.node 117 (⟨.other, 1, 8, [.nilf]⟩) (.node 115 (⟨.other, 1, 8, [.nilf]⟩) (.node 114 (⟨.other, 1, 8, [.nilf]⟩) .leaf .leaf) (.node 116 (⟨.other, 1, 8, [.nilf]⟩) .leaf .leaf)) (.node 124 (⟨.other, 1, 8, [.nilf]⟩) (.node 118 (⟨.other, 1, 8, [.nilf]⟩) .leaf .leaf) (.node 125 (⟨(.int .u32), 1, 4, [.int .u32 0]⟩) .leaf .leaf))) (.node 130 (⟨(.int .i32), 1, 4, [.int .i32 0]⟩) (.node 128 (⟨.other, 1, 8, [.nilf]⟩) (.node 127 (⟨(.int .u8), 1, 1, [.int .u8 0]⟩) .leaf .leaf) (.node 129 (⟨(.ptr 5), 1, 8, [.nilp]⟩) .leaf .leaf)) (.node 134 (⟨.other, 1, 8, []⟩) (.node 131 (⟨(.int .i32), 1, 4, [.int .i32 0]⟩) .leaf .leaf) .leaf))))))

noncomputable def aeRets : Tab (List Nat) :=
  (.node 58 [4] (.node 29 [4] (.node 14 [3, 25] (.node 7 [4] (.node 3 [4] (.node 1 [] (.node 0 [] .leaf .leaf) (.node 2 [] .leaf .leaf)) (.node 5 [4] (.node 4 [4] .leaf .leaf) (.node 6 [4] .leaf .leaf))) (.node 11 [4] (.node 9 [4] (.node 8 [4] .leaf .leaf) (.node 10 [4] .leaf .leaf)) (.node 13 [24, 25] (.node 12 [22] .leaf .leaf) .leaf))) (.node 22 [4, 25] (.node 18 [4] (.node 16 [4] (.node 15 [24, 4] .leaf .leaf) (.node 17 [3, 4] .leaf .leaf)) (.node 20 [3] (.node 19 [22] .leaf .leaf) (.node 21 [39, 25] .leaf .leaf))) (.node 26 [4] (.node 24 [25] (.node 23 [22, 4, 25] .leaf .leaf) (.node 25 [39] .leaf .leaf)) (.node 28 [4] (.node 27 [4] .leaf .leaf) .leaf)))) (.node 44 [4, 25] (.node 37 [4] (.node 33 [54, 25] (.node 31 [22] (.node 30 [22, 22] .leaf .leaf) (.node 32 [4, 25] .leaf .leaf)) (.node 35 [58] (.node 34 [58] .leaf .leaf) (.node 36 [4, 25] .leaf .leaf))) (.node 41 [22, 4] (.node 39 [60] (.node 38 [4] .leaf .leaf) (.node 40 [22, 25] .leaf .leaf)) (.node 43 [22, 3] (.node 42 [22, 25] .leaf .leaf) .leaf))) (.node 51 [4] (.node 48 [4] (.node 46 [22, 25] (.node 45 [60, 25] .leaf .leaf) (.node 47 [4] .leaf .leaf)) (.node 50 [22] (.node 49 [54] .leaf .leaf) .leaf)) (.node 55 [58] (.node 53 [25] (.node 52 [25] .leaf .leaf) (.node 54 [74, 4] .leaf .leaf)) (.node 57 [58] (.node 56 [58] .leaf .leaf) .leaf))))) (.node 88 [78] (.node 73 [22] (.node 66 [22] (.node 62 [4] (.node 60 [22] (.node 59 [4] .leaf .leaf) (.node 61 [4] .leaf .leaf)) (.node 64 [2] (.node 63 [54] .leaf .leaf) (.node 65 [3] .leaf .leaf))) (.node 70 [22] (.node 68 [22] (.node 67 [22] .leaf .leaf) (.node 69 [22] .leaf .leaf)) (.node 72 [22] (.node 71 [4] .leaf .leaf) .leaf))) (.node 81 [4] (.node 77 [2] (.node 75 [] (.node 74 [22] .leaf .leaf) (.node 76 [2] .leaf .leaf)) (.node 79 [4] (.node 78 [99] .leaf .leaf) (.node 80 [4] .leaf .leaf))) (.node 85 [80] (.node 83 [3] (.node 82 [2] .leaf .leaf) (.node 84 [] .leaf .leaf)) (.node 87 [78] (.node 86 [78] .leaf .leaf) .leaf)))) (.node 103 [] (.node 96 [9] (.node 92 [2] (.node 90 [4] (.node 89 [4] .leaf .leaf) (.node 91 [3] .leaf .leaf)) (.node 94 [78] (.node 93 [22] .leaf .leaf) (.node 95 [3] .leaf .leaf))) (.node 100 [9] (.node 98 [9] (.node 97 [] .leaf .leaf) (.node 99 [] .leaf .leaf)) (.node 102 [9] (.node 101 [] .leaf .leaf) .leaf))) (.node 110 [] (.node 107 [] (.node 105 [] (.node 104 [9] .leaf .leaf) (.node 106 [9] .leaf .leaf)) (.node 109 [9] (.node 108 [3] .leaf .leaf) .leaf)) (.node 114 [] (.node 112 [] (.node 111 [9] .leaf .leaf) (.node 113 [] .leaf .leaf)) (.node 116 [] (.node 115 [] .leaf .leaf) .leaf))))))

noncomputable def aeIsoT : Tab Bool :=
  (.node 46 true (.node 24 true (.node 13 true (.node 7 true (.node 4 true (.node 3 true (.node 2 true .leaf .leaf) .leaf) (.node 6 true (.node 5 true .leaf .leaf) .leaf)) (.node 10 true (.node 9 true (.node 8 true .leaf .leaf) .leaf) (.node 12 true (.node 11 true .leaf .leaf) .leaf))) (.node 19 true (.node 16 true (.node 15 true (.node 14 true .leaf .leaf) .leaf) (.node 18 true (.node 17 true .leaf .leaf) .leaf)) (.node 22 true (.node 21 true (.node 20 true .leaf .leaf) .leaf) (.node 23 true .leaf .leaf)))) (.node 35 true (.node 30 true (.node 27 true (.node 26 true (.node 25 true .leaf .leaf) .leaf) (.node 29 true (.node 28 true .leaf .leaf) .leaf)) (.node 33 true (.node 32 true (.node 31 true .leaf .leaf) .leaf) (.node 34 true .leaf .leaf))) (.node 41 true (.node 38 true (.node 37 true (.node 36 true .leaf .leaf) .leaf) (.node 40 true (.node 39 true .leaf .leaf) .leaf)) (.node 44 true (.node 43 true (.node 42 true .leaf .leaf) .leaf) (.node 45 true .leaf .leaf))))) (.node 68 true (.node 57 true (.node 52 true (.node 49 true (.node 48 true (.node 47 true .leaf .leaf) .leaf) (.node 51 true (.node 50 true .leaf .leaf) .leaf)) (.node 55 true (.node 54 true (.node 53 true .leaf .leaf) .leaf) (.node 56 true .leaf .leaf))) (.node 63 true (.node 60 true (.node 59 true (.node 58 true .leaf .leaf) .leaf) (.node 62 true (.node 61 true .leaf .leaf) .leaf)) (.node 66 true (.node 65 true (.node 64 true .leaf .leaf) .leaf) (.node 67 true .leaf .leaf)))) (.node 82 true (.node 76 true (.node 71 true (.node 70 true (.node 69 true .leaf .leaf) .leaf) (.node 73 true (.node 72 true .leaf .leaf) .leaf)) (.node 79 true (.node 78 true (.node 77 true .leaf .leaf) .leaf) (.node 80 true .leaf .leaf))) (.node 89 true (.node 86 true (.node 85 true (.node 83 true .leaf .leaf) .leaf) (.node 88 true (.node 87 true .leaf .leaf) .leaf)) (.node 95 true (.node 94 true (.node 91 true .leaf .leaf) .leaf) (.node 116 true .leaf .leaf))))))

noncomputable def aeIso (f : FuncId) : Bool := (tget aeIsoT f).isSome

noncomputable def aePolT : Tab (Tab Pol) :=
  (.node 48 (.node 0 ⟨[0, 1, 5], [], []⟩ .leaf .leaf) (.node 20 (.node 0 ⟨[0, 1, 5], [], []⟩ .leaf .leaf) (.node 12 (.node 0 ⟨[0, 3, 4], [(3, 1)], []⟩ .leaf .leaf) (.node 7 (.node 0 ⟨[2, 7, 8, 9], [], []⟩ .leaf .leaf) (.node 5 (.node 4 ⟨[0, 3, 4, 5, 7, 9, 10, 11, 13, 14], [], []⟩ (.node 2 ⟨[0, 3, 4, 5, 6], [], []⟩ (.node 0 ⟨[0, 3], [], []⟩ .leaf .leaf) .leaf) (.node 8 ⟨[0, 3, 4, 5, 7, 18], [], []⟩ (.node 6 ⟨[0, 3, 4, 5, 7, 9, 11, 15, 16, 17], [], []⟩ .leaf .leaf) .leaf)) (.node 4 (.node 2 ⟨[0, 1, 5, 6, 7, 9, 11, 13, 14, 16, 17], [], []⟩ (.node 0 ⟨[0, 1, 5, 6, 7], [(6, 1)], []⟩ .leaf .leaf) (.node 4 ⟨[0, 1, 5, 6, 7, 19], [(6, 1)], []⟩ .leaf .leaf)) .leaf .leaf) (.node 6 (.node 4 ⟨[0, 1, 2, 7, 8, 9, 10, 23, 24], [(23, 1)], []⟩ (.node 2 ⟨[0, 1, 2, 7, 8, 9, 10, 12, 14, 15, 17, 18], [], []⟩ (.node 0 ⟨[0, 1, 2, 7, 8, 9], [(8, 1)], []⟩ .leaf .leaf) .leaf) (.node 6 ⟨[0, 1, 2, 7, 8, 9, 28], [(8, 1)], []⟩ .leaf .leaf)) .leaf .leaf)) (.node 11 (.node 0 ⟨[0, 1, 5], [], []⟩ .leaf .leaf) (.node 8 (.node 2 ⟨[5, 6, 7, 16], [], []⟩ (.node 0 ⟨[5, 6, 7], [], []⟩ .leaf .leaf) (.node 4 ⟨[5, 6, 7, 17], [], []⟩ .leaf .leaf)) .leaf .leaf) .leaf)) (.node 15 (.node 2 ⟨[0, 4, 5, 6, 7, 8], [(7, 2)], []⟩ (.node 0 ⟨[0, 4, 5, 6], [(5, 1)], []⟩ .leaf .leaf) (.node 4 ⟨[0, 4, 5, 6, 7, 9, 10, 11, 12], [(7, 2)], []⟩ .leaf .leaf)) (.node 14 (.node 0 ⟨[5, 7, 8], [], []⟩ .leaf .leaf) (.node 13 (.node 2 ⟨[7, 8, 11, 29, 30, 31, 41, 42, 43], [(11, 2)], []⟩ (.node 0 ⟨[7, 8, 29, 30, 31], [(7, 1)], []⟩ .leaf .leaf) .leaf) .leaf .leaf) .leaf) (.node 17 (.node 0 ⟨[4, 6, 7], [], []⟩ .leaf .leaf) (.node 16 (.node 0 ⟨[0, 1, 5], [], []⟩ .leaf .leaf) .leaf .leaf) .leaf))) (.node 29 (.node 2 ⟨[5, 6], [], []⟩ (.node 0 ⟨[0, 3, 4], [(3, 1)], []⟩ .leaf .leaf) .leaf) (.node 25 (.node 2 ⟨[0, 1, 4, 5, 6, 7, 8, 9], [(8, 1)], []⟩ (.node 0 ⟨[0, 1, 4, 5, 6, 7], [], []⟩ .leaf .leaf) .leaf) (.node 23 (.node 0 ⟨[20, 21], [], []⟩ .leaf .leaf) (.node 21 (.node 0 ⟨[4, 7, 8, 22, 23], [], []⟩ .leaf .leaf) .leaf .leaf) (.node 24 (.node 0 ⟨[0, 1, 39, 40], [], []⟩ .leaf .leaf) .leaf .leaf)) (.node 28 (.node 0 ⟨[0, 1, 2, 7], [], []⟩ .leaf .leaf) (.node 26 (.node 0 ⟨[0, 1, 5], [], []⟩ .leaf .leaf) .leaf .leaf) .leaf)) (.node 36 (.node 0 ⟨[0, 1, 6, 24], [(6, 1)], []⟩ .leaf .leaf) (.node 31 (.node 0 ⟨[0, 3, 4], [], []⟩ .leaf .leaf) (.node 30 (.node 0 ⟨[1, 6, 7, 8], [(7, 1)], []⟩ .leaf .leaf) .leaf .leaf) .leaf) (.node 45 (.node 0 ⟨[2, 5, 14, 15, 16], [], []⟩ .leaf .leaf) (.node 39 (.node 0 ⟨[0, 2, 3, 4], [], []⟩ .leaf .leaf) .leaf .leaf) .leaf)))) (.node 70 (.node 2 ⟨[0, 1, 5, 6, 7], [], []⟩ (.node 0 ⟨[0, 1, 5, 6], [], []⟩ .leaf .leaf) .leaf) (.node 63 (.node 2 ⟨[0, 3, 4, 5, 6, 7], [(6, 1)], []⟩ (.node 0 ⟨[0, 3, 4, 5], [(4, 1)], []⟩ .leaf .leaf) (.node 4 ⟨[0, 3, 4, 5, 6, 7, 8, 9], [(8, 1)], []⟩ .leaf .leaf)) (.node 59 (.node 0 ⟨[0, 3], [], []⟩ .leaf .leaf) (.node 50 (.node 0 ⟨[0, 3, 4], [(3, 1)], []⟩ .leaf .leaf) (.node 49 (.node 2 ⟨[0, 3, 4, 5, 6, 7], [(6, 1)], []⟩ (.node 0 ⟨[0, 3, 4, 5], [(4, 1)], []⟩ .leaf .leaf) (.node 4 ⟨[3, 4, 8, 9], [(8, 1)], []⟩ .leaf .leaf)) .leaf .leaf) (.node 58 (.node 0 ⟨[0, 1, 5], [], []⟩ .leaf .leaf) .leaf .leaf)) (.node 61 (.node 0 ⟨[3, 16, 17, 18], [], []⟩ .leaf .leaf) (.node 60 (.node 0 ⟨[2, 5, 13], [(5, 1)], []⟩ .leaf .leaf) .leaf .leaf) .leaf)) (.node 67 (.node 0 ⟨[0, 1, 5, 6], [(5, 1)], []⟩ .leaf .leaf) (.node 66 (.node 0 ⟨[0], [], []⟩ .leaf .leaf) (.node 64 (.node 0 ⟨[0, 1], [], []⟩ .leaf .leaf) .leaf .leaf) .leaf) (.node 69 (.node 2 ⟨[5, 6, 12, 13, 14, 25, 26, 27], [], []⟩ (.node 0 ⟨[3, 12, 13, 14], [], []⟩ .leaf .leaf) (.node 4 ⟨[5, 6, 7, 8, 12, 13, 14, 25, 26, 27, 32, 33, 34], [], []⟩ .leaf .leaf)) (.node 68 (.node 0 ⟨[0, 3], [], []⟩ .leaf .leaf) .leaf .leaf) .leaf))) (.node 84 (.node 2 ⟨[0, 3, 4, 5, 6, 7, 8, 44], [], []⟩ (.node 0 ⟨[0, 3, 4, 5, 6], [], []⟩ .leaf .leaf) .leaf) (.node 77 (.node 0 ⟨[0, 1, 2, 7, 8, 9], [], []⟩ .leaf .leaf) (.node 73 (.node 2 ⟨[0, 3, 4, 5, 6, 7], [], []⟩ (.node 0 ⟨[0, 3, 4, 5], [], []⟩ .leaf .leaf) (.node 4 ⟨[0, 3, 4, 5, 6, 8], [], []⟩ .leaf .leaf)) (.node 72 (.node 4 ⟨[3, 4, 6, 7, 16, 17, 18, 33, 34], [(7, 1)], []⟩ (.node 2 ⟨[3, 4, 5, 6, 7, 16, 17, 18, 23, 24], [(7, 1)], []⟩ (.node 0 ⟨[3, 4, 16, 17, 18], [], []⟩ .leaf .leaf) .leaf) (.node 6 ⟨[3, 4, 6, 16, 17, 18, 42, 43, 44], [], []⟩ .leaf .leaf)) .leaf .leaf) (.node 75 (.node 0 ⟨[0, 2, 3], [], []⟩ .leaf .leaf) .leaf .leaf)) (.node 83 (.node 0 ⟨[3, 6, 7, 8], [], []⟩ .leaf .leaf) (.node 82 (.node 0 ⟨[3, 4, 8, 9], [(4, 1)], []⟩ .leaf .leaf) .leaf .leaf) .leaf)) (.node 92 (.node 0 ⟨[0, 1, 2, 3, 7, 15, 16, 17], [], []⟩ .leaf .leaf) (.node 91 (.node 0 ⟨[0, 1, 7, 8], [], []⟩ .leaf .leaf) (.node 85 (.node 0 ⟨[0, 1, 4, 5, 7], [], []⟩ .leaf .leaf) .leaf .leaf) .leaf) (.node 95 (.node 0 ⟨[0, 1, 7, 8], [], []⟩ .leaf .leaf) (.node 94 (.node 0 ⟨[0, 1, 4, 5, 6], [], []⟩ .leaf .leaf) .leaf .leaf) .leaf)))))

noncomputable def aePol (f b : Nat) : Option Pol := match tget aePolT f with
  | some t => tget t b
  | none => none

noncomputable def aeXPolT : Tab (Tab Pol) :=
  (.node 48 (.node 0 ⟨[], [], []⟩ .leaf .leaf) (.node 20 (.node 0 ⟨[0, 1], [], []⟩ .leaf .leaf) (.node 12 (.node 0 ⟨[3], [], []⟩ .leaf .leaf) (.node 7 (.node 0 ⟨[], [], []⟩ .leaf .leaf) (.node 5 (.node 4 ⟨[0, 3, 4, 5, 7, 9, 10, 11, 13], [], []⟩ (.node 2 ⟨[0, 3, 4, 5], [], []⟩ (.node 0 ⟨[], [], []⟩ .leaf .leaf) .leaf) (.node 8 ⟨[0, 3], [], []⟩ (.node 6 ⟨[0, 3, 4, 5, 7, 9, 15], [], []⟩ .leaf .leaf) .leaf)) (.node 4 (.node 2 ⟨[0, 1, 5, 6, 7, 11, 13, 14], [], []⟩ (.node 0 ⟨[], [], []⟩ .leaf .leaf) (.node 4 ⟨[0, 1, 5, 6, 7], [], []⟩ .leaf .leaf)) .leaf .leaf) (.node 6 (.node 4 ⟨[0, 1, 2, 9, 10, 23], [], []⟩ (.node 2 ⟨[0, 1, 2, 7, 8, 9, 10, 14, 15, 17], [], []⟩ (.node 0 ⟨[], [], []⟩ .leaf .leaf) .leaf) (.node 6 ⟨[0, 1, 2, 7, 8, 9], [], []⟩ .leaf .leaf)) .leaf .leaf)) (.node 11 (.node 0 ⟨[], [], []⟩ .leaf .leaf) (.node 8 (.node 2 ⟨[5, 6, 7], [], []⟩ (.node 0 ⟨[], [], []⟩ .leaf .leaf) (.node 4 ⟨[5, 6, 7], [], []⟩ .leaf .leaf)) .leaf .leaf) .leaf)) (.node 15 (.node 2 ⟨[0, 4, 5, 6, 7], [], []⟩ (.node 0 ⟨[5], [], []⟩ .leaf .leaf) (.node 4 ⟨[0, 4, 5, 6, 7], [], []⟩ .leaf .leaf)) (.node 14 (.node 0 ⟨[7], [], []⟩ .leaf .leaf) (.node 13 (.node 2 ⟨[7, 8, 11, 29, 30, 31], [], []⟩ (.node 0 ⟨[7], [], []⟩ .leaf .leaf) .leaf) .leaf .leaf) .leaf) (.node 17 (.node 0 ⟨[6], [], []⟩ .leaf .leaf) (.node 16 (.node 0 ⟨[], [], []⟩ .leaf .leaf) .leaf .leaf) .leaf))) (.node 29 (.node 2 ⟨[], [], []⟩ (.node 0 ⟨[3], [], []⟩ .leaf .leaf) .leaf) (.node 25 (.node 2 ⟨[0, 1, 4, 5, 6, 7, 8], [], []⟩ (.node 0 ⟨[4, 6], [], []⟩ .leaf .leaf) .leaf) (.node 23 (.node 0 ⟨[], [], []⟩ .leaf .leaf) (.node 21 (.node 0 ⟨[4, 7], [], []⟩ .leaf .leaf) .leaf .leaf) (.node 24 (.node 0 ⟨[], [], []⟩ .leaf .leaf) .leaf .leaf)) (.node 28 (.node 0 ⟨[0, 2], [], []⟩ .leaf .leaf) (.node 26 (.node 0 ⟨[], [], []⟩ .leaf .leaf) .leaf .leaf) .leaf)) (.node 36 (.node 0 ⟨[6], [], []⟩ .leaf .leaf) (.node 31 (.node 0 ⟨[3], [], []⟩ .leaf .leaf) (.node 30 (.node 0 ⟨[6, 7], [], []⟩ .leaf .leaf) .leaf .leaf) .leaf) (.node 45 (.node 0 ⟨[2, 5], [], [5]⟩ .leaf .leaf) (.node 39 (.node 0 ⟨[2, 3], [], [3]⟩ .leaf .leaf) .leaf .leaf) .leaf)))) (.node 70 (.node 2 ⟨[0, 1, 5, 6], [], []⟩ (.node 0 ⟨[5], [], []⟩ .leaf .leaf) .leaf) (.node 63 (.node 2 ⟨[0, 3, 4, 5, 6], [], []⟩ (.node 0 ⟨[4], [], []⟩ .leaf .leaf) (.node 4 ⟨[0, 3, 4, 5, 6, 7, 8], [], []⟩ .leaf .leaf)) (.node 59 (.node 0 ⟨[], [], []⟩ .leaf .leaf) (.node 50 (.node 0 ⟨[3], [], []⟩ .leaf .leaf) (.node 49 (.node 2 ⟨[0, 3, 4, 5, 6], [], []⟩ (.node 0 ⟨[3, 4], [], []⟩ .leaf .leaf) (.node 4 ⟨[8], [], []⟩ .leaf .leaf)) .leaf .leaf) (.node 58 (.node 0 ⟨[], [], []⟩ .leaf .leaf) .leaf .leaf)) (.node 61 (.node 0 ⟨[3], [], []⟩ .leaf .leaf) (.node 60 (.node 0 ⟨[5], [], []⟩ .leaf .leaf) .leaf .leaf) .leaf)) (.node 67 (.node 0 ⟨[5], [], []⟩ .leaf .leaf) (.node 66 (.node 0 ⟨[0], [], []⟩ .leaf .leaf) (.node 64 (.node 0 ⟨[0], [], []⟩ .leaf .leaf) .leaf .leaf) .leaf) (.node 69 (.node 2 ⟨[6, 12, 13, 14], [], []⟩ (.node 0 ⟨[3], [], []⟩ .leaf .leaf) (.node 4 ⟨[5, 6, 12, 13, 14, 25, 26, 27], [], []⟩ .leaf .leaf)) (.node 68 (.node 0 ⟨[0, 3], [], []⟩ .leaf .leaf) .leaf .leaf) .leaf))) (.node 84 (.node 2 ⟨[0, 3, 4, 5, 6, 7], [], []⟩ (.node 0 ⟨[], [], []⟩ .leaf .leaf) .leaf) (.node 77 (.node 0 ⟨[7], [], []⟩ .leaf .leaf) (.node 73 (.node 2 ⟨[0, 3, 4, 5, 6], [], []⟩ (.node 0 ⟨[4], [], []⟩ .leaf .leaf) (.node 4 ⟨[0, 3, 4, 5], [], []⟩ .leaf .leaf)) (.node 72 (.node 4 ⟨[3, 4, 6, 7, 16, 17, 18], [], []⟩ (.node 2 ⟨[3, 4, 5, 6, 7, 16, 17, 18], [], []⟩ (.node 0 ⟨[4], [], []⟩ .leaf .leaf) .leaf) (.node 6 ⟨[3, 4, 16, 17, 18], [], []⟩ .leaf .leaf)) .leaf .leaf) (.node 75 (.node 0 ⟨[], [], []⟩ .leaf .leaf) .leaf .leaf)) (.node 83 (.node 0 ⟨[3], [], []⟩ .leaf .leaf) (.node 82 (.node 0 ⟨[3, 4], [], []⟩ .leaf .leaf) .leaf .leaf) .leaf)) (.node 92 (.node 1 ⟨[0, 1, 2, 3, 7, 15, 16, 17], [], []⟩ (.node 0 ⟨[7], [], []⟩ .leaf .leaf) .leaf) (.node 91 (.node 0 ⟨[], [], []⟩ .leaf .leaf) (.node 85 (.node 0 ⟨[4, 5], [], []⟩ .leaf .leaf) .leaf .leaf) .leaf) (.node 95 (.node 0 ⟨[], [], []⟩ .leaf .leaf) (.node 94 (.node 0 ⟨[0, 1, 4, 5], [], []⟩ .leaf .leaf) .leaf .leaf) .leaf)))))

noncomputable def aeXPol (f b : Nat) : Option Pol := match tget aeXPolT f with
  | some t => tget t b
  | none => none

noncomputable def aePlanT : Tab (Tab Plan) :=
  (.node 45 (.node 10 ⟨[⟨0, false, [], false, none⟩, ⟨1, false, [], false, none⟩, ⟨2, false, [], false, none⟩, ⟨3, false, [], false, none⟩, ⟨4, false, [], false, none⟩, ⟨5, false, [], false, none⟩, ⟨6, false, [], false, none⟩, ⟨7, true, [], false, none⟩, ⟨8, false, [], false, none⟩], [[], [0], [0, 1], [], [3], [0, 1, 2, 3, 4], [0, 1, 2, 3, 4, 5], [0, 1, 2, 3, 4, 5, 6], [0, 1, 2, 3, 4, 5, 6, 7]]⟩ .leaf .leaf) (.node 16 (.node 6 ⟨[⟨0, false, [], false, none⟩, ⟨1, false, [], false, none⟩, ⟨2, false, [], false, none⟩, ⟨3, false, [], false, none⟩, ⟨4, false, [], false, none⟩, ⟨5, false, [], false, none⟩, ⟨6, false, [], false, none⟩, ⟨7, false, [], false, none⟩, ⟨8, false, [], false, none⟩, ⟨9, false, [], false, none⟩], [[], [], [0, 1], [0, 1, 2], [], [], [4, 5], [4, 5, 6], [0, 1, 2, 3, 4, 5, 6, 7], [0, 1, 2, 3, 4, 5, 6, 7, 8]]⟩ .leaf .leaf) (.node 7 (.node 14 ⟨[⟨0, false, [], false, none⟩, ⟨1, false, [], false, none⟩, ⟨2, false, [], false, none⟩, ⟨3, false, [], false, none⟩, ⟨4, false, [], false, none⟩, ⟨5, false, [], false, none⟩], [[], [0], [], [2], [0, 1], [0, 1, 2, 3, 4]]⟩ .leaf .leaf) (.node 5 (.node 40 ⟨[⟨0, false, [], false, none⟩, ⟨1, false, [], false, none⟩, ⟨2, false, [], false, none⟩, ⟨3, false, [], false, none⟩, ⟨4, false, [], false, none⟩, ⟨5, false, [], false, none⟩, ⟨6, false, [], false, none⟩, ⟨7, false, [], false, none⟩, ⟨8, false, [], false, none⟩, ⟨9, false, [], false, none⟩, ⟨10, false, [], false, none⟩, ⟨11, false, [], false, none⟩, ⟨12, false, [], false, none⟩, ⟨13, false, [], false, none⟩, ⟨14, false, [], false, none⟩, ⟨15, false, [], false, none⟩], [[], [], [0, 1], [0, 1, 2], [0, 1, 2, 3], [0, 1, 2, 3, 4], [0, 1, 2, 3, 4, 5], [0, 1, 2, 3, 4, 5, 6], [0, 1, 2, 3, 4, 5, 6, 7], [0, 1, 2, 3], [0, 1, 2, 3], [0, 1, 2, 3, 9, 10], [0, 1, 2, 3, 9, 10, 11], [0, 1, 2, 3, 9, 10, 11, 12], [0, 1, 2, 3, 4, 5, 6, 7, 8, 9, 10, 11, 12, 13], [0, 1, 2, 3, 4, 5, 6, 7, 8, 9, 10, 11, 12, 13, 14]]⟩ (.node 37 ⟨[⟨0, false, [], false, none⟩, ⟨1, false, [], false, none⟩, ⟨2, false, [], false, none⟩, ⟨3, false, [], false, none⟩, ⟨4, false, [], false, none⟩, ⟨5, false, [], false, none⟩, ⟨6, false, [], false, none⟩, ⟨7, false, [], false, none⟩, ⟨8, false, [], false, none⟩, ⟨9, false, [], false, none⟩, ⟨10, false, [], false, none⟩, ⟨11, false, [], false, none⟩, ⟨12, false, [], false, none⟩, ⟨13, false, [], false, none⟩], [[], [], [0, 1], [0, 1, 2], [0, 1, 2, 3], [0, 1, 2, 3, 4], [], [], [7], [6, 7, 8], [6, 7, 8, 9], [], [6, 7, 8, 9, 10, 11], [0, 1, 2, 3, 4, 5, 6, 7, 8, 9, 10, 11, 12]]⟩ .leaf .leaf) .leaf) (.node 4 (.node 18 ⟨[⟨0, false, [], false, none⟩, ⟨1, false, [], false, none⟩, ⟨2, false, [], false, none⟩, ⟨3, false, [], false, none⟩, ⟨4, false, [], false, none⟩, ⟨5, false, [], false, none⟩, ⟨6, false, [], false, none⟩, ⟨7, false, [], false, none⟩], [[], [0], [0, 1], [], [3], [3, 4], [0, 1, 2, 3, 4, 5], [0, 1, 2, 3, 4, 5, 6]]⟩ .leaf .leaf) .leaf .leaf) (.node 6 (.node 30 ⟨[⟨0, false, [], false, none⟩, ⟨1, false, [], false, none⟩, ⟨2, false, [], false, none⟩, ⟨3, false, [], false, none⟩, ⟨4, false, [], false, none⟩, ⟨5, false, [], false, none⟩, ⟨6, false, [], false, none⟩, ⟨7, false, [], false, none⟩, ⟨8, false, [], false, none⟩, ⟨9, false, [], false, none⟩, ⟨10, false, [], false, none⟩, ⟨11, false, [], false, none⟩, ⟨12, false, [], false, none⟩, ⟨13, false, [], false, none⟩, ⟨14, false, [], false, none⟩, ⟨15, false, [], false, none⟩, ⟨16, false, [], false, none⟩, ⟨17, false, [], false, none⟩, ⟨18, false, [], false, none⟩, ⟨19, false, [], false, none⟩, ⟨20, false, [], false, none⟩], [[], [], [], [1, 2], [1, 2, 3], [1, 2, 3, 4], [], [], [6, 7], [6, 7, 8], [], [], [10, 11], [10, 11, 12], [6, 7, 8, 9, 10, 11, 12, 13], [6, 7, 8, 9, 10, 11, 12, 13, 14], [6, 7, 8, 9, 10, 11, 12, 13, 14, 15], [1, 2, 3, 4, 5, 6, 7, 8, 9, 10, 11, 12, 13, 14, 15, 16], [1, 2, 3, 4, 5, 6, 7, 8, 9, 10, 11, 12, 13, 14, 15, 16, 17], [0, 1, 2, 3, 4, 5, 6, 7, 8, 9, 10, 11, 12, 13, 14, 15, 16, 17, 18], [0, 1, 2, 3, 4, 5, 6, 7, 8, 9, 10, 11, 12, 13, 14, 15, 16, 17, 18, 19]]⟩ .leaf .leaf) .leaf .leaf)) (.node 14 (.node 11 ⟨[⟨0, false, [], false, none⟩, ⟨1, false, [], false, none⟩, ⟨2, false, [], false, none⟩, ⟨3, false, [], false, none⟩, ⟨4, false, [], false, none⟩, ⟨5, false, [], false, none⟩, ⟨6, false, [], false, none⟩, ⟨7, false, [], false, none⟩, ⟨8, false, [], false, none⟩, ⟨9, false, [], false, none⟩, ⟨10, false, [], false, none⟩, ⟨11, false, [], false, none⟩, ⟨12, false, [], false, none⟩, ⟨13, false, [], false, none⟩, ⟨14, false, [], false, none⟩, ⟨15, false, [], false, none⟩], [[], [], [0, 1], [0, 1, 2], [0, 1, 2, 3], [0, 1, 2, 3, 4], [0, 1, 2, 3, 4, 5], [], [], [8], [7, 8, 9], [7, 8, 9, 10], [7, 8, 9, 10, 11], [7, 8, 9, 10, 11, 12], [7, 8, 9, 10, 11, 12, 13], [0, 1, 2, 3, 4, 5, 6, 7, 8, 9, 10, 11, 12, 13, 14]]⟩ (.node 5 ⟨[⟨0, false, [], false, none⟩, ⟨1, false, [], false, none⟩, ⟨2, false, [], false, none⟩, ⟨3, false, [], false, none⟩, ⟨4, false, [], false, none⟩, ⟨5, false, [], false, none⟩, ⟨6, false, [], false, none⟩, ⟨7, false, [], false, none⟩, ⟨8, false, [], false, none⟩, ⟨9, false, [], false, none⟩, ⟨10, false, [], false, none⟩, ⟨11, false, [], false, none⟩, ⟨12, false, [], false, none⟩], [[], [0], [0, 1], [0, 1, 2], [0, 1, 2], [0, 1, 2, 4], [0, 1, 2, 4, 5], [0, 1, 2, 3, 4, 5, 6], [0, 1, 2, 3, 4, 5, 6, 7], [0, 1, 2, 3, 4, 5, 6, 7, 8], [0, 1, 2], [0, 1, 2, 3, 4, 5, 6, 7, 8, 9, 10], [0, 1, 2, 3, 4, 5, 6, 7, 8, 9, 10, 11]]⟩ .leaf .leaf) .leaf) (.node 8 (.node 13 ⟨[⟨0, false, [], false, none⟩, ⟨1, false, [], false, none⟩, ⟨2, false, [], false, none⟩, ⟨3, false, [], false, none⟩, ⟨4, false, [], false, none⟩, ⟨5, false, [], false, none⟩, ⟨6, false, [], false, none⟩, ⟨7, false, [], false, none⟩, ⟨8, false, [], false, none⟩, ⟨9, false, [], false, none⟩, ⟨10, false, [], false, none⟩, ⟨11, false, [], false, none⟩, ⟨12, false, [], false, none⟩, ⟨13, false, [], false, none⟩], [[], [], [1], [1, 2], [1, 2, 3], [0, 1, 2, 3, 4], [], [], [7], [7, 8], [7, 8, 9], [6, 7, 8, 9, 10], [0, 1, 2, 3, 4, 5], [0, 1, 2, 3, 4, 5, 6, 7, 8, 9, 10, 11, 12]]⟩ .leaf .leaf) .leaf .leaf) (.node 15 (.node 15 ⟨[⟨8, true, [], false, none⟩, ⟨0, false, [8], false, none⟩, ⟨1, false, [8], false, none⟩, ⟨2, false, [8], false, none⟩, ⟨3, false, [8], false, none⟩, ⟨4, false, [8], false, none⟩, ⟨5, false, [8], false, none⟩, ⟨6, false, [8], false, none⟩, ⟨7, false, [8], false, none⟩, ⟨9, true, [], false, none⟩], [[], [0], [0, 1], [], [3], [3, 4], [3, 4, 5], [0, 1, 2, 3, 4, 5, 6], [], [0, 1, 2, 3, 4, 5, 6, 7, 8]]⟩ (.node 12 ⟨[⟨0, false, [], false, none⟩, ⟨1, false, [], false, none⟩, ⟨2, false, [], false, none⟩, ⟨3, false, [], false, none⟩, ⟨4, false, [], false, none⟩, ⟨5, false, [], false, none⟩, ⟨6, false, [], false, none⟩, ⟨7, false, [], false, none⟩, ⟨8, false, [], false, none⟩, ⟨9, false, [], false, none⟩, ⟨10, false, [], false, none⟩, ⟨11, false, [], false, none⟩], [[], [], [1], [0, 1, 2], [0, 1, 2, 3], [], [], [6], [5, 6, 7], [5, 6, 7, 8], [0, 1, 2, 3, 4], [0, 1, 2, 3, 4, 5, 6, 7, 8, 9, 10]]⟩ .leaf .leaf) (.node 21 ⟨[⟨0, false, [], false, none⟩, ⟨1, false, [], false, none⟩, ⟨2, false, [], false, none⟩, ⟨3, false, [], false, none⟩, ⟨4, false, [], false, none⟩, ⟨5, false, [], false, none⟩, ⟨6, false, [], false, none⟩, ⟨7, false, [], false, none⟩, ⟨8, false, [], false, none⟩, ⟨9, false, [], false, none⟩, ⟨10, true, [], false, none⟩], [[], [], [], [], [2, 3], [2, 3, 4], [], [2, 3, 4, 5, 6], [1, 2, 3, 4, 5, 6, 7], [0, 1, 2, 3, 4, 5, 6, 7, 8], [0, 1, 2, 3, 4, 5, 6, 7, 8, 9]]⟩ .leaf .leaf)) .leaf .leaf))) (.node 26 (.node 6 ⟨[⟨0, false, [], false, none⟩, ⟨1, false, [], false, none⟩, ⟨2, false, [], false, none⟩, ⟨3, false, [], false, none⟩, ⟨4, false, [], false, none⟩, ⟨5, false, [], false, none⟩, ⟨6, false, [], false, none⟩, ⟨7, false, [], false, none⟩, ⟨8, false, [], false, none⟩], [[], [], [0, 1], [0, 1, 2], [], [], [4, 5], [4, 5, 6], [0, 1, 2, 3, 4, 5, 6, 7]]⟩ .leaf .leaf) (.node 20 (.node 6 ⟨[⟨0, false, [], false, none⟩, ⟨1, false, [], false, none⟩, ⟨2, false, [], false, none⟩, ⟨3, false, [], false, none⟩, ⟨4, false, [], false, none⟩, ⟨5, false, [], false, none⟩, ⟨6, false, [], false, none⟩, ⟨7, false, [], false, none⟩, ⟨8, false, [], false, none⟩], [[], [], [0, 1], [0, 1, 2], [], [], [4, 5], [4, 5, 6], [0, 1, 2, 3, 4, 5, 6, 7]]⟩ .leaf .leaf) (.node 17 (.node 8 ⟨[⟨0, false, [], false, none⟩, ⟨1, false, [], false, none⟩, ⟨2, false, [], false, none⟩, ⟨3, false, [], false, none⟩, ⟨4, false, [], false, none⟩, ⟨5, false, [], false, none⟩, ⟨6, false, [], false, none⟩, ⟨7, false, [], false, none⟩, ⟨8, false, [], false, none⟩, ⟨9, false, [], false, none⟩, ⟨10, false, [], false, none⟩, ⟨11, false, [], false, none⟩, ⟨12, false, [], false, none⟩, ⟨13, false, [], false, none⟩, ⟨14, false, [], false, none⟩, ⟨15, false, [], false, none⟩, ⟨16, false, [], false, none⟩, ⟨17, false, [], false, none⟩], [[], [], [0, 1], [0, 1, 2], [0, 1, 2, 3], [0, 1, 2, 3, 4], [0, 1, 2, 3, 4, 5], [0, 1, 2, 3, 4, 5, 6], [], [], [9], [8, 9, 10], [8, 9, 10, 11], [8, 9, 10, 11, 12], [8, 9, 10, 11, 12, 13], [8, 9, 10, 11, 12, 13, 14], [8, 9, 10, 11, 12, 13, 14, 15], [0, 1, 2, 3, 4, 5, 6, 7, 8, 9, 10, 11, 12, 13, 14, 15, 16]]⟩ .leaf .leaf) .leaf .leaf) (.node 24 (.node 8 ⟨[⟨0, false, [], false, none⟩, ⟨1, false, [], false, none⟩, ⟨2, false, [], false, none⟩, ⟨3, false, [], false, none⟩, ⟨4, false, [], false, none⟩, ⟨5, false, [], false, none⟩, ⟨6, false, [], false, none⟩, ⟨7, false, [], false, none⟩, ⟨8, false, [], false, none⟩], [[], [], [0, 1], [0, 1, 2], [], [], [4, 5], [4, 5, 6], [0, 1, 2, 3, 4, 5, 6, 7]]⟩ .leaf .leaf) .leaf .leaf)) (.node 35 (.node 2 ⟨[⟨0, false, [], false, none⟩, ⟨1, false, [], false, none⟩, ⟨2, false, [], false, none⟩, ⟨3, false, [], false, none⟩, ⟨4, false, [], false, none⟩, ⟨5, false, [], false, none⟩, ⟨6, false, [], false, none⟩, ⟨7, true, [], false, none⟩], [[], [], [0, 1], [], [], [3, 4], [0, 1, 2, 3, 4, 5], [0, 1, 2, 3, 4, 5, 6]]⟩ .leaf .leaf) (.node 28 (.node 4 ⟨[⟨0, false, [], false, none⟩, ⟨1, false, [], false, none⟩, ⟨2, false, [], false, none⟩, ⟨3, false, [], false, none⟩, ⟨4, false, [], false, none⟩, ⟨5, false, [], false, none⟩, ⟨6, false, [], false, none⟩, ⟨7, false, [], false, none⟩, ⟨8, false, [], false, none⟩, ⟨9, false, [], false, none⟩, ⟨10, false, [], false, none⟩, ⟨11, false, [], false, none⟩, ⟨12, false, [], false, none⟩, ⟨13, false, [], false, none⟩, ⟨14, false, [], false, none⟩, ⟨15, false, [], false, none⟩, ⟨16, false, [], false, none⟩, ⟨17, false, [], false, none⟩, ⟨18, false, [], false, none⟩, ⟨19, false, [], false, none⟩], [[], [], [0, 1], [0, 1, 2], [], [], [4, 5], [4, 5, 6], [0, 1, 2, 3, 4, 5, 6, 7], [0, 1, 2, 3, 4, 5, 6, 7, 8], [0, 1, 2, 3, 4, 5, 6, 7, 8, 9], [0, 1, 2, 3, 4, 5, 6, 7, 8, 9], [0, 1, 2, 3, 4, 5, 6, 7, 8, 9, 10, 11], [0, 1, 2, 3, 4, 5, 6, 7, 8, 9, 10, 11, 12], [0, 1, 2, 3, 4, 5, 6, 7, 8, 9], [0, 1, 2, 3, 4, 5, 6, 7, 8, 9], [0, 1, 2, 3, 4, 5, 6, 7, 8, 9, 14, 15], [0, 1, 2, 3, 4, 5, 6, 7, 8, 9, 14, 15, 16], [0, 1, 2, 3, 4, 5, 6, 7, 8, 9, 10, 11, 12, 13, 14, 15, 16, 17], [0, 1, 2, 3, 4, 5, 6, 7, 8, 9, 10, 11, 12, 13, 14, 15, 16, 17, 18]]⟩ .leaf .leaf) .leaf .leaf) (.node 39 (.node 7 ⟨[⟨0, false, [], false, none⟩, ⟨1, false, [], false, none⟩, ⟨2, false, [], false, none⟩, ⟨3, false, [], false, none⟩, ⟨4, false, [], false, none⟩, ⟨5, false, [], false, none⟩, ⟨6, false, [], false, none⟩, ⟨7, true, [], false, none⟩], [[], [0], [0, 1], [], [3], [0, 1, 2, 3, 4], [0, 1, 2, 3, 4, 5], [0, 1, 2, 3, 4, 5, 6]]⟩ .leaf .leaf) .leaf .leaf)))) (.node 73 (.node 16 ⟨[⟨0, false, [], false, none⟩, ⟨1, false, [], false, none⟩, ⟨2, false, [], false, none⟩, ⟨3, false, [], false, none⟩, ⟨4, false, [], false, none⟩, ⟨5, false, [], false, none⟩, ⟨6, false, [], false, none⟩, ⟨7, false, [], false, none⟩, ⟨8, false, [], false, none⟩, ⟨9, false, [], false, none⟩, ⟨10, false, [], false, none⟩, ⟨11, false, [], false, none⟩, ⟨12, false, [], false, none⟩, ⟨13, false, [], false, none⟩, ⟨14, false, [], false, none⟩, ⟨15, false, [], false, none⟩, ⟨16, false, [], false, none⟩, ⟨17, true, [], false, none⟩], [[], [], [], [], [2, 3], [2, 3, 4], [], [], [6, 7], [6, 7, 8], [], [], [10, 11], [10, 11, 12], [6, 7, 8, 9, 10, 11, 12, 13], [2, 3, 4, 5, 6, 7, 8, 9, 10, 11, 12, 13, 14], [0, 1, 2, 3, 4, 5, 6, 7, 8, 9, 10, 11, 12, 13, 14, 15], [0, 1, 2, 3, 4, 5, 6, 7, 8, 9, 10, 11, 12, 13, 14, 15, 16]]⟩ .leaf .leaf) (.node 57 (.node 2 ⟨[⟨0, false, [], false, none⟩, ⟨1, false, [], false, none⟩, ⟨2, false, [], false, none⟩, ⟨3, false, [], false, none⟩, ⟨4, false, [], false, none⟩, ⟨5, false, [], false, none⟩, ⟨6, false, [], false, none⟩, ⟨7, false, [], false, none⟩, ⟨8, false, [], false, none⟩, ⟨9, false, [], false, none⟩, ⟨10, false, [], false, none⟩, ⟨11, false, [], false, none⟩, ⟨12, false, [], false, none⟩, ⟨13, false, [], false, none⟩, ⟨14, false, [], false, none⟩, ⟨15, false, [], false, none⟩, ⟨16, false, [], false, none⟩, ⟨17, false, [], false, none⟩, ⟨18, false, [], false, none⟩, ⟨19, false, [], false, none⟩, ⟨20, false, [], false, none⟩, ⟨21, false, [], false, none⟩, ⟨22, false, [], false, none⟩, ⟨23, true, [], false, none⟩], [[], [0], [], [2], [], [2, 3, 4], [0, 1, 2, 3, 4, 5], [], [7], [], [9], [], [9, 10, 11], [7, 8, 9, 10, 11, 12], [0, 1, 2, 3, 4, 5, 6, 7, 8, 9, 10, 11, 12, 13], [], [15], [], [15, 16, 17], [], [19], [15, 16, 17, 18, 19, 20], [0, 1, 2, 3, 4, 5, 6, 7, 8, 9, 10, 11, 12, 13, 14, 15, 16, 17, 18, 19, 20, 21], [0, 1, 2, 3, 4, 5, 6, 7, 8, 9, 10, 11, 12, 13, 14, 15, 16, 17, 18, 19, 20, 21, 22]]⟩ .leaf .leaf) (.node 54 (.node 8 ⟨[⟨0, false, [], false, none⟩, ⟨6, true, [], false, none⟩, ⟨1, false, [6], false, none⟩, ⟨2, false, [6], false, none⟩, ⟨3, false, [6], false, none⟩, ⟨4, false, [6], false, none⟩, ⟨5, false, [6], false, none⟩, ⟨7, true, [], false, none⟩], [[], [], [1], [], [3], [1, 2, 3, 4], [0], [0, 1, 2, 3, 4, 5, 6]]⟩ .leaf .leaf) (.node 48 (.node 6 ⟨[⟨0, false, [], false, none⟩, ⟨1, false, [], false, none⟩, ⟨2, false, [], false, none⟩, ⟨3, false, [], false, none⟩, ⟨4, false, [], false, none⟩, ⟨5, false, [], false, none⟩, ⟨6, false, [], false, none⟩, ⟨7, false, [], false, none⟩, ⟨8, false, [], false, none⟩], [[], [], [0, 1], [0, 1, 2], [], [], [4, 5], [4, 5, 6], [0, 1, 2, 3, 4, 5, 6, 7]]⟩ .leaf .leaf) .leaf .leaf) (.node 55 (.node 2 ⟨[⟨0, false, [], false, none⟩, ⟨1, false, [], false, none⟩, ⟨2, false, [], false, none⟩, ⟨3, false, [], false, none⟩, ⟨4, false, [], false, none⟩, ⟨5, false, [], false, none⟩, ⟨6, false, [], false, none⟩, ⟨7, false, [], false, none⟩, ⟨8, false, [], false, none⟩, ⟨9, false, [], false, none⟩, ⟨10, false, [], false, none⟩, ⟨11, false, [], false, none⟩, ⟨12, false, [], false, none⟩, ⟨13, false, [], false, none⟩, ⟨14, false, [], false, none⟩, ⟨15, false, [], false, none⟩, ⟨16, false, [], false, none⟩, ⟨17, false, [], false, none⟩, ⟨18, false, [], false, none⟩, ⟨19, true, [], false, none⟩], [[], [0], [], [0, 1, 2], [], [4], [], [4, 5, 6], [0, 1, 2, 3, 4, 5, 6, 7], [], [9], [], [9, 10, 11], [], [13], [], [13, 14, 15], [9, 10, 11, 12, 13, 14, 15, 16], [0, 1, 2, 3, 4, 5, 6, 7, 8, 9, 10, 11, 12, 13, 14, 15, 16, 17], [0, 1, 2, 3, 4, 5, 6, 7, 8, 9, 10, 11, 12, 13, 14, 15, 16, 17, 18]]⟩ (.node 1 ⟨[⟨0, false, [], false, none⟩, ⟨1, false, [], false, none⟩, ⟨2, false, [], false, none⟩, ⟨3, false, [], false, none⟩, ⟨4, false, [], false, none⟩, ⟨5, false, [], false, none⟩, ⟨6, false, [], false, none⟩, ⟨7, false, [], false, none⟩, ⟨8, false, [], false, none⟩, ⟨9, false, [], false, none⟩, ⟨10, false, [], false, none⟩, ⟨11, false, [], false, none⟩], [[], [0], [], [2], [0, 1, 2, 3], [], [5], [], [7], [0, 1, 2, 3, 4, 5, 6, 7, 8], [0, 1, 2, 3, 4, 5, 6, 7, 8, 9], [0, 1, 2, 3, 4, 5, 6, 7, 8, 9, 10]]⟩ .leaf .leaf) .leaf) .leaf .leaf)) (.node 64 (.node 2 ⟨[⟨0, false, [], false, none⟩, ⟨1, false, [], false, none⟩, ⟨2, false, [], false, none⟩, ⟨3, false, [], false, none⟩, ⟨4, false, [], false, none⟩, ⟨5, false, [], false, none⟩], [[], [], [], [1, 2], [0, 1], [0, 1, 2, 3, 4]]⟩ .leaf .leaf) (.node 58 (.node 6 ⟨[⟨0, false, [], false, none⟩, ⟨1, false, [], false, none⟩, ⟨2, false, [], false, none⟩, ⟨3, false, [], false, none⟩, ⟨4, false, [], false, none⟩, ⟨5, false, [], false, none⟩, ⟨6, false, [], false, none⟩, ⟨7, false, [], false, none⟩, ⟨8, false, [], false, none⟩], [[], [], [0, 1], [0, 1, 2], [], [], [4, 5], [4, 5, 6], [0, 1, 2, 3, 4, 5, 6, 7]]⟩ .leaf .leaf) .leaf .leaf) (.node 70 (.node 8 ⟨[⟨0, false, [], false, none⟩, ⟨1, false, [], false, none⟩, ⟨2, false, [], false, none⟩, ⟨3, false, [], false, none⟩, ⟨4, false, [], false, none⟩, ⟨5, false, [], false, none⟩, ⟨6, false, [], false, none⟩, ⟨7, false, [], false, none⟩, ⟨8, false, [], false, none⟩, ⟨9, false, [], false, none⟩, ⟨10, false, [], false, none⟩, ⟨11, false, [], false, none⟩, ⟨12, false, [], false, none⟩, ⟨13, false, [], false, none⟩, ⟨14, false, [], false, none⟩, ⟨15, false, [], false, none⟩, ⟨16, false, [], false, none⟩, ⟨17, false, [], false, none⟩, ⟨18, false, [], false, none⟩, ⟨19, false, [], false, none⟩, ⟨20, false, [], false, none⟩, ⟨21, true, [], false, none⟩], [[], [], [], [1, 2], [], [], [], [5, 6], [4, 5, 6, 7], [4, 5, 6, 7, 8], [], [], [10, 11], [10, 11, 12], [], [], [14, 15], [14, 15, 16], [10, 11, 12, 13, 14, 15, 16, 17], [4, 5, 6, 7, 8, 9, 10, 11, 12, 13, 14, 15, 16, 17, 18], [0, 1, 2, 3, 4, 5, 6, 7, 8, 9, 10, 11, 12, 13, 14, 15, 16, 17, 18, 19], [0, 1, 2, 3, 4, 5, 6, 7, 8, 9, 10, 11, 12, 13, 14, 15, 16, 17, 18, 19, 20]]⟩ .leaf .leaf) .leaf .leaf))) (.node 86 (.node 1 ⟨[⟨11, true, [], false, none⟩, ⟨0, false, [11], false, none⟩, ⟨1, false, [11], false, none⟩, ⟨2, false, [11], false, none⟩, ⟨3, false, [11], false, none⟩, ⟨4, false, [11], false, none⟩, ⟨5, false, [11], false, none⟩, ⟨6, false, [11], false, none⟩, ⟨7, false, [11], false, none⟩, ⟨8, false, [11], false, none⟩, ⟨9, false, [11], false, none⟩, ⟨10, false, [11], true, none⟩, ⟨12, true, [], false, some 10⟩, ⟨13, true, [], false, none⟩], [[], [0], [], [2], [0, 1, 2, 3], [], [5], [], [7], [0, 1, 2, 3, 4, 5, 6, 7, 8], [], [], [0, 1, 2, 3, 4, 5, 6, 7, 8, 9, 10, 11], [0, 1, 2, 3, 4, 5, 6, 7, 8, 9, 10, 11, 12]]⟩ .leaf .leaf) (.node 77 (.node 8 ⟨[⟨0, false, [], false, none⟩, ⟨1, false, [], false, none⟩, ⟨2, false, [], false, none⟩, ⟨3, false, [], false, none⟩, ⟨4, false, [], false, none⟩, ⟨5, false, [], false, none⟩, ⟨6, false, [], false, none⟩, ⟨7, false, [], false, none⟩, ⟨8, false, [], false, none⟩, ⟨9, false, [], false, none⟩, ⟨10, false, [], false, none⟩, ⟨11, false, [], false, none⟩, ⟨12, false, [], false, none⟩, ⟨13, false, [], false, none⟩, ⟨14, false, [], false, none⟩, ⟨15, false, [], false, none⟩, ⟨16, false, [], false, none⟩, ⟨17, false, [], false, none⟩, ⟨18, false, [], false, none⟩, ⟨19, false, [], false, none⟩, ⟨20, false, [], false, none⟩], [[], [], [], [], [2, 3], [2, 3, 4], [], [2, 3, 4, 5, 6], [2, 3, 4, 5, 6, 7], [1, 2, 3, 4, 5, 6, 7, 8], [], [], [11], [], [], [14], [13, 14, 15], [10, 11, 12, 13, 14, 15, 16], [1, 2, 3, 4, 5, 6, 7, 8, 9, 10, 11, 12, 13, 14, 15, 16, 17], [0, 1, 2, 3, 4, 5, 6, 7, 8, 9, 10, 11, 12, 13, 14, 15, 16, 17, 18], [0, 1, 2, 3, 4, 5, 6, 7, 8, 9, 10, 11, 12, 13, 14, 15, 16, 17, 18, 19]]⟩ .leaf .leaf) (.node 75 (.node 3 ⟨[⟨0, false, [], false, none⟩, ⟨1, false, [], false, none⟩, ⟨4, false, [], false, none⟩, ⟨5, false, [], false, none⟩, ⟨6, false, [], false, none⟩, ⟨7, false, [], false, none⟩, ⟨8, false, [], false, none⟩, ⟨9, false, [], false, none⟩, ⟨10, false, [], false, none⟩, ⟨11, false, [], false, none⟩, ⟨12, false, [], false, none⟩, ⟨13, true, [], false, none⟩, ⟨2, false, [13], false, none⟩, ⟨3, false, [13], false, none⟩, ⟨14, false, [], false, none⟩, ⟨15, true, [], false, none⟩], [[], [], [], [], [], [], [4, 5], [4, 5, 6], [], [], [8, 9], [8, 9, 10], [0, 1, 4, 5, 6, 7, 8, 9, 10, 11], [0, 1, 4, 5, 6, 7, 8, 9, 10, 11, 12], [0, 1, 2, 3, 4, 5, 6, 7, 8, 9, 10, 11, 12, 13], [0, 1, 2, 3, 4, 5, 6, 7, 8, 9, 10, 11, 12, 13, 14]]⟩ .leaf .leaf) .leaf .leaf) (.node 84 (.node 13 ⟨[⟨0, false, [], false, none⟩, ⟨1, false, [], false, none⟩, ⟨2, false, [], false, none⟩, ⟨3, false, [], false, none⟩, ⟨4, false, [], false, none⟩, ⟨5, false, [], false, none⟩, ⟨6, false, [], false, none⟩, ⟨7, false, [], false, none⟩, ⟨8, false, [], false, none⟩, ⟨9, false, [], false, none⟩, ⟨10, false, [], false, none⟩, ⟨11, false, [], false, none⟩, ⟨12, false, [], false, none⟩, ⟨13, true, [], false, none⟩], [[], [], [1], [1, 2], [1, 2, 3], [], [5], [5, 6], [5, 6, 7], [], [5, 6, 7, 8, 9], [1, 2, 3, 4, 5, 6, 7, 8, 9, 10], [0, 1, 2, 3, 4, 5, 6, 7, 8, 9, 10, 11], [0, 1, 2, 3, 4, 5, 6, 7, 8, 9, 10, 11, 12]]⟩ (.node 9 ⟨[⟨6, true, [], false, none⟩, ⟨0, false, [6], false, none⟩, ⟨1, false, [6], false, none⟩, ⟨2, false, [6], false, none⟩, ⟨3, false, [6], false, none⟩, ⟨4, false, [6], false, none⟩, ⟨5, false, [6], false, none⟩, ⟨7, true, [], false, none⟩], [[], [0], [], [2], [2, 3], [0, 1, 2, 3, 4], [], [0, 1, 2, 3, 4, 5, 6]]⟩ (.node 1 ⟨[⟨8, true, [], false, none⟩, ⟨0, false, [8], false, none⟩, ⟨1, false, [8], false, none⟩, ⟨2, false, [8], false, none⟩, ⟨3, false, [8], false, none⟩, ⟨4, false, [8], false, none⟩, ⟨5, false, [8], false, none⟩, ⟨6, false, [8], false, none⟩, ⟨7, false, [8], true, none⟩, ⟨9, true, [], false, some 7⟩, ⟨10, true, [], false, none⟩], [[], [], [0, 1], [], [], [4], [0, 1, 2, 3, 4, 5], [], [], [0, 1, 2, 3, 4, 5, 6, 7, 8], [0, 1, 2, 3, 4, 5, 6, 7, 8, 9]]⟩ .leaf .leaf) .leaf) (.node 16 ⟨[⟨0, false, [], false, none⟩, ⟨2, true, [], false, none⟩, ⟨1, false, [2], false, none⟩, ⟨3, true, [], false, none⟩], [[], [], [0], [0, 1, 2]]⟩ .leaf .leaf)) .leaf .leaf)) (.node 93 (.node 5 ⟨[⟨0, false, [], false, none⟩, ⟨1, false, [], false, none⟩, ⟨2, false, [], false, none⟩, ⟨3, false, [], false, none⟩, ⟨4, false, [], false, none⟩, ⟨5, false, [], false, none⟩, ⟨6, true, [], false, none⟩, ⟨7, false, [], false, none⟩], [[], [], [0, 1], [], [], [3, 4], [0, 1, 2, 3, 4, 5], [0, 1, 2, 3, 4, 5, 6]]⟩ .leaf .leaf) (.node 92 (.node 9 ⟨[⟨7, false, [], false, none⟩, ⟨8, false, [], false, none⟩, ⟨9, false, [], false, none⟩, ⟨10, false, [], false, none⟩, ⟨11, true, [], false, none⟩, ⟨0, false, [11], false, none⟩, ⟨1, false, [11], false, none⟩, ⟨2, false, [11], false, none⟩, ⟨3, false, [11], false, none⟩, ⟨4, false, [11], false, none⟩, ⟨5, false, [11], false, none⟩, ⟨6, false, [11], false, none⟩, ⟨12, false, [], false, none⟩, ⟨13, false, [], false, none⟩], [[], [], [0, 1], [0, 1, 2], [], [0, 1, 2, 3, 4], [0, 1, 2, 3, 4, 5], [], [], [8], [], [7, 8, 9, 10], [0, 1, 2, 3, 4, 5, 6, 7, 8, 9, 10, 11], [0, 1, 2, 3, 4, 5, 6, 7, 8, 9, 10, 11, 12]]⟩ .leaf .leaf) .leaf .leaf) (.node 94 (.node 7 ⟨[⟨0, false, [], false, none⟩, ⟨1, false, [], false, none⟩, ⟨2, false, [], false, none⟩, ⟨3, false, [], false, none⟩, ⟨4, false, [], false, none⟩, ⟨5, false, [], false, none⟩, ⟨6, false, [], false, none⟩, ⟨7, true, [], false, none⟩], [[], [], [0, 1], [], [], [3, 4], [0, 1, 2, 3, 4, 5], [0, 1, 2, 3, 4, 5, 6]]⟩ (.node 3 ⟨[⟨0, false, [], false, none⟩, ⟨1, false, [], false, none⟩, ⟨2, false, [], false, none⟩, ⟨3, false, [], false, none⟩, ⟨4, false, [], false, none⟩, ⟨5, false, [], false, none⟩], [[], [], [], [1, 2], [0, 1], [0, 1, 2, 3, 4]]⟩ .leaf .leaf) .leaf) .leaf .leaf)))))

noncomputable def aePlan (f b : Nat) : Option Plan := match tget aePlanT f with
  | some t => tget t b
  | none => none

noncomputable def aeC : Ctx := ⟨aeT, aeRets, aeIso, aePol, aeXPol, aePlan⟩

noncomputable def aeF : Tab Func :=
  (.node 58 Tryd.f58 (.node 29 Tryd.f29 (.node 14 Tryd.f14 (.node 7 Tryd.f7 (.node 3 Tryd.f3 (.node 1 Tryd.f1 (.node 0 Tryd.f0 .leaf .leaf) (.node 2 Tryd.f2 .leaf .leaf)) (.node 5 Tryd.f5 (.node 4 Tryd.f4 .leaf .leaf) (.node 6 Tryd.f6 .leaf .leaf))) (.node 11 Tryd.f11 (.node 9 Tryd.f9 (.node 8 Tryd.f8 .leaf .leaf) (.node 10 Tryd.f10 .leaf .leaf)) (.node 13 Tryd.f13 (.node 12 Tryd.f12 .leaf .leaf) .leaf))) (.node 22 Tryd.f22 (.node 18 Tryd.f18 (.node 16 Tryd.f16 (.node 15 Tryd.f15 .leaf .leaf) (.node 17 Tryd.f17 .leaf .leaf)) (.node 20 Tryd.f20 (.node 19 Tryd.f19 .leaf .leaf) (.node 21 Tryd.f21 .leaf .leaf))) (.node 26 Tryd.f26 (.node 24 Tryd.f24 (.node 23 Tryd.f23 .leaf .leaf) (.node 25 Tryd.f25 .leaf .leaf)) (.node 28 Tryd.f28 (.node 27 Tryd.f27 .leaf .leaf) .leaf)))) (.node 44 Tryd.f44 (.node 37 Tryd.f37 (.node 33 Tryd.f33 (.node 31 Tryd.f31 (.node 30 Tryd.f30 .leaf .leaf) (.node 32 Tryd.f32 .leaf .leaf)) (.node 35 Tryd.f35 (.node 34 Tryd.f34 .leaf .leaf) (.node 36 Tryd.f36 .leaf .leaf))) (.node 41 Tryd.f41 (.node 39 Tryd.f39 (.node 38 Tryd.f38 .leaf .leaf) (.node 40 Tryd.f40 .leaf .leaf)) (.node 43 Tryd.f43 (.node 42 Tryd.f42 .leaf .leaf) .leaf))) (.node 51 Tryd.f51 (.node 48 Tryd.f48 (.node 46 Tryd.f46 (.node 45 Tryd.f45 .leaf .leaf) (.node 47 Tryd.f47 .leaf .leaf)) (.node 50 Tryd.f50 (.node 49 Tryd.f49 .leaf .leaf) .leaf)) (.node 55 Tryd.f55 (.node 53 Tryd.f53 (.node 52 Tryd.f52 .leaf .leaf) (.node 54 Tryd.f54 .leaf .leaf)) (.node 57 Tryd.f57 (.node 56 Tryd.f56 .leaf .leaf) .leaf))))) (.node 88 Tryd.f88 (.node 73 Tryd.f73 (.node 66 Tryd.f66 (.node 62 Tryd.f62 (.node 60 Tryd.f60 (.node 59 Tryd.f59 .leaf .leaf) (.node 61 Tryd.f61 .leaf .leaf)) (.node 64 Tryd.f64 (.node 63 Tryd.f63 .leaf .leaf) (.node 65 Tryd.f65 .leaf .leaf))) (.node 70 Tryd.f70 (.node 68 Tryd.f68 (.node 67 Tryd.f67 .leaf .leaf) (.node 69 Tryd.f69 .leaf .leaf)) (.node 72 Tryd.f72 (.node 71 Tryd.f71 .leaf .leaf) .leaf))) (.node 81 Tryd.f81 (.node 77 Tryd.f77 (.node 75 Tryd.f75 (.node 74 Tryd.f74 .leaf .leaf) (.node 76 Tryd.f76 .leaf .leaf)) (.node 79 Tryd.f79 (.node 78 Tryd.f78 .leaf .leaf) (.node 80 Tryd.f80 .leaf .leaf))) (.node 85 Tryd.f85 (.node 83 Tryd.f83 (.node 82 Tryd.f82 .leaf .leaf) (.node 84 Tryd.f84 .leaf .leaf)) (.node 87 Tryd.f87 (.node 86 Tryd.f86 .leaf .leaf) .leaf)))) (.node 103 Tryd.f103 (.node 96 Tryd.f96 (.node 92 Tryd.f92 (.node 90 Tryd.f90 (.node 89 Tryd.f89 .leaf .leaf) (.node 91 Tryd.f91 .leaf .leaf)) (.node 94 Tryd.f94 (.node 93 Tryd.f93 .leaf .leaf) (.node 95 Tryd.f95 .leaf .leaf))) (.node 100 Tryd.f100 (.node 98 Tryd.f98 (.node 97 Tryd.f97 .leaf .leaf) (.node 99 Tryd.f99 .leaf .leaf)) (.node 102 Tryd.f102 (.node 101 Tryd.f101 .leaf .leaf) .leaf))) (.node 110 Tryd.f110 (.node 107 Tryd.f107 (.node 105 Tryd.f105 (.node 104 Tryd.f104 .leaf .leaf) (.node 106 Tryd.f106 .leaf .leaf)) (.node 109 Tryd.f109 (.node 108 Tryd.f108 .leaf .leaf) .leaf)) (.node 114 Tryd.f114 (.node 112 Tryd.f112 (.node 111 Tryd.f111 .leaf .leaf) (.node 113 Tryd.f113 .leaf .leaf)) (.node 116 Tryd.f116 (.node 115 Tryd.f115 .leaf .leaf) .leaf))))))

end Go.Proofs.YtiicbenhhdbnoaaDoor

/- The abstract machine of the seat is sound: written by a program of this session (wip/tools/aectx.py). -/
namespace Go.Proofs.YtiicbenhhdbnoaaDoor
open Go Go.AE
set_option maxRecDepth 100000
theorem aeT_ok : tableOK Tryd.prog aeT = true := by decide +kernel
theorem aeE_ok : eqTab Tryd.prog aeT = true := by decide +kernel
theorem aeCode_ok : aeF.all (fun f fn => match fn.body with | some c => okCode aeC f fn.ntmps c | none => true) = true := by decide +kernel
theorem aeName_ok : aeF.all (fun _ fn => !(fn.name == "runtime.NumGoroutine")) = true := by decide +kernel
theorem aeAt_ok : aeF.All (fun f fn => Tryd.prog.funcs[f]? = some fn) :=
  ⟨rfl, ⟨rfl, ⟨rfl, ⟨rfl, ⟨rfl, ⟨rfl, ⟨rfl, trivial, trivial⟩, ⟨rfl, trivial, trivial⟩⟩, ⟨rfl, ⟨rfl, trivial, trivial⟩, ⟨rfl, trivial, trivial⟩⟩⟩, ⟨rfl, ⟨rfl, ⟨rfl, trivial, trivial⟩, ⟨rfl, trivial, trivial⟩⟩, ⟨rfl, ⟨rfl, trivial, trivial⟩, trivial⟩⟩⟩, ⟨rfl, ⟨rfl, ⟨rfl, ⟨rfl, trivial, trivial⟩, ⟨rfl, trivial, trivial⟩⟩, ⟨rfl, ⟨rfl, trivial, trivial⟩, ⟨rfl, trivial, trivial⟩⟩⟩, ⟨rfl, ⟨rfl, ⟨rfl, trivial, trivial⟩, ⟨rfl, trivial, trivial⟩⟩, ⟨rfl, ⟨rfl, trivial, trivial⟩, trivial⟩⟩⟩⟩, ⟨rfl, ⟨rfl, ⟨rfl, ⟨rfl, ⟨rfl, trivial, trivial⟩, ⟨rfl, trivial, trivial⟩⟩, ⟨rfl, ⟨rfl, trivial, trivial⟩, ⟨rfl, trivial, trivial⟩⟩⟩, ⟨rfl, ⟨rfl, ⟨rfl, trivial, trivial⟩, ⟨rfl, trivial, trivial⟩⟩, ⟨rfl, ⟨rfl, trivial, trivial⟩, trivial⟩⟩⟩, ⟨rfl, ⟨rfl, ⟨rfl, ⟨rfl, trivial, trivial⟩, ⟨rfl, trivial, trivial⟩⟩, ⟨rfl, ⟨rfl, trivial, trivial⟩, trivial⟩⟩, ⟨rfl, ⟨rfl, ⟨rfl, trivial, trivial⟩, ⟨rfl, trivial, trivial⟩⟩, ⟨rfl, ⟨rfl, trivial, trivial⟩, trivial⟩⟩⟩⟩⟩, ⟨rfl, ⟨rfl, ⟨rfl, ⟨rfl, ⟨rfl, ⟨rfl, trivial, trivial⟩, ⟨rfl, trivial, trivial⟩⟩, ⟨rfl, ⟨rfl, trivial, trivial⟩, ⟨rfl, trivial, trivial⟩⟩⟩, ⟨rfl, ⟨rfl, ⟨rfl, trivial, trivial⟩, ⟨rfl, trivial, trivial⟩⟩, ⟨rfl, ⟨rfl, trivial, trivial⟩, trivial⟩⟩⟩, ⟨rfl, ⟨rfl, ⟨rfl, ⟨rfl, trivial, trivial⟩, ⟨rfl, trivial, trivial⟩⟩, ⟨rfl, ⟨rfl, trivial, trivial⟩, ⟨rfl, trivial, trivial⟩⟩⟩, ⟨rfl, ⟨rfl, ⟨rfl, trivial, trivial⟩, ⟨rfl, trivial, trivial⟩⟩, ⟨rfl, ⟨rfl, trivial, trivial⟩, trivial⟩⟩⟩⟩, ⟨rfl, ⟨rfl, ⟨rfl, ⟨rfl, ⟨rfl, trivial, trivial⟩, ⟨rfl, trivial, trivial⟩⟩, ⟨rfl, ⟨rfl, trivial, trivial⟩, ⟨rfl, trivial, trivial⟩⟩⟩, ⟨rfl, ⟨rfl, ⟨rfl, trivial, trivial⟩, ⟨rfl, trivial, trivial⟩⟩, ⟨rfl, ⟨rfl, trivial, trivial⟩, trivial⟩⟩⟩, ⟨rfl, ⟨rfl, ⟨rfl, ⟨rfl, trivial, trivial⟩, ⟨rfl, trivial, trivial⟩⟩, ⟨rfl, ⟨rfl, trivial, trivial⟩, trivial⟩⟩, ⟨rfl, ⟨rfl, ⟨rfl, trivial, trivial⟩, ⟨rfl, trivial, trivial⟩⟩, ⟨rfl, ⟨rfl, trivial, trivial⟩, trivial⟩⟩⟩⟩⟩⟩
theorem ae_mixed : Tryd.prog.follows .mixedOrders = true := Checked.mixed Tryd.checked
theorem ae_T : TOK Tryd.prog aeC.T := TOK.of_check aeT_ok
theorem ae_Q : EqOK Tryd.prog aeC.T := EqOK.of_check ae_T aeE_ok
theorem ae_fn {f : FuncId} {fn : Func} (h : tget aeF f = some fn) : FnOK Tryd.prog aeC f fn := by
  refine ⟨Tab.get_All aeAt_ok f fn h, ?_, fun c hc => ?_⟩
  · simpa using Tab.get_all aeName_ok f fn h
  · have := Tab.get_all aeCode_ok f fn h
    rw [hc] at this; exact this
theorem ae_direct {E : Ev} (hE : EvOK Tryd.prog E) (k : Nat) {f : FuncId} {fn : Func} {ds : List DV} {d : DV} (h : tget aeF f = some fn) (e : pureE aeC E k f fn ds = some d) : PureOK Tryd.prog f ds d := pureE_ok ae_T ae_Q ae_mixed hE (ae_fn h) e
theorem ae_directF {E : Ev} (hE : EvOK Tryd.prog E) (k : Nat) {f : FuncId} {fn : Func} {xs : List AV} {h0 h' : List Blk} {v : AV} (h : tget aeF f = some fn) (e : bodyE aeC E k f fn xs h0 (fun v h' => some (v, h')) = some (v, h')) : CallOK Tryd.prog f xs h0 v h' := bodyE_ok ae_T ae_Q ae_mixed hE (ae_fn h) e
theorem ae_pure {E : Ev} (hE : EvOK Tryd.prog E) {f : FuncId} {fn : Func} {ids : List Nat} {ds : List DV} {d : DV} (ok : OkSeg fn none ids) (h : tget aeF f = some fn) (hb : (fn.body.isSome && Nat.ble ds.length fn.ntmps) = true)
    (e : startF aeC E f 0 fn none ⟨envOf 0 (ds.map .d), [], []⟩ (doneE aeC fn 0 fun v h => freezeV h 4 v) = some d) (hfr : freshF f = false := by rfl) : PureOK Tryd.prog f ds d :=
  pure_of_go ae_T ae_Q ae_mixed hE (ae_fn h) ok hb e hfr
end Go.Proofs.YtiicbenhhdbnoaaDoor

/- Chapter 09: calls whose answers are told by tables; polynomials as data. -/
namespace Go.Proofs.YtiicbenhhdbnoaaDoor
open Go Go.AE

/-- Calls are answered by a table of shapes, where 'ok' says so. -/
def evT (ok : Nat → List DV → Bool) (shape : Nat → List DV → DV) : Ev := { Ev.nil with pure := fun f ds => .node (ok f ds) (.leaf (shape f ds)) .fail }
/-- All others are walked. -/
noncomputable def evW (fs : List Nat) (ok : Nat → List DV → Bool) (shape : Nat → List DV → DV) : Ev := evO aeC aeF (evT ok shape) fs [92] 30 8
open Classical in
noncomputable def okS (shape : Nat → List DV → DV) : Nat → List DV → Bool := fun f ds => isP (PureOK Tryd.prog f ds (shape f ds))

theorem evT_ok (shape : Nat → List DV → DV) : EvOK Tryd.prog (evT (okS shape) shape) := by
  refine ⟨fun f ds d e => ?_, (by intro f xs h v h' e; simp [evT, Ev.nil, Tr.val] at e), (by intro f xs h v h' e; simp [evT, Ev.nil, Tr.val] at e), (by intro l xs h v h' e; simp [evT, Ev.nil, Tr.val] at e)⟩
  simp only [evT, Tr.val] at e
  obtain ⟨h1, h2⟩ := cond_none e
  cases h2
  exact isP_iff.1 h1

theorem evW_ok (fs : List Nat) (shape : Nat → List DV → DV) : EvOK Tryd.prog (evW fs (okS shape) shape) :=
  evO_ok ae_T ae_Q ae_mixed (fun _ _ h => ae_fn h) (evT_ok shape) fs [92] 30 8

theorem okS_is {shape : Nat → List DV → DV} {f : Nat} {ds : List DV} (h : PureOK Tryd.prog f ds (shape f ds)) : okS shape f ds = true := isP_iff.2 h
/-- A call by its walk. -/
theorem walk {fs : List Nat} {shape : Nat → List DV → DV} {f : FuncId} {fn : Func} {ds : List DV} {d : DV} (h : tget aeF f = some fn) (e : pureE aeC (evW fs (okS shape) shape) 30 f fn ds = some d) : PureOK Tryd.prog f ds d :=
  ae_direct (evW_ok fs shape) 30 h e

def noS : Nat → List DV → DV := fun _ _ => .nilp

/-- Numbers as a list that is handed on. -/
abbrev ls (l : List Int) (c nl : Bool) : DV := .sl (ints l) l.length 1 c nl
end Go.Proofs.YtiicbenhhdbnoaaDoor

/- Chapter 09: the determinant's inner function, at each depth, written by wip/tools/gen92.py. -/
namespace Go.Proofs.YtiicbenhhdbnoaaDoor
open Go Go.AE
set_option maxRecDepth 100000
structure TabD where
  ok : Int → AV → AV → AV → List Blk → Bool
  D : Int → List DV → Int
noncomputable def F92t (T : TabD) : List AV → List Blk → Tr (AV × List Blk)
  | [.d (.int .i64 r), cols, a, b], h => match freezeV h 4 cols with
    | some (.sl cs _ _ _ _) => .node (T.ok r cols a b h) (.leaf (.d (iD (T.D r cs)), h)) .fail
    | _ => .fail
  | _, _ => .fail
noncomputable def ev92 (T : TabD) : Ev := evO aeC aeF (Ev.nil.addFn 92 (F92t T)) [] [92] 30 1

theorem u92_0_1 (T : TabD) (R : List DV) (q0 : Int) : bodyE aeC (ev92 T) 30 92 Tryd.f92 [.d (iD 0), .grow 2 1 false, .ref 1 0, .ref 0 0] [.ac [.fn 92 [] [.ref 1 0, .ref 0 0]], .dc [.sl [.sl R 1 1 false false] 1 1 false false], .dc [iD q0]] (fun v h => some (v, h) : AV → List Blk → Option (AV × List Blk)) =
  bif inRange q0 1 then
    getI (nth R (Int.toNat q0 * 1)) fun x0 =>
    bif decide (x0 = 0) then
      some (.d (iD 0), [.ac [AV.fn 92 [] [AV.ref 1 0, AV.ref 0 0]], .dc [DV.sl [DV.sl R 1 1 false false] 1 1 false false], .dc [iD q0]])
    else
      bif TabD.ok T 1 (AV.row 3 0 0 1 1 false) (AV.ref 1 0) (AV.ref 0 0) [.ac [AV.fn 92 [] [AV.ref 1 0, AV.ref 0 0]], .dc [DV.sl [DV.sl R 1 1 false false] 1 1 false false], .dc [iD q0], .dc [iD 0]] then
        bif inRange q0 1 then
          getI (nth R (Int.toNat q0 * 1)) fun x1 =>
          some (.d (iD (IntKind.wrap IntKind.i64 (0 + IntKind.wrap IntKind.i64 (x1 * TabD.D T 1 [])))), [.ac [AV.fn 92 [] [AV.ref 1 0, AV.ref 0 0]], .dc [DV.sl [DV.sl R 1 1 false false] 1 1 false false], .dc [iD q0]])
        else
          none
      else
        none
  else
    none := by kernel_rfl

theorem u92_1_0 (T : TabD) (m0 : DV) (all : List DV) : bodyE aeC (ev92 T) 30 92 Tryd.f92 [.d (iD 1), .row 3 0 0 1 1 false, .ref 1 0, .ref 0 0] [.ac [.fn 92 [] [.ref 1 0, .ref 0 0]], .dc [.sl [m0] 1 1 false false], .dc all, .dc [iD 0]] (fun v h => some (v, h) : AV → List Blk → Option (AV × List Blk)) =
  some (.d (iD 1), [.ac [AV.fn 92 [] [AV.ref 1 0, AV.ref 0 0]], .dc [DV.sl [m0] 1 1 false false], .dc all, .dc [iD 0]]) := by kernel_rfl

theorem u92_0_2 (T : TabD) (R : List DV) (m1 : DV) (q0 q1 : Int) : bodyE aeC (ev92 T) 30 92 Tryd.f92 [.d (iD 0), .grow 2 1 false, .ref 1 0, .ref 0 0] [.ac [.fn 92 [] [.ref 1 0, .ref 0 0]], .dc [.sl [.sl R 2 1 false false, m1] 2 1 false false], .dc [iD q0, iD q1]] (fun v h => some (v, h) : AV → List Blk → Option (AV × List Blk)) =
  bif inRange q0 2 then
    getI (nth R (Int.toNat q0 * 1)) fun x0 =>
    bif decide (x0 = 0) then
      bif inRange q1 2 then
        getI (nth R (Int.toNat q1 * 1)) fun x1 =>
        bif decide (x1 = 0) then
          some (.d (iD 0), [.ac [AV.fn 92 [] [AV.ref 1 0, AV.ref 0 0]], .dc [DV.sl [DV.sl R 2 1 false false, m1] 2 1 false false], .dc [iD q0, iD q1]])
        else
          bif TabD.ok T 1 (AV.row 3 0 1 2 1 false) (AV.ref 1 0) (AV.ref 0 0) [.ac [AV.fn 92 [] [AV.ref 1 0, AV.ref 0 0]], .dc [DV.sl [DV.sl R 2 1 false false, m1] 2 1 false false], .dc [iD q0, iD q1], .dc [iD q0, iD 0]] then
            bif inRange q1 2 then
              getI (nth R (Int.toNat q1 * 1)) fun x2 =>
              some (.d (iD (IntKind.wrap IntKind.i64 (0 + IntKind.wrap IntKind.i64 (0 - IntKind.wrap IntKind.i64 (x2 * TabD.D T 1 [iD q0]))))), [.ac [AV.fn 92 [] [AV.ref 1 0, AV.ref 0 0]], .dc [DV.sl [DV.sl R 2 1 false false, m1] 2 1 false false], .dc [iD q0, iD q1]])
            else
              none
          else
            none
      else
        none
    else
      bif TabD.ok T 1 (AV.row 3 0 1 2 1 false) (AV.ref 1 0) (AV.ref 0 0) [.ac [AV.fn 92 [] [AV.ref 1 0, AV.ref 0 0]], .dc [DV.sl [DV.sl R 2 1 false false, m1] 2 1 false false], .dc [iD q0, iD q1], .dc [iD q1, iD 0]] then
        bif inRange q0 2 then
          getI (nth R (Int.toNat q0 * 1)) fun x3 =>
          bif inRange q1 2 then
            getI (nth R (Int.toNat q1 * 1)) fun x4 =>
            bif decide (x4 = 0) then
              some (.d (iD (IntKind.wrap IntKind.i64 (0 + IntKind.wrap IntKind.i64 (x3 * TabD.D T 1 [iD q1])))), [.ac [AV.fn 92 [] [AV.ref 1 0, AV.ref 0 0]], .dc [DV.sl [DV.sl R 2 1 false false, m1] 2 1 false false], .dc [iD q0, iD q1]])
            else
              bif TabD.ok T 1 (AV.row 3 0 1 2 1 false) (AV.ref 1 0) (AV.ref 0 0) [.ac [AV.fn 92 [] [AV.ref 1 0, AV.ref 0 0]], .dc [DV.sl [DV.sl R 2 1 false false, m1] 2 1 false false], .dc [iD q0, iD q1], .dc [iD q0, iD 0]] then
                bif inRange q1 2 then
                  getI (nth R (Int.toNat q1 * 1)) fun x5 =>
                  some (.d (iD (IntKind.wrap IntKind.i64 (IntKind.wrap IntKind.i64 (0 + IntKind.wrap IntKind.i64 (x3 * TabD.D T 1 [iD q1])) + IntKind.wrap IntKind.i64 (0 - IntKind.wrap IntKind.i64 (x5 * TabD.D T 1 [iD q0]))))), [.ac [AV.fn 92 [] [AV.ref 1 0, AV.ref 0 0]], .dc [DV.sl [DV.sl R 2 1 false false, m1] 2 1 false false], .dc [iD q0, iD q1]])
                else
                  none
              else
                none
          else
            none
        else
          none
      else
        none
  else
    none := by kernel_rfl

theorem u92_1_1 (T : TabD) (R : List DV) (m0 : DV) (all : List DV) (q0 : Int) : bodyE aeC (ev92 T) 30 92 Tryd.f92 [.d (iD 1), .row 3 0 1 2 1 false, .ref 1 0, .ref 0 0] [.ac [.fn 92 [] [.ref 1 0, .ref 0 0]], .dc [.sl [m0, .sl R 2 1 false false] 2 1 false false], .dc all, .dc [iD q0, iD 0]] (fun v h => some (v, h) : AV → List Blk → Option (AV × List Blk)) =
  bif inRange q0 2 then
    getI (nth R (Int.toNat q0 * 1)) fun x0 =>
    bif decide (x0 = 0) then
      some (.d (iD 0), [.ac [AV.fn 92 [] [AV.ref 1 0, AV.ref 0 0]], .dc [DV.sl [m0, DV.sl R 2 1 false false] 2 1 false false], .dc all, .dc [iD q0, iD 0]])
    else
      bif TabD.ok T 2 (AV.row 4 0 0 1 1 false) (AV.ref 1 0) (AV.ref 0 0) [.ac [AV.fn 92 [] [AV.ref 1 0, AV.ref 0 0]], .dc [DV.sl [m0, DV.sl R 2 1 false false] 2 1 false false], .dc all, .dc [iD q0, iD 0], .dc [iD 0]] then
        bif inRange q0 2 then
          getI (nth R (Int.toNat q0 * 1)) fun x1 =>
          some (.d (iD (IntKind.wrap IntKind.i64 (0 + IntKind.wrap IntKind.i64 (x1 * TabD.D T 2 [])))), [.ac [AV.fn 92 [] [AV.ref 1 0, AV.ref 0 0]], .dc [DV.sl [m0, DV.sl R 2 1 false false] 2 1 false false], .dc all, .dc [iD q0, iD 0]])
        else
          none
      else
        none
  else
    none := by kernel_rfl

theorem u92_2_0 (T : TabD) (m0 m1 : DV) (all X1 : List DV) : bodyE aeC (ev92 T) 30 92 Tryd.f92 [.d (iD 2), .row 4 0 0 1 1 false, .ref 1 0, .ref 0 0] [.ac [.fn 92 [] [.ref 1 0, .ref 0 0]], .dc [.sl [m0, m1] 2 1 false false], .dc all, .dc X1, .dc [iD 0]] (fun v h => some (v, h) : AV → List Blk → Option (AV × List Blk)) =
  some (.d (iD 1), [.ac [AV.fn 92 [] [AV.ref 1 0, AV.ref 0 0]], .dc [DV.sl [m0, m1] 2 1 false false], .dc all, .dc X1, .dc [iD 0]]) := by kernel_rfl

theorem u92_0_3 (T : TabD) (R : List DV) (m1 m2 : DV) (q0 q1 q2 : Int) : bodyE aeC (ev92 T) 30 92 Tryd.f92 [.d (iD 0), .grow 2 1 false, .ref 1 0, .ref 0 0] [.ac [.fn 92 [] [.ref 1 0, .ref 0 0]], .dc [.sl [.sl R 3 1 false false, m1, m2] 3 1 false false], .dc [iD q0, iD q1, iD q2]] (fun v h => some (v, h) : AV → List Blk → Option (AV × List Blk)) =
  bif inRange q0 3 then
    getI (nth R (Int.toNat q0 * 1)) fun x0 =>
    bif decide (x0 = 0) then
      bif inRange q1 3 then
        getI (nth R (Int.toNat q1 * 1)) fun x1 =>
        bif decide (x1 = 0) then
          bif inRange q2 3 then
            getI (nth R (Int.toNat q2 * 1)) fun x2 =>
            bif decide (x2 = 0) then
              some (.d (iD 0), [.ac [AV.fn 92 [] [AV.ref 1 0, AV.ref 0 0]], .dc [DV.sl [DV.sl R 3 1 false false, m1, m2] 3 1 false false], .dc [iD q0, iD q1, iD q2]])
            else
              bif TabD.ok T 1 (AV.row 3 0 2 3 1 false) (AV.ref 1 0) (AV.ref 0 0) [.ac [AV.fn 92 [] [AV.ref 1 0, AV.ref 0 0]], .dc [DV.sl [DV.sl R 3 1 false false, m1, m2] 3 1 false false], .dc [iD q0, iD q1, iD q2], .dc [iD q0, iD q1, iD 0]] then
                bif inRange q2 3 then
                  getI (nth R (Int.toNat q2 * 1)) fun x3 =>
                  some (.d (iD (IntKind.wrap IntKind.i64 (0 + IntKind.wrap IntKind.i64 (x3 * TabD.D T 1 [iD q0, iD q1])))), [.ac [AV.fn 92 [] [AV.ref 1 0, AV.ref 0 0]], .dc [DV.sl [DV.sl R 3 1 false false, m1, m2] 3 1 false false], .dc [iD q0, iD q1, iD q2]])
                else
                  none
              else
                none
          else
            none
        else
          bif TabD.ok T 1 (AV.row 3 0 2 3 1 false) (AV.ref 1 0) (AV.ref 0 0) [.ac [AV.fn 92 [] [AV.ref 1 0, AV.ref 0 0]], .dc [DV.sl [DV.sl R 3 1 false false, m1, m2] 3 1 false false], .dc [iD q0, iD q1, iD q2], .dc [iD q0, iD q2, iD 0]] then
            bif inRange q1 3 then
              getI (nth R (Int.toNat q1 * 1)) fun x4 =>
              bif inRange q2 3 then
                getI (nth R (Int.toNat q2 * 1)) fun x5 =>
                bif decide (x5 = 0) then
                  some (.d (iD (IntKind.wrap IntKind.i64 (0 + IntKind.wrap IntKind.i64 (0 - IntKind.wrap IntKind.i64 (x4 * TabD.D T 1 [iD q0, iD q2]))))), [.ac [AV.fn 92 [] [AV.ref 1 0, AV.ref 0 0]], .dc [DV.sl [DV.sl R 3 1 false false, m1, m2] 3 1 false false], .dc [iD q0, iD q1, iD q2]])
                else
                  bif TabD.ok T 1 (AV.row 3 0 2 3 1 false) (AV.ref 1 0) (AV.ref 0 0) [.ac [AV.fn 92 [] [AV.ref 1 0, AV.ref 0 0]], .dc [DV.sl [DV.sl R 3 1 false false, m1, m2] 3 1 false false], .dc [iD q0, iD q1, iD q2], .dc [iD q0, iD q1, iD 0]] then
                    bif inRange q2 3 then
                      getI (nth R (Int.toNat q2 * 1)) fun x6 =>
                      some (.d (iD (IntKind.wrap IntKind.i64 (IntKind.wrap IntKind.i64 (0 + IntKind.wrap IntKind.i64 (0 - IntKind.wrap IntKind.i64 (x4 * TabD.D T 1 [iD q0, iD q2]))) + IntKind.wrap IntKind.i64 (x6 * TabD.D T 1 [iD q0, iD q1])))), [.ac [AV.fn 92 [] [AV.ref 1 0, AV.ref 0 0]], .dc [DV.sl [DV.sl R 3 1 false false, m1, m2] 3 1 false false], .dc [iD q0, iD q1, iD q2]])
                    else
                      none
                  else
                    none
              else
                none
            else
              none
          else
            none
      else
        none
    else
      bif TabD.ok T 1 (AV.row 3 0 2 3 1 false) (AV.ref 1 0) (AV.ref 0 0) [.ac [AV.fn 92 [] [AV.ref 1 0, AV.ref 0 0]], .dc [DV.sl [DV.sl R 3 1 false false, m1, m2] 3 1 false false], .dc [iD q0, iD q1, iD q2], .dc [iD q1, iD q2, iD 0]] then
        bif inRange q0 3 then
          getI (nth R (Int.toNat q0 * 1)) fun x7 =>
          bif inRange q1 3 then
            getI (nth R (Int.toNat q1 * 1)) fun x8 =>
            bif decide (x8 = 0) then
              bif inRange q2 3 then
                getI (nth R (Int.toNat q2 * 1)) fun x9 =>
                bif decide (x9 = 0) then
                  some (.d (iD (IntKind.wrap IntKind.i64 (0 + IntKind.wrap IntKind.i64 (x7 * TabD.D T 1 [iD q1, iD q2])))), [.ac [AV.fn 92 [] [AV.ref 1 0, AV.ref 0 0]], .dc [DV.sl [DV.sl R 3 1 false false, m1, m2] 3 1 false false], .dc [iD q0, iD q1, iD q2]])
                else
                  bif TabD.ok T 1 (AV.row 3 0 2 3 1 false) (AV.ref 1 0) (AV.ref 0 0) [.ac [AV.fn 92 [] [AV.ref 1 0, AV.ref 0 0]], .dc [DV.sl [DV.sl R 3 1 false false, m1, m2] 3 1 false false], .dc [iD q0, iD q1, iD q2], .dc [iD q0, iD q1, iD 0]] then
                    bif inRange q2 3 then
                      getI (nth R (Int.toNat q2 * 1)) fun x10 =>
                      some (.d (iD (IntKind.wrap IntKind.i64 (IntKind.wrap IntKind.i64 (0 + IntKind.wrap IntKind.i64 (x7 * TabD.D T 1 [iD q1, iD q2])) + IntKind.wrap IntKind.i64 (x10 * TabD.D T 1 [iD q0, iD q1])))), [.ac [AV.fn 92 [] [AV.ref 1 0, AV.ref 0 0]], .dc [DV.sl [DV.sl R 3 1 false false, m1, m2] 3 1 false false], .dc [iD q0, iD q1, iD q2]])
                    else
                      none
                  else
                    none
              else
                none
            else
              bif TabD.ok T 1 (AV.row 3 0 2 3 1 false) (AV.ref 1 0) (AV.ref 0 0) [.ac [AV.fn 92 [] [AV.ref 1 0, AV.ref 0 0]], .dc [DV.sl [DV.sl R 3 1 false false, m1, m2] 3 1 false false], .dc [iD q0, iD q1, iD q2], .dc [iD q0, iD q2, iD 0]] then
                bif inRange q1 3 then
                  getI (nth R (Int.toNat q1 * 1)) fun x11 =>
                  bif inRange q2 3 then
                    getI (nth R (Int.toNat q2 * 1)) fun x12 =>
                    bif decide (x12 = 0) then
                      some (.d (iD (IntKind.wrap IntKind.i64 (IntKind.wrap IntKind.i64 (0 + IntKind.wrap IntKind.i64 (x7 * TabD.D T 1 [iD q1, iD q2])) + IntKind.wrap IntKind.i64 (0 - IntKind.wrap IntKind.i64 (x11 * TabD.D T 1 [iD q0, iD q2]))))), [.ac [AV.fn 92 [] [AV.ref 1 0, AV.ref 0 0]], .dc [DV.sl [DV.sl R 3 1 false false, m1, m2] 3 1 false false], .dc [iD q0, iD q1, iD q2]])
                    else
                      bif TabD.ok T 1 (AV.row 3 0 2 3 1 false) (AV.ref 1 0) (AV.ref 0 0) [.ac [AV.fn 92 [] [AV.ref 1 0, AV.ref 0 0]], .dc [DV.sl [DV.sl R 3 1 false false, m1, m2] 3 1 false false], .dc [iD q0, iD q1, iD q2], .dc [iD q0, iD q1, iD 0]] then
                        bif inRange q2 3 then
                          getI (nth R (Int.toNat q2 * 1)) fun x13 =>
                          some (.d (iD (IntKind.wrap IntKind.i64 (IntKind.wrap IntKind.i64 (IntKind.wrap IntKind.i64 (0 + IntKind.wrap IntKind.i64 (x7 * TabD.D T 1 [iD q1, iD q2])) + IntKind.wrap IntKind.i64 (0 - IntKind.wrap IntKind.i64 (x11 * TabD.D T 1 [iD q0, iD q2]))) + IntKind.wrap IntKind.i64 (x13 * TabD.D T 1 [iD q0, iD q1])))), [.ac [AV.fn 92 [] [AV.ref 1 0, AV.ref 0 0]], .dc [DV.sl [DV.sl R 3 1 false false, m1, m2] 3 1 false false], .dc [iD q0, iD q1, iD q2]])
                        else
                          none
                      else
                        none
                  else
                    none
                else
                  none
              else
                none
          else
            none
        else
          none
      else
        none
  else
    none := by kernel_rfl

theorem u92_1_2 (T : TabD) (R : List DV) (m0 m2 : DV) (all : List DV) (q0 q1 : Int) : bodyE aeC (ev92 T) 30 92 Tryd.f92 [.d (iD 1), .row 3 0 2 3 1 false, .ref 1 0, .ref 0 0] [.ac [.fn 92 [] [.ref 1 0, .ref 0 0]], .dc [.sl [m0, .sl R 3 1 false false, m2] 3 1 false false], .dc all, .dc [iD q0, iD q1, iD 0]] (fun v h => some (v, h) : AV → List Blk → Option (AV × List Blk)) =
  bif inRange q0 3 then
    getI (nth R (Int.toNat q0 * 1)) fun x0 =>
    bif decide (x0 = 0) then
      bif inRange q1 3 then
        getI (nth R (Int.toNat q1 * 1)) fun x1 =>
        bif decide (x1 = 0) then
          some (.d (iD 0), [.ac [AV.fn 92 [] [AV.ref 1 0, AV.ref 0 0]], .dc [DV.sl [m0, DV.sl R 3 1 false false, m2] 3 1 false false], .dc all, .dc [iD q0, iD q1, iD 0]])
        else
          bif TabD.ok T 2 (AV.row 4 0 1 2 1 false) (AV.ref 1 0) (AV.ref 0 0) [.ac [AV.fn 92 [] [AV.ref 1 0, AV.ref 0 0]], .dc [DV.sl [m0, DV.sl R 3 1 false false, m2] 3 1 false false], .dc all, .dc [iD q0, iD q1, iD 0], .dc [iD q0, iD 0]] then
            bif inRange q1 3 then
              getI (nth R (Int.toNat q1 * 1)) fun x2 =>
              some (.d (iD (IntKind.wrap IntKind.i64 (0 + IntKind.wrap IntKind.i64 (0 - IntKind.wrap IntKind.i64 (x2 * TabD.D T 2 [iD q0]))))), [.ac [AV.fn 92 [] [AV.ref 1 0, AV.ref 0 0]], .dc [DV.sl [m0, DV.sl R 3 1 false false, m2] 3 1 false false], .dc all, .dc [iD q0, iD q1, iD 0]])
            else
              none
          else
            none
      else
        none
    else
      bif TabD.ok T 2 (AV.row 4 0 1 2 1 false) (AV.ref 1 0) (AV.ref 0 0) [.ac [AV.fn 92 [] [AV.ref 1 0, AV.ref 0 0]], .dc [DV.sl [m0, DV.sl R 3 1 false false, m2] 3 1 false false], .dc all, .dc [iD q0, iD q1, iD 0], .dc [iD q1, iD 0]] then
        bif inRange q0 3 then
          getI (nth R (Int.toNat q0 * 1)) fun x3 =>
          bif inRange q1 3 then
            getI (nth R (Int.toNat q1 * 1)) fun x4 =>
            bif decide (x4 = 0) then
              some (.d (iD (IntKind.wrap IntKind.i64 (0 + IntKind.wrap IntKind.i64 (x3 * TabD.D T 2 [iD q1])))), [.ac [AV.fn 92 [] [AV.ref 1 0, AV.ref 0 0]], .dc [DV.sl [m0, DV.sl R 3 1 false false, m2] 3 1 false false], .dc all, .dc [iD q0, iD q1, iD 0]])
            else
              bif TabD.ok T 2 (AV.row 4 0 1 2 1 false) (AV.ref 1 0) (AV.ref 0 0) [.ac [AV.fn 92 [] [AV.ref 1 0, AV.ref 0 0]], .dc [DV.sl [m0, DV.sl R 3 1 false false, m2] 3 1 false false], .dc all, .dc [iD q0, iD q1, iD 0], .dc [iD q0, iD 0]] then
                bif inRange q1 3 then
                  getI (nth R (Int.toNat q1 * 1)) fun x5 =>
                  some (.d (iD (IntKind.wrap IntKind.i64 (IntKind.wrap IntKind.i64 (0 + IntKind.wrap IntKind.i64 (x3 * TabD.D T 2 [iD q1])) + IntKind.wrap IntKind.i64 (0 - IntKind.wrap IntKind.i64 (x5 * TabD.D T 2 [iD q0]))))), [.ac [AV.fn 92 [] [AV.ref 1 0, AV.ref 0 0]], .dc [DV.sl [m0, DV.sl R 3 1 false false, m2] 3 1 false false], .dc all, .dc [iD q0, iD q1, iD 0]])
                else
                  none
              else
                none
          else
            none
        else
          none
      else
        none
  else
    none := by kernel_rfl

theorem u92_2_1 (T : TabD) (R : List DV) (m0 m1 : DV) (all X1 : List DV) (q0 : Int) : bodyE aeC (ev92 T) 30 92 Tryd.f92 [.d (iD 2), .row 4 0 1 2 1 false, .ref 1 0, .ref 0 0] [.ac [.fn 92 [] [.ref 1 0, .ref 0 0]], .dc [.sl [m0, m1, .sl R 3 1 false false] 3 1 false false], .dc all, .dc X1, .dc [iD q0, iD 0]] (fun v h => some (v, h) : AV → List Blk → Option (AV × List Blk)) =
  bif inRange q0 3 then
    getI (nth R (Int.toNat q0 * 1)) fun x0 =>
    bif decide (x0 = 0) then
      some (.d (iD 0), [.ac [AV.fn 92 [] [AV.ref 1 0, AV.ref 0 0]], .dc [DV.sl [m0, m1, DV.sl R 3 1 false false] 3 1 false false], .dc all, .dc X1, .dc [iD q0, iD 0]])
    else
      bif TabD.ok T 3 (AV.row 5 0 0 1 1 false) (AV.ref 1 0) (AV.ref 0 0) [.ac [AV.fn 92 [] [AV.ref 1 0, AV.ref 0 0]], .dc [DV.sl [m0, m1, DV.sl R 3 1 false false] 3 1 false false], .dc all, .dc X1, .dc [iD q0, iD 0], .dc [iD 0]] then
        bif inRange q0 3 then
          getI (nth R (Int.toNat q0 * 1)) fun x1 =>
          some (.d (iD (IntKind.wrap IntKind.i64 (0 + IntKind.wrap IntKind.i64 (x1 * TabD.D T 3 [])))), [.ac [AV.fn 92 [] [AV.ref 1 0, AV.ref 0 0]], .dc [DV.sl [m0, m1, DV.sl R 3 1 false false] 3 1 false false], .dc all, .dc X1, .dc [iD q0, iD 0]])
        else
          none
      else
        none
  else
    none := by kernel_rfl

theorem u92_3_0 (T : TabD) (m0 m1 m2 : DV) (all X1 X2 : List DV) : bodyE aeC (ev92 T) 30 92 Tryd.f92 [.d (iD 3), .row 5 0 0 1 1 false, .ref 1 0, .ref 0 0] [.ac [.fn 92 [] [.ref 1 0, .ref 0 0]], .dc [.sl [m0, m1, m2] 3 1 false false], .dc all, .dc X1, .dc X2, .dc [iD 0]] (fun v h => some (v, h) : AV → List Blk → Option (AV × List Blk)) =
  some (.d (iD 1), [.ac [AV.fn 92 [] [AV.ref 1 0, AV.ref 0 0]], .dc [DV.sl [m0, m1, m2] 3 1 false false], .dc all, .dc X1, .dc X2, .dc [iD 0]]) := by kernel_rfl

theorem u92_0_4 (T : TabD) (R : List DV) (m1 m2 m3 : DV) (q0 q1 q2 q3 : Int) : bodyE aeC (ev92 T) 30 92 Tryd.f92 [.d (iD 0), .grow 2 1 false, .ref 1 0, .ref 0 0] [.ac [.fn 92 [] [.ref 1 0, .ref 0 0]], .dc [.sl [.sl R 4 1 false false, m1, m2, m3] 4 1 false false], .dc [iD q0, iD q1, iD q2, iD q3]] (fun v h => some (v, h) : AV → List Blk → Option (AV × List Blk)) =
  bif inRange q0 4 then
    getI (nth R (Int.toNat q0 * 1)) fun x0 =>
    bif decide (x0 = 0) then
      bif inRange q1 4 then
        getI (nth R (Int.toNat q1 * 1)) fun x1 =>
        bif decide (x1 = 0) then
          bif inRange q2 4 then
            getI (nth R (Int.toNat q2 * 1)) fun x2 =>
            bif decide (x2 = 0) then
              bif inRange q3 4 then
                getI (nth R (Int.toNat q3 * 1)) fun x3 =>
                bif decide (x3 = 0) then
                  some (.d (iD 0), [.ac [AV.fn 92 [] [AV.ref 1 0, AV.ref 0 0]], .dc [DV.sl [DV.sl R 4 1 false false, m1, m2, m3] 4 1 false false], .dc [iD q0, iD q1, iD q2, iD q3]])
                else
                  bif TabD.ok T 1 (AV.row 3 0 3 4 1 false) (AV.ref 1 0) (AV.ref 0 0) [.ac [AV.fn 92 [] [AV.ref 1 0, AV.ref 0 0]], .dc [DV.sl [DV.sl R 4 1 false false, m1, m2, m3] 4 1 false false], .dc [iD q0, iD q1, iD q2, iD q3], .dc [iD q0, iD q1, iD q2, iD 0]] then
                    bif inRange q3 4 then
                      getI (nth R (Int.toNat q3 * 1)) fun x4 =>
                      some (.d (iD (IntKind.wrap IntKind.i64 (0 + IntKind.wrap IntKind.i64 (0 - IntKind.wrap IntKind.i64 (x4 * TabD.D T 1 [iD q0, iD q1, iD q2]))))), [.ac [AV.fn 92 [] [AV.ref 1 0, AV.ref 0 0]], .dc [DV.sl [DV.sl R 4 1 false false, m1, m2, m3] 4 1 false false], .dc [iD q0, iD q1, iD q2, iD q3]])
                    else
                      none
                  else
                    none
              else
                none
            else
              bif TabD.ok T 1 (AV.row 3 0 3 4 1 false) (AV.ref 1 0) (AV.ref 0 0) [.ac [AV.fn 92 [] [AV.ref 1 0, AV.ref 0 0]], .dc [DV.sl [DV.sl R 4 1 false false, m1, m2, m3] 4 1 false false], .dc [iD q0, iD q1, iD q2, iD q3], .dc [iD q0, iD q1, iD q3, iD 0]] then
                bif inRange q2 4 then
                  getI (nth R (Int.toNat q2 * 1)) fun x5 =>
                  bif inRange q3 4 then
                    getI (nth R (Int.toNat q3 * 1)) fun x6 =>
                    bif decide (x6 = 0) then
                      some (.d (iD (IntKind.wrap IntKind.i64 (0 + IntKind.wrap IntKind.i64 (x5 * TabD.D T 1 [iD q0, iD q1, iD q3])))), [.ac [AV.fn 92 [] [AV.ref 1 0, AV.ref 0 0]], .dc [DV.sl [DV.sl R 4 1 false false, m1, m2, m3] 4 1 false false], .dc [iD q0, iD q1, iD q2, iD q3]])
                    else
                      bif TabD.ok T 1 (AV.row 3 0 3 4 1 false) (AV.ref 1 0) (AV.ref 0 0) [.ac [AV.fn 92 [] [AV.ref 1 0, AV.ref 0 0]], .dc [DV.sl [DV.sl R 4 1 false false, m1, m2, m3] 4 1 false false], .dc [iD q0, iD q1, iD q2, iD q3], .dc [iD q0, iD q1, iD q2, iD 0]] then
                        bif inRange q3 4 then
                          getI (nth R (Int.toNat q3 * 1)) fun x7 =>
                          some (.d (iD (IntKind.wrap IntKind.i64 (IntKind.wrap IntKind.i64 (0 + IntKind.wrap IntKind.i64 (x5 * TabD.D T 1 [iD q0, iD q1, iD q3])) + IntKind.wrap IntKind.i64 (0 - IntKind.wrap IntKind.i64 (x7 * TabD.D T 1 [iD q0, iD q1, iD q2]))))), [.ac [AV.fn 92 [] [AV.ref 1 0, AV.ref 0 0]], .dc [DV.sl [DV.sl R 4 1 false false, m1, m2, m3] 4 1 false false], .dc [iD q0, iD q1, iD q2, iD q3]])
                        else
                          none
                      else
                        none
                  else
                    none
                else
                  none
              else
                none
          else
            none
        else
          bif TabD.ok T 1 (AV.row 3 0 3 4 1 false) (AV.ref 1 0) (AV.ref 0 0) [.ac [AV.fn 92 [] [AV.ref 1 0, AV.ref 0 0]], .dc [DV.sl [DV.sl R 4 1 false false, m1, m2, m3] 4 1 false false], .dc [iD q0, iD q1, iD q2, iD q3], .dc [iD q0, iD q2, iD q3, iD 0]] then
            bif inRange q1 4 then
              getI (nth R (Int.toNat q1 * 1)) fun x8 =>
              bif inRange q2 4 then
                getI (nth R (Int.toNat q2 * 1)) fun x9 =>
                bif decide (x9 = 0) then
                  bif inRange q3 4 then
                    getI (nth R (Int.toNat q3 * 1)) fun x10 =>
                    bif decide (x10 = 0) then
                      some (.d (iD (IntKind.wrap IntKind.i64 (0 + IntKind.wrap IntKind.i64 (0 - IntKind.wrap IntKind.i64 (x8 * TabD.D T 1 [iD q0, iD q2, iD q3]))))), [.ac [AV.fn 92 [] [AV.ref 1 0, AV.ref 0 0]], .dc [DV.sl [DV.sl R 4 1 false false, m1, m2, m3] 4 1 false false], .dc [iD q0, iD q1, iD q2, iD q3]])
                    else
                      bif TabD.ok T 1 (AV.row 3 0 3 4 1 false) (AV.ref 1 0) (AV.ref 0 0) [.ac [AV.fn 92 [] [AV.ref 1 0, AV.ref 0 0]], .dc [DV.sl [DV.sl R 4 1 false false, m1, m2, m3] 4 1 false false], .dc [iD q0, iD q1, iD q2, iD q3], .dc [iD q0, iD q1, iD q2, iD 0]] then
                        bif inRange q3 4 then
                          getI (nth R (Int.toNat q3 * 1)) fun x11 =>
                          some (.d (iD (IntKind.wrap IntKind.i64 (IntKind.wrap IntKind.i64 (0 + IntKind.wrap IntKind.i64 (0 - IntKind.wrap IntKind.i64 (x8 * TabD.D T 1 [iD q0, iD q2, iD q3]))) + IntKind.wrap IntKind.i64 (0 - IntKind.wrap IntKind.i64 (x11 * TabD.D T 1 [iD q0, iD q1, iD q2]))))), [.ac [AV.fn 92 [] [AV.ref 1 0, AV.ref 0 0]], .dc [DV.sl [DV.sl R 4 1 false false, m1, m2, m3] 4 1 false false], .dc [iD q0, iD q1, iD q2, iD q3]])
                        else
                          none
                      else
                        none
                  else
                    none
                else
                  bif TabD.ok T 1 (AV.row 3 0 3 4 1 false) (AV.ref 1 0) (AV.ref 0 0) [.ac [AV.fn 92 [] [AV.ref 1 0, AV.ref 0 0]], .dc [DV.sl [DV.sl R 4 1 false false, m1, m2, m3] 4 1 false false], .dc [iD q0, iD q1, iD q2, iD q3], .dc [iD q0, iD q1, iD q3, iD 0]] then
                    bif inRange q2 4 then
                      getI (nth R (Int.toNat q2 * 1)) fun x12 =>
                      bif inRange q3 4 then
                        getI (nth R (Int.toNat q3 * 1)) fun x13 =>
                        bif decide (x13 = 0) then
                          some (.d (iD (IntKind.wrap IntKind.i64 (IntKind.wrap IntKind.i64 (0 + IntKind.wrap IntKind.i64 (0 - IntKind.wrap IntKind.i64 (x8 * TabD.D T 1 [iD q0, iD q2, iD q3]))) + IntKind.wrap IntKind.i64 (x12 * TabD.D T 1 [iD q0, iD q1, iD q3])))), [.ac [AV.fn 92 [] [AV.ref 1 0, AV.ref 0 0]], .dc [DV.sl [DV.sl R 4 1 false false, m1, m2, m3] 4 1 false false], .dc [iD q0, iD q1, iD q2, iD q3]])
                        else
                          bif TabD.ok T 1 (AV.row 3 0 3 4 1 false) (AV.ref 1 0) (AV.ref 0 0) [.ac [AV.fn 92 [] [AV.ref 1 0, AV.ref 0 0]], .dc [DV.sl [DV.sl R 4 1 false false, m1, m2, m3] 4 1 false false], .dc [iD q0, iD q1, iD q2, iD q3], .dc [iD q0, iD q1, iD q2, iD 0]] then
                            bif inRange q3 4 then
                              getI (nth R (Int.toNat q3 * 1)) fun x14 =>
                              some (.d (iD (IntKind.wrap IntKind.i64 (IntKind.wrap IntKind.i64 (IntKind.wrap IntKind.i64 (0 + IntKind.wrap IntKind.i64 (0 - IntKind.wrap IntKind.i64 (x8 * TabD.D T 1 [iD q0, iD q2, iD q3]))) + IntKind.wrap IntKind.i64 (x12 * TabD.D T 1 [iD q0, iD q1, iD q3])) + IntKind.wrap IntKind.i64 (0 - IntKind.wrap IntKind.i64 (x14 * TabD.D T 1 [iD q0, iD q1, iD q2]))))), [.ac [AV.fn 92 [] [AV.ref 1 0, AV.ref 0 0]], .dc [DV.sl [DV.sl R 4 1 false false, m1, m2, m3] 4 1 false false], .dc [iD q0, iD q1, iD q2, iD q3]])
                            else
                              none
                          else
                            none
                      else
                        none
                    else
                      none
                  else
                    none
              else
                none
            else
              none
          else
            none
      else
        none
    else
      bif TabD.ok T 1 (AV.row 3 0 3 4 1 false) (AV.ref 1 0) (AV.ref 0 0) [.ac [AV.fn 92 [] [AV.ref 1 0, AV.ref 0 0]], .dc [DV.sl [DV.sl R 4 1 false false, m1, m2, m3] 4 1 false false], .dc [iD q0, iD q1, iD q2, iD q3], .dc [iD q1, iD q2, iD q3, iD 0]] then
        bif inRange q0 4 then
          getI (nth R (Int.toNat q0 * 1)) fun x15 =>
          bif inRange q1 4 then
            getI (nth R (Int.toNat q1 * 1)) fun x16 =>
            bif decide (x16 = 0) then
              bif inRange q2 4 then
                getI (nth R (Int.toNat q2 * 1)) fun x17 =>
                bif decide (x17 = 0) then
                  bif inRange q3 4 then
                    getI (nth R (Int.toNat q3 * 1)) fun x18 =>
                    bif decide (x18 = 0) then
                      some (.d (iD (IntKind.wrap IntKind.i64 (0 + IntKind.wrap IntKind.i64 (x15 * TabD.D T 1 [iD q1, iD q2, iD q3])))), [.ac [AV.fn 92 [] [AV.ref 1 0, AV.ref 0 0]], .dc [DV.sl [DV.sl R 4 1 false false, m1, m2, m3] 4 1 false false], .dc [iD q0, iD q1, iD q2, iD q3]])
                    else
                      bif TabD.ok T 1 (AV.row 3 0 3 4 1 false) (AV.ref 1 0) (AV.ref 0 0) [.ac [AV.fn 92 [] [AV.ref 1 0, AV.ref 0 0]], .dc [DV.sl [DV.sl R 4 1 false false, m1, m2, m3] 4 1 false false], .dc [iD q0, iD q1, iD q2, iD q3], .dc [iD q0, iD q1, iD q2, iD 0]] then
                        bif inRange q3 4 then
                          getI (nth R (Int.toNat q3 * 1)) fun x19 =>
                          some (.d (iD (IntKind.wrap IntKind.i64 (IntKind.wrap IntKind.i64 (0 + IntKind.wrap IntKind.i64 (x15 * TabD.D T 1 [iD q1, iD q2, iD q3])) + IntKind.wrap IntKind.i64 (0 - IntKind.wrap IntKind.i64 (x19 * TabD.D T 1 [iD q0, iD q1, iD q2]))))), [.ac [AV.fn 92 [] [AV.ref 1 0, AV.ref 0 0]], .dc [DV.sl [DV.sl R 4 1 false false, m1, m2, m3] 4 1 false false], .dc [iD q0, iD q1, iD q2, iD q3]])
                        else
                          none
                      else
                        none
                  else
                    none
                else
                  bif TabD.ok T 1 (AV.row 3 0 3 4 1 false) (AV.ref 1 0) (AV.ref 0 0) [.ac [AV.fn 92 [] [AV.ref 1 0, AV.ref 0 0]], .dc [DV.sl [DV.sl R 4 1 false false, m1, m2, m3] 4 1 false false], .dc [iD q0, iD q1, iD q2, iD q3], .dc [iD q0, iD q1, iD q3, iD 0]] then
                    bif inRange q2 4 then
                      getI (nth R (Int.toNat q2 * 1)) fun x20 =>
                      bif inRange q3 4 then
                        getI (nth R (Int.toNat q3 * 1)) fun x21 =>
                        bif decide (x21 = 0) then
                          some (.d (iD (IntKind.wrap IntKind.i64 (IntKind.wrap IntKind.i64 (0 + IntKind.wrap IntKind.i64 (x15 * TabD.D T 1 [iD q1, iD q2, iD q3])) + IntKind.wrap IntKind.i64 (x20 * TabD.D T 1 [iD q0, iD q1, iD q3])))), [.ac [AV.fn 92 [] [AV.ref 1 0, AV.ref 0 0]], .dc [DV.sl [DV.sl R 4 1 false false, m1, m2, m3] 4 1 false false], .dc [iD q0, iD q1, iD q2, iD q3]])
                        else
                          bif TabD.ok T 1 (AV.row 3 0 3 4 1 false) (AV.ref 1 0) (AV.ref 0 0) [.ac [AV.fn 92 [] [AV.ref 1 0, AV.ref 0 0]], .dc [DV.sl [DV.sl R 4 1 false false, m1, m2, m3] 4 1 false false], .dc [iD q0, iD q1, iD q2, iD q3], .dc [iD q0, iD q1, iD q2, iD 0]] then
                            bif inRange q3 4 then
                              getI (nth R (Int.toNat q3 * 1)) fun x22 =>
                              some (.d (iD (IntKind.wrap IntKind.i64 (IntKind.wrap IntKind.i64 (IntKind.wrap IntKind.i64 (0 + IntKind.wrap IntKind.i64 (x15 * TabD.D T 1 [iD q1, iD q2, iD q3])) + IntKind.wrap IntKind.i64 (x20 * TabD.D T 1 [iD q0, iD q1, iD q3])) + IntKind.wrap IntKind.i64 (0 - IntKind.wrap IntKind.i64 (x22 * TabD.D T 1 [iD q0, iD q1, iD q2]))))), [.ac [AV.fn 92 [] [AV.ref 1 0, AV.ref 0 0]], .dc [DV.sl [DV.sl R 4 1 false false, m1, m2, m3] 4 1 false false], .dc [iD q0, iD q1, iD q2, iD q3]])
                            else
                              none
                          else
                            none
                      else
                        none
                    else
                      none
                  else
                    none
              else
                none
            else
              bif TabD.ok T 1 (AV.row 3 0 3 4 1 false) (AV.ref 1 0) (AV.ref 0 0) [.ac [AV.fn 92 [] [AV.ref 1 0, AV.ref 0 0]], .dc [DV.sl [DV.sl R 4 1 false false, m1, m2, m3] 4 1 false false], .dc [iD q0, iD q1, iD q2, iD q3], .dc [iD q0, iD q2, iD q3, iD 0]] then
                bif inRange q1 4 then
                  getI (nth R (Int.toNat q1 * 1)) fun x23 =>
                  bif inRange q2 4 then
                    getI (nth R (Int.toNat q2 * 1)) fun x24 =>
                    bif decide (x24 = 0) then
                      bif inRange q3 4 then
                        getI (nth R (Int.toNat q3 * 1)) fun x25 =>
                        bif decide (x25 = 0) then
                          some (.d (iD (IntKind.wrap IntKind.i64 (IntKind.wrap IntKind.i64 (0 + IntKind.wrap IntKind.i64 (x15 * TabD.D T 1 [iD q1, iD q2, iD q3])) + IntKind.wrap IntKind.i64 (0 - IntKind.wrap IntKind.i64 (x23 * TabD.D T 1 [iD q0, iD q2, iD q3]))))), [.ac [AV.fn 92 [] [AV.ref 1 0, AV.ref 0 0]], .dc [DV.sl [DV.sl R 4 1 false false, m1, m2, m3] 4 1 false false], .dc [iD q0, iD q1, iD q2, iD q3]])
                        else
                          bif TabD.ok T 1 (AV.row 3 0 3 4 1 false) (AV.ref 1 0) (AV.ref 0 0) [.ac [AV.fn 92 [] [AV.ref 1 0, AV.ref 0 0]], .dc [DV.sl [DV.sl R 4 1 false false, m1, m2, m3] 4 1 false false], .dc [iD q0, iD q1, iD q2, iD q3], .dc [iD q0, iD q1, iD q2, iD 0]] then
                            bif inRange q3 4 then
                              getI (nth R (Int.toNat q3 * 1)) fun x26 =>
                              some (.d (iD (IntKind.wrap IntKind.i64 (IntKind.wrap IntKind.i64 (IntKind.wrap IntKind.i64 (0 + IntKind.wrap IntKind.i64 (x15 * TabD.D T 1 [iD q1, iD q2, iD q3])) + IntKind.wrap IntKind.i64 (0 - IntKind.wrap IntKind.i64 (x23 * TabD.D T 1 [iD q0, iD q2, iD q3]))) + IntKind.wrap IntKind.i64 (0 - IntKind.wrap IntKind.i64 (x26 * TabD.D T 1 [iD q0, iD q1, iD q2]))))), [.ac [AV.fn 92 [] [AV.ref 1 0, AV.ref 0 0]], .dc [DV.sl [DV.sl R 4 1 false false, m1, m2, m3] 4 1 false false], .dc [iD q0, iD q1, iD q2, iD q3]])
                            else
                              none
                          else
                            none
                      else
                        none
                    else
                      bif TabD.ok T 1 (AV.row 3 0 3 4 1 false) (AV.ref 1 0) (AV.ref 0 0) [.ac [AV.fn 92 [] [AV.ref 1 0, AV.ref 0 0]], .dc [DV.sl [DV.sl R 4 1 false false, m1, m2, m3] 4 1 false false], .dc [iD q0, iD q1, iD q2, iD q3], .dc [iD q0, iD q1, iD q3, iD 0]] then
                        bif inRange q2 4 then
                          getI (nth R (Int.toNat q2 * 1)) fun x27 =>
                          bif inRange q3 4 then
                            getI (nth R (Int.toNat q3 * 1)) fun x28 =>
                            bif decide (x28 = 0) then
                              some (.d (iD (IntKind.wrap IntKind.i64 (IntKind.wrap IntKind.i64 (IntKind.wrap IntKind.i64 (0 + IntKind.wrap IntKind.i64 (x15 * TabD.D T 1 [iD q1, iD q2, iD q3])) + IntKind.wrap IntKind.i64 (0 - IntKind.wrap IntKind.i64 (x23 * TabD.D T 1 [iD q0, iD q2, iD q3]))) + IntKind.wrap IntKind.i64 (x27 * TabD.D T 1 [iD q0, iD q1, iD q3])))), [.ac [AV.fn 92 [] [AV.ref 1 0, AV.ref 0 0]], .dc [DV.sl [DV.sl R 4 1 false false, m1, m2, m3] 4 1 false false], .dc [iD q0, iD q1, iD q2, iD q3]])
                            else
                              bif TabD.ok T 1 (AV.row 3 0 3 4 1 false) (AV.ref 1 0) (AV.ref 0 0) [.ac [AV.fn 92 [] [AV.ref 1 0, AV.ref 0 0]], .dc [DV.sl [DV.sl R 4 1 false false, m1, m2, m3] 4 1 false false], .dc [iD q0, iD q1, iD q2, iD q3], .dc [iD q0, iD q1, iD q2, iD 0]] then
                                bif inRange q3 4 then
                                  getI (nth R (Int.toNat q3 * 1)) fun x29 =>
                                  some (.d (iD (IntKind.wrap IntKind.i64 (IntKind.wrap IntKind.i64 (IntKind.wrap IntKind.i64 (IntKind.wrap IntKind.i64 (0 + IntKind.wrap IntKind.i64 (x15 * TabD.D T 1 [iD q1, iD q2, iD q3])) + IntKind.wrap IntKind.i64 (0 - IntKind.wrap IntKind.i64 (x23 * TabD.D T 1 [iD q0, iD q2, iD q3]))) + IntKind.wrap IntKind.i64 (x27 * TabD.D T 1 [iD q0, iD q1, iD q3])) + IntKind.wrap IntKind.i64 (0 - IntKind.wrap IntKind.i64 (x29 * TabD.D T 1 [iD q0, iD q1, iD q2]))))), [.ac [AV.fn 92 [] [AV.ref 1 0, AV.ref 0 0]], .dc [DV.sl [DV.sl R 4 1 false false, m1, m2, m3] 4 1 false false], .dc [iD q0, iD q1, iD q2, iD q3]])
                                else
                                  none
                              else
                                none
                          else
                            none
                        else
                          none
                      else
                        none
                  else
                    none
                else
                  none
              else
                none
          else
            none
        else
          none
      else
        none
  else
    none := by kernel_rfl

theorem u92_1_3 (T : TabD) (R : List DV) (m0 m2 m3 : DV) (all : List DV) (q0 q1 q2 : Int) : bodyE aeC (ev92 T) 30 92 Tryd.f92 [.d (iD 1), .row 3 0 3 4 1 false, .ref 1 0, .ref 0 0] [.ac [.fn 92 [] [.ref 1 0, .ref 0 0]], .dc [.sl [m0, .sl R 4 1 false false, m2, m3] 4 1 false false], .dc all, .dc [iD q0, iD q1, iD q2, iD 0]] (fun v h => some (v, h) : AV → List Blk → Option (AV × List Blk)) =
  bif inRange q0 4 then
    getI (nth R (Int.toNat q0 * 1)) fun x0 =>
    bif decide (x0 = 0) then
      bif inRange q1 4 then
        getI (nth R (Int.toNat q1 * 1)) fun x1 =>
        bif decide (x1 = 0) then
          bif inRange q2 4 then
            getI (nth R (Int.toNat q2 * 1)) fun x2 =>
            bif decide (x2 = 0) then
              some (.d (iD 0), [.ac [AV.fn 92 [] [AV.ref 1 0, AV.ref 0 0]], .dc [DV.sl [m0, DV.sl R 4 1 false false, m2, m3] 4 1 false false], .dc all, .dc [iD q0, iD q1, iD q2, iD 0]])
            else
              bif TabD.ok T 2 (AV.row 4 0 2 3 1 false) (AV.ref 1 0) (AV.ref 0 0) [.ac [AV.fn 92 [] [AV.ref 1 0, AV.ref 0 0]], .dc [DV.sl [m0, DV.sl R 4 1 false false, m2, m3] 4 1 false false], .dc all, .dc [iD q0, iD q1, iD q2, iD 0], .dc [iD q0, iD q1, iD 0]] then
                bif inRange q2 4 then
                  getI (nth R (Int.toNat q2 * 1)) fun x3 =>
                  some (.d (iD (IntKind.wrap IntKind.i64 (0 + IntKind.wrap IntKind.i64 (x3 * TabD.D T 2 [iD q0, iD q1])))), [.ac [AV.fn 92 [] [AV.ref 1 0, AV.ref 0 0]], .dc [DV.sl [m0, DV.sl R 4 1 false false, m2, m3] 4 1 false false], .dc all, .dc [iD q0, iD q1, iD q2, iD 0]])
                else
                  none
              else
                none
          else
            none
        else
          bif TabD.ok T 2 (AV.row 4 0 2 3 1 false) (AV.ref 1 0) (AV.ref 0 0) [.ac [AV.fn 92 [] [AV.ref 1 0, AV.ref 0 0]], .dc [DV.sl [m0, DV.sl R 4 1 false false, m2, m3] 4 1 false false], .dc all, .dc [iD q0, iD q1, iD q2, iD 0], .dc [iD q0, iD q2, iD 0]] then
            bif inRange q1 4 then
              getI (nth R (Int.toNat q1 * 1)) fun x4 =>
              bif inRange q2 4 then
                getI (nth R (Int.toNat q2 * 1)) fun x5 =>
                bif decide (x5 = 0) then
                  some (.d (iD (IntKind.wrap IntKind.i64 (0 + IntKind.wrap IntKind.i64 (0 - IntKind.wrap IntKind.i64 (x4 * TabD.D T 2 [iD q0, iD q2]))))), [.ac [AV.fn 92 [] [AV.ref 1 0, AV.ref 0 0]], .dc [DV.sl [m0, DV.sl R 4 1 false false, m2, m3] 4 1 false false], .dc all, .dc [iD q0, iD q1, iD q2, iD 0]])
                else
                  bif TabD.ok T 2 (AV.row 4 0 2 3 1 false) (AV.ref 1 0) (AV.ref 0 0) [.ac [AV.fn 92 [] [AV.ref 1 0, AV.ref 0 0]], .dc [DV.sl [m0, DV.sl R 4 1 false false, m2, m3] 4 1 false false], .dc all, .dc [iD q0, iD q1, iD q2, iD 0], .dc [iD q0, iD q1, iD 0]] then
                    bif inRange q2 4 then
                      getI (nth R (Int.toNat q2 * 1)) fun x6 =>
                      some (.d (iD (IntKind.wrap IntKind.i64 (IntKind.wrap IntKind.i64 (0 + IntKind.wrap IntKind.i64 (0 - IntKind.wrap IntKind.i64 (x4 * TabD.D T 2 [iD q0, iD q2]))) + IntKind.wrap IntKind.i64 (x6 * TabD.D T 2 [iD q0, iD q1])))), [.ac [AV.fn 92 [] [AV.ref 1 0, AV.ref 0 0]], .dc [DV.sl [m0, DV.sl R 4 1 false false, m2, m3] 4 1 false false], .dc all, .dc [iD q0, iD q1, iD q2, iD 0]])
                    else
                      none
                  else
                    none
              else
                none
            else
              none
          else
            none
      else
        none
    else
      bif TabD.ok T 2 (AV.row 4 0 2 3 1 false) (AV.ref 1 0) (AV.ref 0 0) [.ac [AV.fn 92 [] [AV.ref 1 0, AV.ref 0 0]], .dc [DV.sl [m0, DV.sl R 4 1 false false, m2, m3] 4 1 false false], .dc all, .dc [iD q0, iD q1, iD q2, iD 0], .dc [iD q1, iD q2, iD 0]] then
        bif inRange q0 4 then
          getI (nth R (Int.toNat q0 * 1)) fun x7 =>
          bif inRange q1 4 then
            getI (nth R (Int.toNat q1 * 1)) fun x8 =>
            bif decide (x8 = 0) then
              bif inRange q2 4 then
                getI (nth R (Int.toNat q2 * 1)) fun x9 =>
                bif decide (x9 = 0) then
                  some (.d (iD (IntKind.wrap IntKind.i64 (0 + IntKind.wrap IntKind.i64 (x7 * TabD.D T 2 [iD q1, iD q2])))), [.ac [AV.fn 92 [] [AV.ref 1 0, AV.ref 0 0]], .dc [DV.sl [m0, DV.sl R 4 1 false false, m2, m3] 4 1 false false], .dc all, .dc [iD q0, iD q1, iD q2, iD 0]])
                else
                  bif TabD.ok T 2 (AV.row 4 0 2 3 1 false) (AV.ref 1 0) (AV.ref 0 0) [.ac [AV.fn 92 [] [AV.ref 1 0, AV.ref 0 0]], .dc [DV.sl [m0, DV.sl R 4 1 false false, m2, m3] 4 1 false false], .dc all, .dc [iD q0, iD q1, iD q2, iD 0], .dc [iD q0, iD q1, iD 0]] then
                    bif inRange q2 4 then
                      getI (nth R (Int.toNat q2 * 1)) fun x10 =>
                      some (.d (iD (IntKind.wrap IntKind.i64 (IntKind.wrap IntKind.i64 (0 + IntKind.wrap IntKind.i64 (x7 * TabD.D T 2 [iD q1, iD q2])) + IntKind.wrap IntKind.i64 (x10 * TabD.D T 2 [iD q0, iD q1])))), [.ac [AV.fn 92 [] [AV.ref 1 0, AV.ref 0 0]], .dc [DV.sl [m0, DV.sl R 4 1 false false, m2, m3] 4 1 false false], .dc all, .dc [iD q0, iD q1, iD q2, iD 0]])
                    else
                      none
                  else
                    none
              else
                none
            else
              bif TabD.ok T 2 (AV.row 4 0 2 3 1 false) (AV.ref 1 0) (AV.ref 0 0) [.ac [AV.fn 92 [] [AV.ref 1 0, AV.ref 0 0]], .dc [DV.sl [m0, DV.sl R 4 1 false false, m2, m3] 4 1 false false], .dc all, .dc [iD q0, iD q1, iD q2, iD 0], .dc [iD q0, iD q2, iD 0]] then
                bif inRange q1 4 then
                  getI (nth R (Int.toNat q1 * 1)) fun x11 =>
                  bif inRange q2 4 then
                    getI (nth R (Int.toNat q2 * 1)) fun x12 =>
                    bif decide (x12 = 0) then
                      some (.d (iD (IntKind.wrap IntKind.i64 (IntKind.wrap IntKind.i64 (0 + IntKind.wrap IntKind.i64 (x7 * TabD.D T 2 [iD q1, iD q2])) + IntKind.wrap IntKind.i64 (0 - IntKind.wrap IntKind.i64 (x11 * TabD.D T 2 [iD q0, iD q2]))))), [.ac [AV.fn 92 [] [AV.ref 1 0, AV.ref 0 0]], .dc [DV.sl [m0, DV.sl R 4 1 false false, m2, m3] 4 1 false false], .dc all, .dc [iD q0, iD q1, iD q2, iD 0]])
                    else
                      bif TabD.ok T 2 (AV.row 4 0 2 3 1 false) (AV.ref 1 0) (AV.ref 0 0) [.ac [AV.fn 92 [] [AV.ref 1 0, AV.ref 0 0]], .dc [DV.sl [m0, DV.sl R 4 1 false false, m2, m3] 4 1 false false], .dc all, .dc [iD q0, iD q1, iD q2, iD 0], .dc [iD q0, iD q1, iD 0]] then
                        bif inRange q2 4 then
                          getI (nth R (Int.toNat q2 * 1)) fun x13 =>
                          some (.d (iD (IntKind.wrap IntKind.i64 (IntKind.wrap IntKind.i64 (IntKind.wrap IntKind.i64 (0 + IntKind.wrap IntKind.i64 (x7 * TabD.D T 2 [iD q1, iD q2])) + IntKind.wrap IntKind.i64 (0 - IntKind.wrap IntKind.i64 (x11 * TabD.D T 2 [iD q0, iD q2]))) + IntKind.wrap IntKind.i64 (x13 * TabD.D T 2 [iD q0, iD q1])))), [.ac [AV.fn 92 [] [AV.ref 1 0, AV.ref 0 0]], .dc [DV.sl [m0, DV.sl R 4 1 false false, m2, m3] 4 1 false false], .dc all, .dc [iD q0, iD q1, iD q2, iD 0]])
                        else
                          none
                      else
                        none
                  else
                    none
                else
                  none
              else
                none
          else
            none
        else
          none
      else
        none
  else
    none := by kernel_rfl

theorem u92_2_2 (T : TabD) (R : List DV) (m0 m1 m3 : DV) (all X1 : List DV) (q0 q1 : Int) : bodyE aeC (ev92 T) 30 92 Tryd.f92 [.d (iD 2), .row 4 0 2 3 1 false, .ref 1 0, .ref 0 0] [.ac [.fn 92 [] [.ref 1 0, .ref 0 0]], .dc [.sl [m0, m1, .sl R 4 1 false false, m3] 4 1 false false], .dc all, .dc X1, .dc [iD q0, iD q1, iD 0]] (fun v h => some (v, h) : AV → List Blk → Option (AV × List Blk)) =
  bif inRange q0 4 then
    getI (nth R (Int.toNat q0 * 1)) fun x0 =>
    bif decide (x0 = 0) then
      bif inRange q1 4 then
        getI (nth R (Int.toNat q1 * 1)) fun x1 =>
        bif decide (x1 = 0) then
          some (.d (iD 0), [.ac [AV.fn 92 [] [AV.ref 1 0, AV.ref 0 0]], .dc [DV.sl [m0, m1, DV.sl R 4 1 false false, m3] 4 1 false false], .dc all, .dc X1, .dc [iD q0, iD q1, iD 0]])
        else
          bif TabD.ok T 3 (AV.row 5 0 1 2 1 false) (AV.ref 1 0) (AV.ref 0 0) [.ac [AV.fn 92 [] [AV.ref 1 0, AV.ref 0 0]], .dc [DV.sl [m0, m1, DV.sl R 4 1 false false, m3] 4 1 false false], .dc all, .dc X1, .dc [iD q0, iD q1, iD 0], .dc [iD q0, iD 0]] then
            bif inRange q1 4 then
              getI (nth R (Int.toNat q1 * 1)) fun x2 =>
              some (.d (iD (IntKind.wrap IntKind.i64 (0 + IntKind.wrap IntKind.i64 (0 - IntKind.wrap IntKind.i64 (x2 * TabD.D T 3 [iD q0]))))), [.ac [AV.fn 92 [] [AV.ref 1 0, AV.ref 0 0]], .dc [DV.sl [m0, m1, DV.sl R 4 1 false false, m3] 4 1 false false], .dc all, .dc X1, .dc [iD q0, iD q1, iD 0]])
            else
              none
          else
            none
      else
        none
    else
      bif TabD.ok T 3 (AV.row 5 0 1 2 1 false) (AV.ref 1 0) (AV.ref 0 0) [.ac [AV.fn 92 [] [AV.ref 1 0, AV.ref 0 0]], .dc [DV.sl [m0, m1, DV.sl R 4 1 false false, m3] 4 1 false false], .dc all, .dc X1, .dc [iD q0, iD q1, iD 0], .dc [iD q1, iD 0]] then
        bif inRange q0 4 then
          getI (nth R (Int.toNat q0 * 1)) fun x3 =>
          bif inRange q1 4 then
            getI (nth R (Int.toNat q1 * 1)) fun x4 =>
            bif decide (x4 = 0) then
              some (.d (iD (IntKind.wrap IntKind.i64 (0 + IntKind.wrap IntKind.i64 (x3 * TabD.D T 3 [iD q1])))), [.ac [AV.fn 92 [] [AV.ref 1 0, AV.ref 0 0]], .dc [DV.sl [m0, m1, DV.sl R 4 1 false false, m3] 4 1 false false], .dc all, .dc X1, .dc [iD q0, iD q1, iD 0]])
            else
              bif TabD.ok T 3 (AV.row 5 0 1 2 1 false) (AV.ref 1 0) (AV.ref 0 0) [.ac [AV.fn 92 [] [AV.ref 1 0, AV.ref 0 0]], .dc [DV.sl [m0, m1, DV.sl R 4 1 false false, m3] 4 1 false false], .dc all, .dc X1, .dc [iD q0, iD q1, iD 0], .dc [iD q0, iD 0]] then
                bif inRange q1 4 then
                  getI (nth R (Int.toNat q1 * 1)) fun x5 =>
                  some (.d (iD (IntKind.wrap IntKind.i64 (IntKind.wrap IntKind.i64 (0 + IntKind.wrap IntKind.i64 (x3 * TabD.D T 3 [iD q1])) + IntKind.wrap IntKind.i64 (0 - IntKind.wrap IntKind.i64 (x5 * TabD.D T 3 [iD q0]))))), [.ac [AV.fn 92 [] [AV.ref 1 0, AV.ref 0 0]], .dc [DV.sl [m0, m1, DV.sl R 4 1 false false, m3] 4 1 false false], .dc all, .dc X1, .dc [iD q0, iD q1, iD 0]])
                else
                  none
              else
                none
          else
            none
        else
          none
      else
        none
  else
    none := by kernel_rfl

theorem u92_3_1 (T : TabD) (R : List DV) (m0 m1 m2 : DV) (all X1 X2 : List DV) (q0 : Int) : bodyE aeC (ev92 T) 30 92 Tryd.f92 [.d (iD 3), .row 5 0 1 2 1 false, .ref 1 0, .ref 0 0] [.ac [.fn 92 [] [.ref 1 0, .ref 0 0]], .dc [.sl [m0, m1, m2, .sl R 4 1 false false] 4 1 false false], .dc all, .dc X1, .dc X2, .dc [iD q0, iD 0]] (fun v h => some (v, h) : AV → List Blk → Option (AV × List Blk)) =
  bif inRange q0 4 then
    getI (nth R (Int.toNat q0 * 1)) fun x0 =>
    bif decide (x0 = 0) then
      some (.d (iD 0), [.ac [AV.fn 92 [] [AV.ref 1 0, AV.ref 0 0]], .dc [DV.sl [m0, m1, m2, DV.sl R 4 1 false false] 4 1 false false], .dc all, .dc X1, .dc X2, .dc [iD q0, iD 0]])
    else
      bif TabD.ok T 4 (AV.row 6 0 0 1 1 false) (AV.ref 1 0) (AV.ref 0 0) [.ac [AV.fn 92 [] [AV.ref 1 0, AV.ref 0 0]], .dc [DV.sl [m0, m1, m2, DV.sl R 4 1 false false] 4 1 false false], .dc all, .dc X1, .dc X2, .dc [iD q0, iD 0], .dc [iD 0]] then
        bif inRange q0 4 then
          getI (nth R (Int.toNat q0 * 1)) fun x1 =>
          some (.d (iD (IntKind.wrap IntKind.i64 (0 + IntKind.wrap IntKind.i64 (x1 * TabD.D T 4 [])))), [.ac [AV.fn 92 [] [AV.ref 1 0, AV.ref 0 0]], .dc [DV.sl [m0, m1, m2, DV.sl R 4 1 false false] 4 1 false false], .dc all, .dc X1, .dc X2, .dc [iD q0, iD 0]])
        else
          none
      else
        none
  else
    none := by kernel_rfl

theorem u92_4_0 (T : TabD) (m0 m1 m2 m3 : DV) (all X1 X2 X3 : List DV) : bodyE aeC (ev92 T) 30 92 Tryd.f92 [.d (iD 4), .row 6 0 0 1 1 false, .ref 1 0, .ref 0 0] [.ac [.fn 92 [] [.ref 1 0, .ref 0 0]], .dc [.sl [m0, m1, m2, m3] 4 1 false false], .dc all, .dc X1, .dc X2, .dc X3, .dc [iD 0]] (fun v h => some (v, h) : AV → List Blk → Option (AV × List Blk)) =
  some (.d (iD 1), [.ac [AV.fn 92 [] [AV.ref 1 0, AV.ref 0 0]], .dc [DV.sl [m0, m1, m2, m3] 4 1 false false], .dc all, .dc X1, .dc X2, .dc X3, .dc [iD 0]]) := by kernel_rfl

theorem u92_0_5 (T : TabD) (R : List DV) (m1 m2 m3 m4 : DV) (q0 q1 q2 q3 q4 : Int) : bodyE aeC (ev92 T) 30 92 Tryd.f92 [.d (iD 0), .grow 2 1 false, .ref 1 0, .ref 0 0] [.ac [.fn 92 [] [.ref 1 0, .ref 0 0]], .dc [.sl [.sl R 5 1 false false, m1, m2, m3, m4] 5 1 false false], .dc [iD q0, iD q1, iD q2, iD q3, iD q4]] (fun v h => some (v, h) : AV → List Blk → Option (AV × List Blk)) =
  bif inRange q0 5 then
    getI (nth R (Int.toNat q0 * 1)) fun x0 =>
    bif decide (x0 = 0) then
      bif inRange q1 5 then
        getI (nth R (Int.toNat q1 * 1)) fun x1 =>
        bif decide (x1 = 0) then
          bif inRange q2 5 then
            getI (nth R (Int.toNat q2 * 1)) fun x2 =>
            bif decide (x2 = 0) then
              bif inRange q3 5 then
                getI (nth R (Int.toNat q3 * 1)) fun x3 =>
                bif decide (x3 = 0) then
                  bif inRange q4 5 then
                    getI (nth R (Int.toNat q4 * 1)) fun x4 =>
                    bif decide (x4 = 0) then
                      some (.d (iD 0), [.ac [AV.fn 92 [] [AV.ref 1 0, AV.ref 0 0]], .dc [DV.sl [DV.sl R 5 1 false false, m1, m2, m3, m4] 5 1 false false], .dc [iD q0, iD q1, iD q2, iD q3, iD q4]])
                    else
                      bif TabD.ok T 1 (AV.row 3 0 4 5 1 false) (AV.ref 1 0) (AV.ref 0 0) [.ac [AV.fn 92 [] [AV.ref 1 0, AV.ref 0 0]], .dc [DV.sl [DV.sl R 5 1 false false, m1, m2, m3, m4] 5 1 false false], .dc [iD q0, iD q1, iD q2, iD q3, iD q4], .dc [iD q0, iD q1, iD q2, iD q3, iD 0]] then
                        bif inRange q4 5 then
                          getI (nth R (Int.toNat q4 * 1)) fun x5 =>
                          some (.d (iD (IntKind.wrap IntKind.i64 (0 + IntKind.wrap IntKind.i64 (x5 * TabD.D T 1 [iD q0, iD q1, iD q2, iD q3])))), [.ac [AV.fn 92 [] [AV.ref 1 0, AV.ref 0 0]], .dc [DV.sl [DV.sl R 5 1 false false, m1, m2, m3, m4] 5 1 false false], .dc [iD q0, iD q1, iD q2, iD q3, iD q4]])
                        else
                          none
                      else
                        none
                  else
                    none
                else
                  bif TabD.ok T 1 (AV.row 3 0 4 5 1 false) (AV.ref 1 0) (AV.ref 0 0) [.ac [AV.fn 92 [] [AV.ref 1 0, AV.ref 0 0]], .dc [DV.sl [DV.sl R 5 1 false false, m1, m2, m3, m4] 5 1 false false], .dc [iD q0, iD q1, iD q2, iD q3, iD q4], .dc [iD q0, iD q1, iD q2, iD q4, iD 0]] then
                    bif inRange q3 5 then
                      getI (nth R (Int.toNat q3 * 1)) fun x6 =>
                      bif inRange q4 5 then
                        getI (nth R (Int.toNat q4 * 1)) fun x7 =>
                        bif decide (x7 = 0) then
                          some (.d (iD (IntKind.wrap IntKind.i64 (0 + IntKind.wrap IntKind.i64 (0 - IntKind.wrap IntKind.i64 (x6 * TabD.D T 1 [iD q0, iD q1, iD q2, iD q4]))))), [.ac [AV.fn 92 [] [AV.ref 1 0, AV.ref 0 0]], .dc [DV.sl [DV.sl R 5 1 false false, m1, m2, m3, m4] 5 1 false false], .dc [iD q0, iD q1, iD q2, iD q3, iD q4]])
                        else
                          bif TabD.ok T 1 (AV.row 3 0 4 5 1 false) (AV.ref 1 0) (AV.ref 0 0) [.ac [AV.fn 92 [] [AV.ref 1 0, AV.ref 0 0]], .dc [DV.sl [DV.sl R 5 1 false false, m1, m2, m3, m4] 5 1 false false], .dc [iD q0, iD q1, iD q2, iD q3, iD q4], .dc [iD q0, iD q1, iD q2, iD q3, iD 0]] then
                            bif inRange q4 5 then
                              getI (nth R (Int.toNat q4 * 1)) fun x8 =>
                              some (.d (iD (IntKind.wrap IntKind.i64 (IntKind.wrap IntKind.i64 (0 + IntKind.wrap IntKind.i64 (0 - IntKind.wrap IntKind.i64 (x6 * TabD.D T 1 [iD q0, iD q1, iD q2, iD q4]))) + IntKind.wrap IntKind.i64 (x8 * TabD.D T 1 [iD q0, iD q1, iD q2, iD q3])))), [.ac [AV.fn 92 [] [AV.ref 1 0, AV.ref 0 0]], .dc [DV.sl [DV.sl R 5 1 false false, m1, m2, m3, m4] 5 1 false false], .dc [iD q0, iD q1, iD q2, iD q3, iD q4]])
                            else
                              none
                          else
                            none
                      else
                        none
                    else
                      none
                  else
                    none
              else
                none
            else
              bif TabD.ok T 1 (AV.row 3 0 4 5 1 false) (AV.ref 1 0) (AV.ref 0 0) [.ac [AV.fn 92 [] [AV.ref 1 0, AV.ref 0 0]], .dc [DV.sl [DV.sl R 5 1 false false, m1, m2, m3, m4] 5 1 false false], .dc [iD q0, iD q1, iD q2, iD q3, iD q4], .dc [iD q0, iD q1, iD q3, iD q4, iD 0]] then
                bif inRange q2 5 then
                  getI (nth R (Int.toNat q2 * 1)) fun x9 =>
                  bif inRange q3 5 then
                    getI (nth R (Int.toNat q3 * 1)) fun x10 =>
                    bif decide (x10 = 0) then
                      bif inRange q4 5 then
                        getI (nth R (Int.toNat q4 * 1)) fun x11 =>
                        bif decide (x11 = 0) then
                          some (.d (iD (IntKind.wrap IntKind.i64 (0 + IntKind.wrap IntKind.i64 (x9 * TabD.D T 1 [iD q0, iD q1, iD q3, iD q4])))), [.ac [AV.fn 92 [] [AV.ref 1 0, AV.ref 0 0]], .dc [DV.sl [DV.sl R 5 1 false false, m1, m2, m3, m4] 5 1 false false], .dc [iD q0, iD q1, iD q2, iD q3, iD q4]])
                        else
                          bif TabD.ok T 1 (AV.row 3 0 4 5 1 false) (AV.ref 1 0) (AV.ref 0 0) [.ac [AV.fn 92 [] [AV.ref 1 0, AV.ref 0 0]], .dc [DV.sl [DV.sl R 5 1 false false, m1, m2, m3, m4] 5 1 false false], .dc [iD q0, iD q1, iD q2, iD q3, iD q4], .dc [iD q0, iD q1, iD q2, iD q3, iD 0]] then
                            bif inRange q4 5 then
                              getI (nth R (Int.toNat q4 * 1)) fun x12 =>
                              some (.d (iD (IntKind.wrap IntKind.i64 (IntKind.wrap IntKind.i64 (0 + IntKind.wrap IntKind.i64 (x9 * TabD.D T 1 [iD q0, iD q1, iD q3, iD q4])) + IntKind.wrap IntKind.i64 (x12 * TabD.D T 1 [iD q0, iD q1, iD q2, iD q3])))), [.ac [AV.fn 92 [] [AV.ref 1 0, AV.ref 0 0]], .dc [DV.sl [DV.sl R 5 1 false false, m1, m2, m3, m4] 5 1 false false], .dc [iD q0, iD q1, iD q2, iD q3, iD q4]])
                            else
                              none
                          else
                            none
                      else
                        none
                    else
                      bif TabD.ok T 1 (AV.row 3 0 4 5 1 false) (AV.ref 1 0) (AV.ref 0 0) [.ac [AV.fn 92 [] [AV.ref 1 0, AV.ref 0 0]], .dc [DV.sl [DV.sl R 5 1 false false, m1, m2, m3, m4] 5 1 false false], .dc [iD q0, iD q1, iD q2, iD q3, iD q4], .dc [iD q0, iD q1, iD q2, iD q4, iD 0]] then
                        bif inRange q3 5 then
                          getI (nth R (Int.toNat q3 * 1)) fun x13 =>
                          bif inRange q4 5 then
                            getI (nth R (Int.toNat q4 * 1)) fun x14 =>
                            bif decide (x14 = 0) then
                              some (.d (iD (IntKind.wrap IntKind.i64 (IntKind.wrap IntKind.i64 (0 + IntKind.wrap IntKind.i64 (x9 * TabD.D T 1 [iD q0, iD q1, iD q3, iD q4])) + IntKind.wrap IntKind.i64 (0 - IntKind.wrap IntKind.i64 (x13 * TabD.D T 1 [iD q0, iD q1, iD q2, iD q4]))))), [.ac [AV.fn 92 [] [AV.ref 1 0, AV.ref 0 0]], .dc [DV.sl [DV.sl R 5 1 false false, m1, m2, m3, m4] 5 1 false false], .dc [iD q0, iD q1, iD q2, iD q3, iD q4]])
                            else
                              bif TabD.ok T 1 (AV.row 3 0 4 5 1 false) (AV.ref 1 0) (AV.ref 0 0) [.ac [AV.fn 92 [] [AV.ref 1 0, AV.ref 0 0]], .dc [DV.sl [DV.sl R 5 1 false false, m1, m2, m3, m4] 5 1 false false], .dc [iD q0, iD q1, iD q2, iD q3, iD q4], .dc [iD q0, iD q1, iD q2, iD q3, iD 0]] then
                                bif inRange q4 5 then
                                  getI (nth R (Int.toNat q4 * 1)) fun x15 =>
                                  some (.d (iD (IntKind.wrap IntKind.i64 (IntKind.wrap IntKind.i64 (IntKind.wrap IntKind.i64 (0 + IntKind.wrap IntKind.i64 (x9 * TabD.D T 1 [iD q0, iD q1, iD q3, iD q4])) + IntKind.wrap IntKind.i64 (0 - IntKind.wrap IntKind.i64 (x13 * TabD.D T 1 [iD q0, iD q1, iD q2, iD q4]))) + IntKind.wrap IntKind.i64 (x15 * TabD.D T 1 [iD q0, iD q1, iD q2, iD q3])))), [.ac [AV.fn 92 [] [AV.ref 1 0, AV.ref 0 0]], .dc [DV.sl [DV.sl R 5 1 false false, m1, m2, m3, m4] 5 1 false false], .dc [iD q0, iD q1, iD q2, iD q3, iD q4]])
                                else
                                  none
                              else
                                none
                          else
                            none
                        else
                          none
                      else
                        none
                  else
                    none
                else
                  none
              else
                none
          else
            none
        else
          bif TabD.ok T 1 (AV.row 3 0 4 5 1 false) (AV.ref 1 0) (AV.ref 0 0) [.ac [AV.fn 92 [] [AV.ref 1 0, AV.ref 0 0]], .dc [DV.sl [DV.sl R 5 1 false false, m1, m2, m3, m4] 5 1 false false], .dc [iD q0, iD q1, iD q2, iD q3, iD q4], .dc [iD q0, iD q2, iD q3, iD q4, iD 0]] then
            bif inRange q1 5 then
              getI (nth R (Int.toNat q1 * 1)) fun x16 =>
              bif inRange q2 5 then
                getI (nth R (Int.toNat q2 * 1)) fun x17 =>
                bif decide (x17 = 0) then
                  bif inRange q3 5 then
                    getI (nth R (Int.toNat q3 * 1)) fun x18 =>
                    bif decide (x18 = 0) then
                      bif inRange q4 5 then
                        getI (nth R (Int.toNat q4 * 1)) fun x19 =>
                        bif decide (x19 = 0) then
                          some (.d (iD (IntKind.wrap IntKind.i64 (0 + IntKind.wrap IntKind.i64 (0 - IntKind.wrap IntKind.i64 (x16 * TabD.D T 1 [iD q0, iD q2, iD q3, iD q4]))))), [.ac [AV.fn 92 [] [AV.ref 1 0, AV.ref 0 0]], .dc [DV.sl [DV.sl R 5 1 false false, m1, m2, m3, m4] 5 1 false false], .dc [iD q0, iD q1, iD q2, iD q3, iD q4]])
                        else
                          bif TabD.ok T 1 (AV.row 3 0 4 5 1 false) (AV.ref 1 0) (AV.ref 0 0) [.ac [AV.fn 92 [] [AV.ref 1 0, AV.ref 0 0]], .dc [DV.sl [DV.sl R 5 1 false false, m1, m2, m3, m4] 5 1 false false], .dc [iD q0, iD q1, iD q2, iD q3, iD q4], .dc [iD q0, iD q1, iD q2, iD q3, iD 0]] then
                            bif inRange q4 5 then
                              getI (nth R (Int.toNat q4 * 1)) fun x20 =>
                              some (.d (iD (IntKind.wrap IntKind.i64 (IntKind.wrap IntKind.i64 (0 + IntKind.wrap IntKind.i64 (0 - IntKind.wrap IntKind.i64 (x16 * TabD.D T 1 [iD q0, iD q2, iD q3, iD q4]))) + IntKind.wrap IntKind.i64 (x20 * TabD.D T 1 [iD q0, iD q1, iD q2, iD q3])))), [.ac [AV.fn 92 [] [AV.ref 1 0, AV.ref 0 0]], .dc [DV.sl [DV.sl R 5 1 false false, m1, m2, m3, m4] 5 1 false false], .dc [iD q0, iD q1, iD q2, iD q3, iD q4]])
                            else
                              none
                          else
                            none
                      else
                        none
                    else
                      bif TabD.ok T 1 (AV.row 3 0 4 5 1 false) (AV.ref 1 0) (AV.ref 0 0) [.ac [AV.fn 92 [] [AV.ref 1 0, AV.ref 0 0]], .dc [DV.sl [DV.sl R 5 1 false false, m1, m2, m3, m4] 5 1 false false], .dc [iD q0, iD q1, iD q2, iD q3, iD q4], .dc [iD q0, iD q1, iD q2, iD q4, iD 0]] then
                        bif inRange q3 5 then
                          getI (nth R (Int.toNat q3 * 1)) fun x21 =>
                          bif inRange q4 5 then
                            getI (nth R (Int.toNat q4 * 1)) fun x22 =>
                            bif decide (x22 = 0) then
                              some (.d (iD (IntKind.wrap IntKind.i64 (IntKind.wrap IntKind.i64 (0 + IntKind.wrap IntKind.i64 (0 - IntKind.wrap IntKind.i64 (x16 * TabD.D T 1 [iD q0, iD q2, iD q3, iD q4]))) + IntKind.wrap IntKind.i64 (0 - IntKind.wrap IntKind.i64 (x21 * TabD.D T 1 [iD q0, iD q1, iD q2, iD q4]))))), [.ac [AV.fn 92 [] [AV.ref 1 0, AV.ref 0 0]], .dc [DV.sl [DV.sl R 5 1 false false, m1, m2, m3, m4] 5 1 false false], .dc [iD q0, iD q1, iD q2, iD q3, iD q4]])
                            else
                              bif TabD.ok T 1 (AV.row 3 0 4 5 1 false) (AV.ref 1 0) (AV.ref 0 0) [.ac [AV.fn 92 [] [AV.ref 1 0, AV.ref 0 0]], .dc [DV.sl [DV.sl R 5 1 false false, m1, m2, m3, m4] 5 1 false false], .dc [iD q0, iD q1, iD q2, iD q3, iD q4], .dc [iD q0, iD q1, iD q2, iD q3, iD 0]] then
                                bif inRange q4 5 then
                                  getI (nth R (Int.toNat q4 * 1)) fun x23 =>
                                  some (.d (iD (IntKind.wrap IntKind.i64 (IntKind.wrap IntKind.i64 (IntKind.wrap IntKind.i64 (0 + IntKind.wrap IntKind.i64 (0 - IntKind.wrap IntKind.i64 (x16 * TabD.D T 1 [iD q0, iD q2, iD q3, iD q4]))) + IntKind.wrap IntKind.i64 (0 - IntKind.wrap IntKind.i64 (x21 * TabD.D T 1 [iD q0, iD q1, iD q2, iD q4]))) + IntKind.wrap IntKind.i64 (x23 * TabD.D T 1 [iD q0, iD q1, iD q2, iD q3])))), [.ac [AV.fn 92 [] [AV.ref 1 0, AV.ref 0 0]], .dc [DV.sl [DV.sl R 5 1 false false, m1, m2, m3, m4] 5 1 false false], .dc [iD q0, iD q1, iD q2, iD q3, iD q4]])
                                else
                                  none
                              else
                                none
                          else
                            none
                        else
                          none
                      else
                        none
                  else
                    none
                else
                  bif TabD.ok T 1 (AV.row 3 0 4 5 1 false) (AV.ref 1 0) (AV.ref 0 0) [.ac [AV.fn 92 [] [AV.ref 1 0, AV.ref 0 0]], .dc [DV.sl [DV.sl R 5 1 false false, m1, m2, m3, m4] 5 1 false false], .dc [iD q0, iD q1, iD q2, iD q3, iD q4], .dc [iD q0, iD q1, iD q3, iD q4, iD 0]] then
                    bif inRange q2 5 then
                      getI (nth R (Int.toNat q2 * 1)) fun x24 =>
                      bif inRange q3 5 then
                        getI (nth R (Int.toNat q3 * 1)) fun x25 =>
                        bif decide (x25 = 0) then
                          bif inRange q4 5 then
                            getI (nth R (Int.toNat q4 * 1)) fun x26 =>
                            bif decide (x26 = 0) then
                              some (.d (iD (IntKind.wrap IntKind.i64 (IntKind.wrap IntKind.i64 (0 + IntKind.wrap IntKind.i64 (0 - IntKind.wrap IntKind.i64 (x16 * TabD.D T 1 [iD q0, iD q2, iD q3, iD q4]))) + IntKind.wrap IntKind.i64 (x24 * TabD.D T 1 [iD q0, iD q1, iD q3, iD q4])))), [.ac [AV.fn 92 [] [AV.ref 1 0, AV.ref 0 0]], .dc [DV.sl [DV.sl R 5 1 false false, m1, m2, m3, m4] 5 1 false false], .dc [iD q0, iD q1, iD q2, iD q3, iD q4]])
                            else
                              bif TabD.ok T 1 (AV.row 3 0 4 5 1 false) (AV.ref 1 0) (AV.ref 0 0) [.ac [AV.fn 92 [] [AV.ref 1 0, AV.ref 0 0]], .dc [DV.sl [DV.sl R 5 1 false false, m1, m2, m3, m4] 5 1 false false], .dc [iD q0, iD q1, iD q2, iD q3, iD q4], .dc [iD q0, iD q1, iD q2, iD q3, iD 0]] then
                                bif inRange q4 5 then
                                  getI (nth R (Int.toNat q4 * 1)) fun x27 =>
                                  some (.d (iD (IntKind.wrap IntKind.i64 (IntKind.wrap IntKind.i64 (IntKind.wrap IntKind.i64 (0 + IntKind.wrap IntKind.i64 (0 - IntKind.wrap IntKind.i64 (x16 * TabD.D T 1 [iD q0, iD q2, iD q3, iD q4]))) + IntKind.wrap IntKind.i64 (x24 * TabD.D T 1 [iD q0, iD q1, iD q3, iD q4])) + IntKind.wrap IntKind.i64 (x27 * TabD.D T 1 [iD q0, iD q1, iD q2, iD q3])))), [.ac [AV.fn 92 [] [AV.ref 1 0, AV.ref 0 0]], .dc [DV.sl [DV.sl R 5 1 false false, m1, m2, m3, m4] 5 1 false false], .dc [iD q0, iD q1, iD q2, iD q3, iD q4]])
                                else
                                  none
                              else
                                none
                          else
                            none
                        else
                          bif TabD.ok T 1 (AV.row 3 0 4 5 1 false) (AV.ref 1 0) (AV.ref 0 0) [.ac [AV.fn 92 [] [AV.ref 1 0, AV.ref 0 0]], .dc [DV.sl [DV.sl R 5 1 false false, m1, m2, m3, m4] 5 1 false false], .dc [iD q0, iD q1, iD q2, iD q3, iD q4], .dc [iD q0, iD q1, iD q2, iD q4, iD 0]] then
                            bif inRange q3 5 then
                              getI (nth R (Int.toNat q3 * 1)) fun x28 =>
                              bif inRange q4 5 then
                                getI (nth R (Int.toNat q4 * 1)) fun x29 =>
                                bif decide (x29 = 0) then
                                  some (.d (iD (IntKind.wrap IntKind.i64 (IntKind.wrap IntKind.i64 (IntKind.wrap IntKind.i64 (0 + IntKind.wrap IntKind.i64 (0 - IntKind.wrap IntKind.i64 (x16 * TabD.D T 1 [iD q0, iD q2, iD q3, iD q4]))) + IntKind.wrap IntKind.i64 (x24 * TabD.D T 1 [iD q0, iD q1, iD q3, iD q4])) + IntKind.wrap IntKind.i64 (0 - IntKind.wrap IntKind.i64 (x28 * TabD.D T 1 [iD q0, iD q1, iD q2, iD q4]))))), [.ac [AV.fn 92 [] [AV.ref 1 0, AV.ref 0 0]], .dc [DV.sl [DV.sl R 5 1 false false, m1, m2, m3, m4] 5 1 false false], .dc [iD q0, iD q1, iD q2, iD q3, iD q4]])
                                else
                                  bif TabD.ok T 1 (AV.row 3 0 4 5 1 false) (AV.ref 1 0) (AV.ref 0 0) [.ac [AV.fn 92 [] [AV.ref 1 0, AV.ref 0 0]], .dc [DV.sl [DV.sl R 5 1 false false, m1, m2, m3, m4] 5 1 false false], .dc [iD q0, iD q1, iD q2, iD q3, iD q4], .dc [iD q0, iD q1, iD q2, iD q3, iD 0]] then
                                    bif inRange q4 5 then
                                      getI (nth R (Int.toNat q4 * 1)) fun x30 =>
                                      some (.d (iD (IntKind.wrap IntKind.i64 (IntKind.wrap IntKind.i64 (IntKind.wrap IntKind.i64 (IntKind.wrap IntKind.i64 (0 + IntKind.wrap IntKind.i64 (0 - IntKind.wrap IntKind.i64 (x16 * TabD.D T 1 [iD q0, iD q2, iD q3, iD q4]))) + IntKind.wrap IntKind.i64 (x24 * TabD.D T 1 [iD q0, iD q1, iD q3, iD q4])) + IntKind.wrap IntKind.i64 (0 - IntKind.wrap IntKind.i64 (x28 * TabD.D T 1 [iD q0, iD q1, iD q2, iD q4]))) + IntKind.wrap IntKind.i64 (x30 * TabD.D T 1 [iD q0, iD q1, iD q2, iD q3])))), [.ac [AV.fn 92 [] [AV.ref 1 0, AV.ref 0 0]], .dc [DV.sl [DV.sl R 5 1 false false, m1, m2, m3, m4] 5 1 false false], .dc [iD q0, iD q1, iD q2, iD q3, iD q4]])
                                    else
                                      none
                                  else
                                    none
                              else
                                none
                            else
                              none
                          else
                            none
                      else
                        none
                    else
                      none
                  else
                    none
              else
                none
            else
              none
          else
            none
      else
        none
    else
      bif TabD.ok T 1 (AV.row 3 0 4 5 1 false) (AV.ref 1 0) (AV.ref 0 0) [.ac [AV.fn 92 [] [AV.ref 1 0, AV.ref 0 0]], .dc [DV.sl [DV.sl R 5 1 false false, m1, m2, m3, m4] 5 1 false false], .dc [iD q0, iD q1, iD q2, iD q3, iD q4], .dc [iD q1, iD q2, iD q3, iD q4, iD 0]] then
        bif inRange q0 5 then
          getI (nth R (Int.toNat q0 * 1)) fun x31 =>
          bif inRange q1 5 then
            getI (nth R (Int.toNat q1 * 1)) fun x32 =>
            bif decide (x32 = 0) then
              bif inRange q2 5 then
                getI (nth R (Int.toNat q2 * 1)) fun x33 =>
                bif decide (x33 = 0) then
                  bif inRange q3 5 then
                    getI (nth R (Int.toNat q3 * 1)) fun x34 =>
                    bif decide (x34 = 0) then
                      bif inRange q4 5 then
                        getI (nth R (Int.toNat q4 * 1)) fun x35 =>
                        bif decide (x35 = 0) then
                          some (.d (iD (IntKind.wrap IntKind.i64 (0 + IntKind.wrap IntKind.i64 (x31 * TabD.D T 1 [iD q1, iD q2, iD q3, iD q4])))), [.ac [AV.fn 92 [] [AV.ref 1 0, AV.ref 0 0]], .dc [DV.sl [DV.sl R 5 1 false false, m1, m2, m3, m4] 5 1 false false], .dc [iD q0, iD q1, iD q2, iD q3, iD q4]])
                        else
                          bif TabD.ok T 1 (AV.row 3 0 4 5 1 false) (AV.ref 1 0) (AV.ref 0 0) [.ac [AV.fn 92 [] [AV.ref 1 0, AV.ref 0 0]], .dc [DV.sl [DV.sl R 5 1 false false, m1, m2, m3, m4] 5 1 false false], .dc [iD q0, iD q1, iD q2, iD q3, iD q4], .dc [iD q0, iD q1, iD q2, iD q3, iD 0]] then
                            bif inRange q4 5 then
                              getI (nth R (Int.toNat q4 * 1)) fun x36 =>
                              some (.d (iD (IntKind.wrap IntKind.i64 (IntKind.wrap IntKind.i64 (0 + IntKind.wrap IntKind.i64 (x31 * TabD.D T 1 [iD q1, iD q2, iD q3, iD q4])) + IntKind.wrap IntKind.i64 (x36 * TabD.D T 1 [iD q0, iD q1, iD q2, iD q3])))), [.ac [AV.fn 92 [] [AV.ref 1 0, AV.ref 0 0]], .dc [DV.sl [DV.sl R 5 1 false false, m1, m2, m3, m4] 5 1 false false], .dc [iD q0, iD q1, iD q2, iD q3, iD q4]])
                            else
                              none
                          else
                            none
                      else
                        none
                    else
                      bif TabD.ok T 1 (AV.row 3 0 4 5 1 false) (AV.ref 1 0) (AV.ref 0 0) [.ac [AV.fn 92 [] [AV.ref 1 0, AV.ref 0 0]], .dc [DV.sl [DV.sl R 5 1 false false, m1, m2, m3, m4] 5 1 false false], .dc [iD q0, iD q1, iD q2, iD q3, iD q4], .dc [iD q0, iD q1, iD q2, iD q4, iD 0]] then
                        bif inRange q3 5 then
                          getI (nth R (Int.toNat q3 * 1)) fun x37 =>
                          bif inRange q4 5 then
                            getI (nth R (Int.toNat q4 * 1)) fun x38 =>
                            bif decide (x38 = 0) then
                              some (.d (iD (IntKind.wrap IntKind.i64 (IntKind.wrap IntKind.i64 (0 + IntKind.wrap IntKind.i64 (x31 * TabD.D T 1 [iD q1, iD q2, iD q3, iD q4])) + IntKind.wrap IntKind.i64 (0 - IntKind.wrap IntKind.i64 (x37 * TabD.D T 1 [iD q0, iD q1, iD q2, iD q4]))))), [.ac [AV.fn 92 [] [AV.ref 1 0, AV.ref 0 0]], .dc [DV.sl [DV.sl R 5 1 false false, m1, m2, m3, m4] 5 1 false false], .dc [iD q0, iD q1, iD q2, iD q3, iD q4]])
                            else
                              bif TabD.ok T 1 (AV.row 3 0 4 5 1 false) (AV.ref 1 0) (AV.ref 0 0) [.ac [AV.fn 92 [] [AV.ref 1 0, AV.ref 0 0]], .dc [DV.sl [DV.sl R 5 1 false false, m1, m2, m3, m4] 5 1 false false], .dc [iD q0, iD q1, iD q2, iD q3, iD q4], .dc [iD q0, iD q1, iD q2, iD q3, iD 0]] then
                                bif inRange q4 5 then
                                  getI (nth R (Int.toNat q4 * 1)) fun x39 =>
                                  some (.d (iD (IntKind.wrap IntKind.i64 (IntKind.wrap IntKind.i64 (IntKind.wrap IntKind.i64 (0 + IntKind.wrap IntKind.i64 (x31 * TabD.D T 1 [iD q1, iD q2, iD q3, iD q4])) + IntKind.wrap IntKind.i64 (0 - IntKind.wrap IntKind.i64 (x37 * TabD.D T 1 [iD q0, iD q1, iD q2, iD q4]))) + IntKind.wrap IntKind.i64 (x39 * TabD.D T 1 [iD q0, iD q1, iD q2, iD q3])))), [.ac [AV.fn 92 [] [AV.ref 1 0, AV.ref 0 0]], .dc [DV.sl [DV.sl R 5 1 false false, m1, m2, m3, m4] 5 1 false false], .dc [iD q0, iD q1, iD q2, iD q3, iD q4]])
                                else
                                  none
                              else
                                none
                          else
                            none
                        else
                          none
                      else
                        none
                  else
                    none
                else
                  bif TabD.ok T 1 (AV.row 3 0 4 5 1 false) (AV.ref 1 0) (AV.ref 0 0) [.ac [AV.fn 92 [] [AV.ref 1 0, AV.ref 0 0]], .dc [DV.sl [DV.sl R 5 1 false false, m1, m2, m3, m4] 5 1 false false], .dc [iD q0, iD q1, iD q2, iD q3, iD q4], .dc [iD q0, iD q1, iD q3, iD q4, iD 0]] then
                    bif inRange q2 5 then
                      getI (nth R (Int.toNat q2 * 1)) fun x40 =>
                      bif inRange q3 5 then
                        getI (nth R (Int.toNat q3 * 1)) fun x41 =>
                        bif decide (x41 = 0) then
                          bif inRange q4 5 then
                            getI (nth R (Int.toNat q4 * 1)) fun x42 =>
                            bif decide (x42 = 0) then
                              some (.d (iD (IntKind.wrap IntKind.i64 (IntKind.wrap IntKind.i64 (0 + IntKind.wrap IntKind.i64 (x31 * TabD.D T 1 [iD q1, iD q2, iD q3, iD q4])) + IntKind.wrap IntKind.i64 (x40 * TabD.D T 1 [iD q0, iD q1, iD q3, iD q4])))), [.ac [AV.fn 92 [] [AV.ref 1 0, AV.ref 0 0]], .dc [DV.sl [DV.sl R 5 1 false false, m1, m2, m3, m4] 5 1 false false], .dc [iD q0, iD q1, iD q2, iD q3, iD q4]])
                            else
                              bif TabD.ok T 1 (AV.row 3 0 4 5 1 false) (AV.ref 1 0) (AV.ref 0 0) [.ac [AV.fn 92 [] [AV.ref 1 0, AV.ref 0 0]], .dc [DV.sl [DV.sl R 5 1 false false, m1, m2, m3, m4] 5 1 false false], .dc [iD q0, iD q1, iD q2, iD q3, iD q4], .dc [iD q0, iD q1, iD q2, iD q3, iD 0]] then
                                bif inRange q4 5 then
                                  getI (nth R (Int.toNat q4 * 1)) fun x43 =>
                                  some (.d (iD (IntKind.wrap IntKind.i64 (IntKind.wrap IntKind.i64 (IntKind.wrap IntKind.i64 (0 + IntKind.wrap IntKind.i64 (x31 * TabD.D T 1 [iD q1, iD q2, iD q3, iD q4])) + IntKind.wrap IntKind.i64 (x40 * TabD.D T 1 [iD q0, iD q1, iD q3, iD q4])) + IntKind.wrap IntKind.i64 (x43 * TabD.D T 1 [iD q0, iD q1, iD q2, iD q3])))), [.ac [AV.fn 92 [] [AV.ref 1 0, AV.ref 0 0]], .dc [DV.sl [DV.sl R 5 1 false false, m1, m2, m3, m4] 5 1 false false], .dc [iD q0, iD q1, iD q2, iD q3, iD q4]])
                                else
                                  none
                              else
                                none
                          else
                            none
                        else
                          bif TabD.ok T 1 (AV.row 3 0 4 5 1 false) (AV.ref 1 0) (AV.ref 0 0) [.ac [AV.fn 92 [] [AV.ref 1 0, AV.ref 0 0]], .dc [DV.sl [DV.sl R 5 1 false false, m1, m2, m3, m4] 5 1 false false], .dc [iD q0, iD q1, iD q2, iD q3, iD q4], .dc [iD q0, iD q1, iD q2, iD q4, iD 0]] then
                            bif inRange q3 5 then
                              getI (nth R (Int.toNat q3 * 1)) fun x44 =>
                              bif inRange q4 5 then
                                getI (nth R (Int.toNat q4 * 1)) fun x45 =>
                                bif decide (x45 = 0) then
                                  some (.d (iD (IntKind.wrap IntKind.i64 (IntKind.wrap IntKind.i64 (IntKind.wrap IntKind.i64 (0 + IntKind.wrap IntKind.i64 (x31 * TabD.D T 1 [iD q1, iD q2, iD q3, iD q4])) + IntKind.wrap IntKind.i64 (x40 * TabD.D T 1 [iD q0, iD q1, iD q3, iD q4])) + IntKind.wrap IntKind.i64 (0 - IntKind.wrap IntKind.i64 (x44 * TabD.D T 1 [iD q0, iD q1, iD q2, iD q4]))))), [.ac [AV.fn 92 [] [AV.ref 1 0, AV.ref 0 0]], .dc [DV.sl [DV.sl R 5 1 false false, m1, m2, m3, m4] 5 1 false false], .dc [iD q0, iD q1, iD q2, iD q3, iD q4]])
                                else
                                  bif TabD.ok T 1 (AV.row 3 0 4 5 1 false) (AV.ref 1 0) (AV.ref 0 0) [.ac [AV.fn 92 [] [AV.ref 1 0, AV.ref 0 0]], .dc [DV.sl [DV.sl R 5 1 false false, m1, m2, m3, m4] 5 1 false false], .dc [iD q0, iD q1, iD q2, iD q3, iD q4], .dc [iD q0, iD q1, iD q2, iD q3, iD 0]] then
                                    bif inRange q4 5 then
                                      getI (nth R (Int.toNat q4 * 1)) fun x46 =>
                                      some (.d (iD (IntKind.wrap IntKind.i64 (IntKind.wrap IntKind.i64 (IntKind.wrap IntKind.i64 (IntKind.wrap IntKind.i64 (0 + IntKind.wrap IntKind.i64 (x31 * TabD.D T 1 [iD q1, iD q2, iD q3, iD q4])) + IntKind.wrap IntKind.i64 (x40 * TabD.D T 1 [iD q0, iD q1, iD q3, iD q4])) + IntKind.wrap IntKind.i64 (0 - IntKind.wrap IntKind.i64 (x44 * TabD.D T 1 [iD q0, iD q1, iD q2, iD q4]))) + IntKind.wrap IntKind.i64 (x46 * TabD.D T 1 [iD q0, iD q1, iD q2, iD q3])))), [.ac [AV.fn 92 [] [AV.ref 1 0, AV.ref 0 0]], .dc [DV.sl [DV.sl R 5 1 false false, m1, m2, m3, m4] 5 1 false false], .dc [iD q0, iD q1, iD q2, iD q3, iD q4]])
                                    else
                                      none
                                  else
                                    none
                              else
                                none
                            else
                              none
                          else
                            none
                      else
                        none
                    else
                      none
                  else
                    none
              else
                none
            else
              bif TabD.ok T 1 (AV.row 3 0 4 5 1 false) (AV.ref 1 0) (AV.ref 0 0) [.ac [AV.fn 92 [] [AV.ref 1 0, AV.ref 0 0]], .dc [DV.sl [DV.sl R 5 1 false false, m1, m2, m3, m4] 5 1 false false], .dc [iD q0, iD q1, iD q2, iD q3, iD q4], .dc [iD q0, iD q2, iD q3, iD q4, iD 0]] then
                bif inRange q1 5 then
                  getI (nth R (Int.toNat q1 * 1)) fun x47 =>
                  bif inRange q2 5 then
                    getI (nth R (Int.toNat q2 * 1)) fun x48 =>
                    bif decide (x48 = 0) then
                      bif inRange q3 5 then
                        getI (nth R (Int.toNat q3 * 1)) fun x49 =>
                        bif decide (x49 = 0) then
                          bif inRange q4 5 then
                            getI (nth R (Int.toNat q4 * 1)) fun x50 =>
                            bif decide (x50 = 0) then
                              some (.d (iD (IntKind.wrap IntKind.i64 (IntKind.wrap IntKind.i64 (0 + IntKind.wrap IntKind.i64 (x31 * TabD.D T 1 [iD q1, iD q2, iD q3, iD q4])) + IntKind.wrap IntKind.i64 (0 - IntKind.wrap IntKind.i64 (x47 * TabD.D T 1 [iD q0, iD q2, iD q3, iD q4]))))), [.ac [AV.fn 92 [] [AV.ref 1 0, AV.ref 0 0]], .dc [DV.sl [DV.sl R 5 1 false false, m1, m2, m3, m4] 5 1 false false], .dc [iD q0, iD q1, iD q2, iD q3, iD q4]])
                            else
                              bif TabD.ok T 1 (AV.row 3 0 4 5 1 false) (AV.ref 1 0) (AV.ref 0 0) [.ac [AV.fn 92 [] [AV.ref 1 0, AV.ref 0 0]], .dc [DV.sl [DV.sl R 5 1 false false, m1, m2, m3, m4] 5 1 false false], .dc [iD q0, iD q1, iD q2, iD q3, iD q4], .dc [iD q0, iD q1, iD q2, iD q3, iD 0]] then
                                bif inRange q4 5 then
                                  getI (nth R (Int.toNat q4 * 1)) fun x51 =>
                                  some (.d (iD (IntKind.wrap IntKind.i64 (IntKind.wrap IntKind.i64 (IntKind.wrap IntKind.i64 (0 + IntKind.wrap IntKind.i64 (x31 * TabD.D T 1 [iD q1, iD q2, iD q3, iD q4])) + IntKind.wrap IntKind.i64 (0 - IntKind.wrap IntKind.i64 (x47 * TabD.D T 1 [iD q0, iD q2, iD q3, iD q4]))) + IntKind.wrap IntKind.i64 (x51 * TabD.D T 1 [iD q0, iD q1, iD q2, iD q3])))), [.ac [AV.fn 92 [] [AV.ref 1 0, AV.ref 0 0]], .dc [DV.sl [DV.sl R 5 1 false false, m1, m2, m3, m4] 5 1 false false], .dc [iD q0, iD q1, iD q2, iD q3, iD q4]])
                                else
                                  none
                              else
                                none
                          else
                            none
                        else
                          bif TabD.ok T 1 (AV.row 3 0 4 5 1 false) (AV.ref 1 0) (AV.ref 0 0) [.ac [AV.fn 92 [] [AV.ref 1 0, AV.ref 0 0]], .dc [DV.sl [DV.sl R 5 1 false false, m1, m2, m3, m4] 5 1 false false], .dc [iD q0, iD q1, iD q2, iD q3, iD q4], .dc [iD q0, iD q1, iD q2, iD q4, iD 0]] then
                            bif inRange q3 5 then
                              getI (nth R (Int.toNat q3 * 1)) fun x52 =>
                              bif inRange q4 5 then
                                getI (nth R (Int.toNat q4 * 1)) fun x53 =>
                                bif decide (x53 = 0) then
                                  some (.d (iD (IntKind.wrap IntKind.i64 (IntKind.wrap IntKind.i64 (IntKind.wrap IntKind.i64 (0 + IntKind.wrap IntKind.i64 (x31 * TabD.D T 1 [iD q1, iD q2, iD q3, iD q4])) + IntKind.wrap IntKind.i64 (0 - IntKind.wrap IntKind.i64 (x47 * TabD.D T 1 [iD q0, iD q2, iD q3, iD q4]))) + IntKind.wrap IntKind.i64 (0 - IntKind.wrap IntKind.i64 (x52 * TabD.D T 1 [iD q0, iD q1, iD q2, iD q4]))))), [.ac [AV.fn 92 [] [AV.ref 1 0, AV.ref 0 0]], .dc [DV.sl [DV.sl R 5 1 false false, m1, m2, m3, m4] 5 1 false false], .dc [iD q0, iD q1, iD q2, iD q3, iD q4]])
                                else
                                  bif TabD.ok T 1 (AV.row 3 0 4 5 1 false) (AV.ref 1 0) (AV.ref 0 0) [.ac [AV.fn 92 [] [AV.ref 1 0, AV.ref 0 0]], .dc [DV.sl [DV.sl R 5 1 false false, m1, m2, m3, m4] 5 1 false false], .dc [iD q0, iD q1, iD q2, iD q3, iD q4], .dc [iD q0, iD q1, iD q2, iD q3, iD 0]] then
                                    bif inRange q4 5 then
                                      getI (nth R (Int.toNat q4 * 1)) fun x54 =>
                                      some (.d (iD (IntKind.wrap IntKind.i64 (IntKind.wrap IntKind.i64 (IntKind.wrap IntKind.i64 (IntKind.wrap IntKind.i64 (0 + IntKind.wrap IntKind.i64 (x31 * TabD.D T 1 [iD q1, iD q2, iD q3, iD q4])) + IntKind.wrap IntKind.i64 (0 - IntKind.wrap IntKind.i64 (x47 * TabD.D T 1 [iD q0, iD q2, iD q3, iD q4]))) + IntKind.wrap IntKind.i64 (0 - IntKind.wrap IntKind.i64 (x52 * TabD.D T 1 [iD q0, iD q1, iD q2, iD q4]))) + IntKind.wrap IntKind.i64 (x54 * TabD.D T 1 [iD q0, iD q1, iD q2, iD q3])))), [.ac [AV.fn 92 [] [AV.ref 1 0, AV.ref 0 0]], .dc [DV.sl [DV.sl R 5 1 false false, m1, m2, m3, m4] 5 1 false false], .dc [iD q0, iD q1, iD q2, iD q3, iD q4]])
                                    else
                                      none
                                  else
                                    none
                              else
                                none
                            else
                              none
                          else
                            none
                      else
                        none
                    else
                      bif TabD.ok T 1 (AV.row 3 0 4 5 1 false) (AV.ref 1 0) (AV.ref 0 0) [.ac [AV.fn 92 [] [AV.ref 1 0, AV.ref 0 0]], .dc [DV.sl [DV.sl R 5 1 false false, m1, m2, m3, m4] 5 1 false false], .dc [iD q0, iD q1, iD q2, iD q3, iD q4], .dc [iD q0, iD q1, iD q3, iD q4, iD 0]] then
                        bif inRange q2 5 then
                          getI (nth R (Int.toNat q2 * 1)) fun x55 =>
                          bif inRange q3 5 then
                            getI (nth R (Int.toNat q3 * 1)) fun x56 =>
                            bif decide (x56 = 0) then
                              bif inRange q4 5 then
                                getI (nth R (Int.toNat q4 * 1)) fun x57 =>
                                bif decide (x57 = 0) then
                                  some (.d (iD (IntKind.wrap IntKind.i64 (IntKind.wrap IntKind.i64 (IntKind.wrap IntKind.i64 (0 + IntKind.wrap IntKind.i64 (x31 * TabD.D T 1 [iD q1, iD q2, iD q3, iD q4])) + IntKind.wrap IntKind.i64 (0 - IntKind.wrap IntKind.i64 (x47 * TabD.D T 1 [iD q0, iD q2, iD q3, iD q4]))) + IntKind.wrap IntKind.i64 (x55 * TabD.D T 1 [iD q0, iD q1, iD q3, iD q4])))), [.ac [AV.fn 92 [] [AV.ref 1 0, AV.ref 0 0]], .dc [DV.sl [DV.sl R 5 1 false false, m1, m2, m3, m4] 5 1 false false], .dc [iD q0, iD q1, iD q2, iD q3, iD q4]])
                                else
                                  bif TabD.ok T 1 (AV.row 3 0 4 5 1 false) (AV.ref 1 0) (AV.ref 0 0) [.ac [AV.fn 92 [] [AV.ref 1 0, AV.ref 0 0]], .dc [DV.sl [DV.sl R 5 1 false false, m1, m2, m3, m4] 5 1 false false], .dc [iD q0, iD q1, iD q2, iD q3, iD q4], .dc [iD q0, iD q1, iD q2, iD q3, iD 0]] then
                                    bif inRange q4 5 then
                                      getI (nth R (Int.toNat q4 * 1)) fun x58 =>
                                      some (.d (iD (IntKind.wrap IntKind.i64 (IntKind.wrap IntKind.i64 (IntKind.wrap IntKind.i64 (IntKind.wrap IntKind.i64 (0 + IntKind.wrap IntKind.i64 (x31 * TabD.D T 1 [iD q1, iD q2, iD q3, iD q4])) + IntKind.wrap IntKind.i64 (0 - IntKind.wrap IntKind.i64 (x47 * TabD.D T 1 [iD q0, iD q2, iD q3, iD q4]))) + IntKind.wrap IntKind.i64 (x55 * TabD.D T 1 [iD q0, iD q1, iD q3, iD q4])) + IntKind.wrap IntKind.i64 (x58 * TabD.D T 1 [iD q0, iD q1, iD q2, iD q3])))), [.ac [AV.fn 92 [] [AV.ref 1 0, AV.ref 0 0]], .dc [DV.sl [DV.sl R 5 1 false false, m1, m2, m3, m4] 5 1 false false], .dc [iD q0, iD q1, iD q2, iD q3, iD q4]])
                                    else
                                      none
                                  else
                                    none
                              else
                                none
                            else
                              bif TabD.ok T 1 (AV.row 3 0 4 5 1 false) (AV.ref 1 0) (AV.ref 0 0) [.ac [AV.fn 92 [] [AV.ref 1 0, AV.ref 0 0]], .dc [DV.sl [DV.sl R 5 1 false false, m1, m2, m3, m4] 5 1 false false], .dc [iD q0, iD q1, iD q2, iD q3, iD q4], .dc [iD q0, iD q1, iD q2, iD q4, iD 0]] then
                                bif inRange q3 5 then
                                  getI (nth R (Int.toNat q3 * 1)) fun x59 =>
                                  bif inRange q4 5 then
                                    getI (nth R (Int.toNat q4 * 1)) fun x60 =>
                                    bif decide (x60 = 0) then
                                      some (.d (iD (IntKind.wrap IntKind.i64 (IntKind.wrap IntKind.i64 (IntKind.wrap IntKind.i64 (IntKind.wrap IntKind.i64 (0 + IntKind.wrap IntKind.i64 (x31 * TabD.D T 1 [iD q1, iD q2, iD q3, iD q4])) + IntKind.wrap IntKind.i64 (0 - IntKind.wrap IntKind.i64 (x47 * TabD.D T 1 [iD q0, iD q2, iD q3, iD q4]))) + IntKind.wrap IntKind.i64 (x55 * TabD.D T 1 [iD q0, iD q1, iD q3, iD q4])) + IntKind.wrap IntKind.i64 (0 - IntKind.wrap IntKind.i64 (x59 * TabD.D T 1 [iD q0, iD q1, iD q2, iD q4]))))), [.ac [AV.fn 92 [] [AV.ref 1 0, AV.ref 0 0]], .dc [DV.sl [DV.sl R 5 1 false false, m1, m2, m3, m4] 5 1 false false], .dc [iD q0, iD q1, iD q2, iD q3, iD q4]])
                                    else
                                      bif TabD.ok T 1 (AV.row 3 0 4 5 1 false) (AV.ref 1 0) (AV.ref 0 0) [.ac [AV.fn 92 [] [AV.ref 1 0, AV.ref 0 0]], .dc [DV.sl [DV.sl R 5 1 false false, m1, m2, m3, m4] 5 1 false false], .dc [iD q0, iD q1, iD q2, iD q3, iD q4], .dc [iD q0, iD q1, iD q2, iD q3, iD 0]] then
                                        bif inRange q4 5 then
                                          getI (nth R (Int.toNat q4 * 1)) fun x61 =>
                                          some (.d (iD (IntKind.wrap IntKind.i64 (IntKind.wrap IntKind.i64 (IntKind.wrap IntKind.i64 (IntKind.wrap IntKind.i64 (IntKind.wrap IntKind.i64 (0 + IntKind.wrap IntKind.i64 (x31 * TabD.D T 1 [iD q1, iD q2, iD q3, iD q4])) + IntKind.wrap IntKind.i64 (0 - IntKind.wrap IntKind.i64 (x47 * TabD.D T 1 [iD q0, iD q2, iD q3, iD q4]))) + IntKind.wrap IntKind.i64 (x55 * TabD.D T 1 [iD q0, iD q1, iD q3, iD q4])) + IntKind.wrap IntKind.i64 (0 - IntKind.wrap IntKind.i64 (x59 * TabD.D T 1 [iD q0, iD q1, iD q2, iD q4]))) + IntKind.wrap IntKind.i64 (x61 * TabD.D T 1 [iD q0, iD q1, iD q2, iD q3])))), [.ac [AV.fn 92 [] [AV.ref 1 0, AV.ref 0 0]], .dc [DV.sl [DV.sl R 5 1 false false, m1, m2, m3, m4] 5 1 false false], .dc [iD q0, iD q1, iD q2, iD q3, iD q4]])
                                        else
                                          none
                                      else
                                        none
                                  else
                                    none
                                else
                                  none
                              else
                                none
                          else
                            none
                        else
                          none
                      else
                        none
                  else
                    none
                else
                  none
              else
                none
          else
            none
        else
          none
      else
        none
  else
    none := by kernel_rfl

theorem u92_1_4 (T : TabD) (R : List DV) (m0 m2 m3 m4 : DV) (all : List DV) (q0 q1 q2 q3 : Int) : bodyE aeC (ev92 T) 30 92 Tryd.f92 [.d (iD 1), .row 3 0 4 5 1 false, .ref 1 0, .ref 0 0] [.ac [.fn 92 [] [.ref 1 0, .ref 0 0]], .dc [.sl [m0, .sl R 5 1 false false, m2, m3, m4] 5 1 false false], .dc all, .dc [iD q0, iD q1, iD q2, iD q3, iD 0]] (fun v h => some (v, h) : AV → List Blk → Option (AV × List Blk)) =
  bif inRange q0 5 then
    getI (nth R (Int.toNat q0 * 1)) fun x0 =>
    bif decide (x0 = 0) then
      bif inRange q1 5 then
        getI (nth R (Int.toNat q1 * 1)) fun x1 =>
        bif decide (x1 = 0) then
          bif inRange q2 5 then
            getI (nth R (Int.toNat q2 * 1)) fun x2 =>
            bif decide (x2 = 0) then
              bif inRange q3 5 then
                getI (nth R (Int.toNat q3 * 1)) fun x3 =>
                bif decide (x3 = 0) then
                  some (.d (iD 0), [.ac [AV.fn 92 [] [AV.ref 1 0, AV.ref 0 0]], .dc [DV.sl [m0, DV.sl R 5 1 false false, m2, m3, m4] 5 1 false false], .dc all, .dc [iD q0, iD q1, iD q2, iD q3, iD 0]])
                else
                  bif TabD.ok T 2 (AV.row 4 0 3 4 1 false) (AV.ref 1 0) (AV.ref 0 0) [.ac [AV.fn 92 [] [AV.ref 1 0, AV.ref 0 0]], .dc [DV.sl [m0, DV.sl R 5 1 false false, m2, m3, m4] 5 1 false false], .dc all, .dc [iD q0, iD q1, iD q2, iD q3, iD 0], .dc [iD q0, iD q1, iD q2, iD 0]] then
                    bif inRange q3 5 then
                      getI (nth R (Int.toNat q3 * 1)) fun x4 =>
                      some (.d (iD (IntKind.wrap IntKind.i64 (0 + IntKind.wrap IntKind.i64 (0 - IntKind.wrap IntKind.i64 (x4 * TabD.D T 2 [iD q0, iD q1, iD q2]))))), [.ac [AV.fn 92 [] [AV.ref 1 0, AV.ref 0 0]], .dc [DV.sl [m0, DV.sl R 5 1 false false, m2, m3, m4] 5 1 false false], .dc all, .dc [iD q0, iD q1, iD q2, iD q3, iD 0]])
                    else
                      none
                  else
                    none
              else
                none
            else
              bif TabD.ok T 2 (AV.row 4 0 3 4 1 false) (AV.ref 1 0) (AV.ref 0 0) [.ac [AV.fn 92 [] [AV.ref 1 0, AV.ref 0 0]], .dc [DV.sl [m0, DV.sl R 5 1 false false, m2, m3, m4] 5 1 false false], .dc all, .dc [iD q0, iD q1, iD q2, iD q3, iD 0], .dc [iD q0, iD q1, iD q3, iD 0]] then
                bif inRange q2 5 then
                  getI (nth R (Int.toNat q2 * 1)) fun x5 =>
                  bif inRange q3 5 then
                    getI (nth R (Int.toNat q3 * 1)) fun x6 =>
                    bif decide (x6 = 0) then
                      some (.d (iD (IntKind.wrap IntKind.i64 (0 + IntKind.wrap IntKind.i64 (x5 * TabD.D T 2 [iD q0, iD q1, iD q3])))), [.ac [AV.fn 92 [] [AV.ref 1 0, AV.ref 0 0]], .dc [DV.sl [m0, DV.sl R 5 1 false false, m2, m3, m4] 5 1 false false], .dc all, .dc [iD q0, iD q1, iD q2, iD q3, iD 0]])
                    else
                      bif TabD.ok T 2 (AV.row 4 0 3 4 1 false) (AV.ref 1 0) (AV.ref 0 0) [.ac [AV.fn 92 [] [AV.ref 1 0, AV.ref 0 0]], .dc [DV.sl [m0, DV.sl R 5 1 false false, m2, m3, m4] 5 1 false false], .dc all, .dc [iD q0, iD q1, iD q2, iD q3, iD 0], .dc [iD q0, iD q1, iD q2, iD 0]] then
                        bif inRange q3 5 then
                          getI (nth R (Int.toNat q3 * 1)) fun x7 =>
                          some (.d (iD (IntKind.wrap IntKind.i64 (IntKind.wrap IntKind.i64 (0 + IntKind.wrap IntKind.i64 (x5 * TabD.D T 2 [iD q0, iD q1, iD q3])) + IntKind.wrap IntKind.i64 (0 - IntKind.wrap IntKind.i64 (x7 * TabD.D T 2 [iD q0, iD q1, iD q2]))))), [.ac [AV.fn 92 [] [AV.ref 1 0, AV.ref 0 0]], .dc [DV.sl [m0, DV.sl R 5 1 false false, m2, m3, m4] 5 1 false false], .dc all, .dc [iD q0, iD q1, iD q2, iD q3, iD 0]])
                        else
                          none
                      else
                        none
                  else
                    none
                else
                  none
              else
                none
          else
            none
        else
          bif TabD.ok T 2 (AV.row 4 0 3 4 1 false) (AV.ref 1 0) (AV.ref 0 0) [.ac [AV.fn 92 [] [AV.ref 1 0, AV.ref 0 0]], .dc [DV.sl [m0, DV.sl R 5 1 false false, m2, m3, m4] 5 1 false false], .dc all, .dc [iD q0, iD q1, iD q2, iD q3, iD 0], .dc [iD q0, iD q2, iD q3, iD 0]] then
            bif inRange q1 5 then
              getI (nth R (Int.toNat q1 * 1)) fun x8 =>
              bif inRange q2 5 then
                getI (nth R (Int.toNat q2 * 1)) fun x9 =>
                bif decide (x9 = 0) then
                  bif inRange q3 5 then
                    getI (nth R (Int.toNat q3 * 1)) fun x10 =>
                    bif decide (x10 = 0) then
                      some (.d (iD (IntKind.wrap IntKind.i64 (0 + IntKind.wrap IntKind.i64 (0 - IntKind.wrap IntKind.i64 (x8 * TabD.D T 2 [iD q0, iD q2, iD q3]))))), [.ac [AV.fn 92 [] [AV.ref 1 0, AV.ref 0 0]], .dc [DV.sl [m0, DV.sl R 5 1 false false, m2, m3, m4] 5 1 false false], .dc all, .dc [iD q0, iD q1, iD q2, iD q3, iD 0]])
                    else
                      bif TabD.ok T 2 (AV.row 4 0 3 4 1 false) (AV.ref 1 0) (AV.ref 0 0) [.ac [AV.fn 92 [] [AV.ref 1 0, AV.ref 0 0]], .dc [DV.sl [m0, DV.sl R 5 1 false false, m2, m3, m4] 5 1 false false], .dc all, .dc [iD q0, iD q1, iD q2, iD q3, iD 0], .dc [iD q0, iD q1, iD q2, iD 0]] then
                        bif inRange q3 5 then
                          getI (nth R (Int.toNat q3 * 1)) fun x11 =>
                          some (.d (iD (IntKind.wrap IntKind.i64 (IntKind.wrap IntKind.i64 (0 + IntKind.wrap IntKind.i64 (0 - IntKind.wrap IntKind.i64 (x8 * TabD.D T 2 [iD q0, iD q2, iD q3]))) + IntKind.wrap IntKind.i64 (0 - IntKind.wrap IntKind.i64 (x11 * TabD.D T 2 [iD q0, iD q1, iD q2]))))), [.ac [AV.fn 92 [] [AV.ref 1 0, AV.ref 0 0]], .dc [DV.sl [m0, DV.sl R 5 1 false false, m2, m3, m4] 5 1 false false], .dc all, .dc [iD q0, iD q1, iD q2, iD q3, iD 0]])
                        else
                          none
                      else
                        none
                  else
                    none
                else
                  bif TabD.ok T 2 (AV.row 4 0 3 4 1 false) (AV.ref 1 0) (AV.ref 0 0) [.ac [AV.fn 92 [] [AV.ref 1 0, AV.ref 0 0]], .dc [DV.sl [m0, DV.sl R 5 1 false false, m2, m3, m4] 5 1 false false], .dc all, .dc [iD q0, iD q1, iD q2, iD q3, iD 0], .dc [iD q0, iD q1, iD q3, iD 0]] then
                    bif inRange q2 5 then
                      getI (nth R (Int.toNat q2 * 1)) fun x12 =>
                      bif inRange q3 5 then
                        getI (nth R (Int.toNat q3 * 1)) fun x13 =>
                        bif decide (x13 = 0) then
                          some (.d (iD (IntKind.wrap IntKind.i64 (IntKind.wrap IntKind.i64 (0 + IntKind.wrap IntKind.i64 (0 - IntKind.wrap IntKind.i64 (x8 * TabD.D T 2 [iD q0, iD q2, iD q3]))) + IntKind.wrap IntKind.i64 (x12 * TabD.D T 2 [iD q0, iD q1, iD q3])))), [.ac [AV.fn 92 [] [AV.ref 1 0, AV.ref 0 0]], .dc [DV.sl [m0, DV.sl R 5 1 false false, m2, m3, m4] 5 1 false false], .dc all, .dc [iD q0, iD q1, iD q2, iD q3, iD 0]])
                        else
                          bif TabD.ok T 2 (AV.row 4 0 3 4 1 false) (AV.ref 1 0) (AV.ref 0 0) [.ac [AV.fn 92 [] [AV.ref 1 0, AV.ref 0 0]], .dc [DV.sl [m0, DV.sl R 5 1 false false, m2, m3, m4] 5 1 false false], .dc all, .dc [iD q0, iD q1, iD q2, iD q3, iD 0], .dc [iD q0, iD q1, iD q2, iD 0]] then
                            bif inRange q3 5 then
                              getI (nth R (Int.toNat q3 * 1)) fun x14 =>
                              some (.d (iD (IntKind.wrap IntKind.i64 (IntKind.wrap IntKind.i64 (IntKind.wrap IntKind.i64 (0 + IntKind.wrap IntKind.i64 (0 - IntKind.wrap IntKind.i64 (x8 * TabD.D T 2 [iD q0, iD q2, iD q3]))) + IntKind.wrap IntKind.i64 (x12 * TabD.D T 2 [iD q0, iD q1, iD q3])) + IntKind.wrap IntKind.i64 (0 - IntKind.wrap IntKind.i64 (x14 * TabD.D T 2 [iD q0, iD q1, iD q2]))))), [.ac [AV.fn 92 [] [AV.ref 1 0, AV.ref 0 0]], .dc [DV.sl [m0, DV.sl R 5 1 false false, m2, m3, m4] 5 1 false false], .dc all, .dc [iD q0, iD q1, iD q2, iD q3, iD 0]])
                            else
                              none
                          else
                            none
                      else
                        none
                    else
                      none
                  else
                    none
              else
                none
            else
              none
          else
            none
      else
        none
    else
      bif TabD.ok T 2 (AV.row 4 0 3 4 1 false) (AV.ref 1 0) (AV.ref 0 0) [.ac [AV.fn 92 [] [AV.ref 1 0, AV.ref 0 0]], .dc [DV.sl [m0, DV.sl R 5 1 false false, m2, m3, m4] 5 1 false false], .dc all, .dc [iD q0, iD q1, iD q2, iD q3, iD 0], .dc [iD q1, iD q2, iD q3, iD 0]] then
        bif inRange q0 5 then
          getI (nth R (Int.toNat q0 * 1)) fun x15 =>
          bif inRange q1 5 then
            getI (nth R (Int.toNat q1 * 1)) fun x16 =>
            bif decide (x16 = 0) then
              bif inRange q2 5 then
                getI (nth R (Int.toNat q2 * 1)) fun x17 =>
                bif decide (x17 = 0) then
                  bif inRange q3 5 then
                    getI (nth R (Int.toNat q3 * 1)) fun x18 =>
                    bif decide (x18 = 0) then
                      some (.d (iD (IntKind.wrap IntKind.i64 (0 + IntKind.wrap IntKind.i64 (x15 * TabD.D T 2 [iD q1, iD q2, iD q3])))), [.ac [AV.fn 92 [] [AV.ref 1 0, AV.ref 0 0]], .dc [DV.sl [m0, DV.sl R 5 1 false false, m2, m3, m4] 5 1 false false], .dc all, .dc [iD q0, iD q1, iD q2, iD q3, iD 0]])
                    else
                      bif TabD.ok T 2 (AV.row 4 0 3 4 1 false) (AV.ref 1 0) (AV.ref 0 0) [.ac [AV.fn 92 [] [AV.ref 1 0, AV.ref 0 0]], .dc [DV.sl [m0, DV.sl R 5 1 false false, m2, m3, m4] 5 1 false false], .dc all, .dc [iD q0, iD q1, iD q2, iD q3, iD 0], .dc [iD q0, iD q1, iD q2, iD 0]] then
                        bif inRange q3 5 then
                          getI (nth R (Int.toNat q3 * 1)) fun x19 =>
                          some (.d (iD (IntKind.wrap IntKind.i64 (IntKind.wrap IntKind.i64 (0 + IntKind.wrap IntKind.i64 (x15 * TabD.D T 2 [iD q1, iD q2, iD q3])) + IntKind.wrap IntKind.i64 (0 - IntKind.wrap IntKind.i64 (x19 * TabD.D T 2 [iD q0, iD q1, iD q2]))))), [.ac [AV.fn 92 [] [AV.ref 1 0, AV.ref 0 0]], .dc [DV.sl [m0, DV.sl R 5 1 false false, m2, m3, m4] 5 1 false false], .dc all, .dc [iD q0, iD q1, iD q2, iD q3, iD 0]])
                        else
                          none
                      else
                        none
                  else
                    none
                else
                  bif TabD.ok T 2 (AV.row 4 0 3 4 1 false) (AV.ref 1 0) (AV.ref 0 0) [.ac [AV.fn 92 [] [AV.ref 1 0, AV.ref 0 0]], .dc [DV.sl [m0, DV.sl R 5 1 false false, m2, m3, m4] 5 1 false false], .dc all, .dc [iD q0, iD q1, iD q2, iD q3, iD 0], .dc [iD q0, iD q1, iD q3, iD 0]] then
                    bif inRange q2 5 then
                      getI (nth R (Int.toNat q2 * 1)) fun x20 =>
                      bif inRange q3 5 then
                        getI (nth R (Int.toNat q3 * 1)) fun x21 =>
                        bif decide (x21 = 0) then
                          some (.d (iD (IntKind.wrap IntKind.i64 (IntKind.wrap IntKind.i64 (0 + IntKind.wrap IntKind.i64 (x15 * TabD.D T 2 [iD q1, iD q2, iD q3])) + IntKind.wrap IntKind.i64 (x20 * TabD.D T 2 [iD q0, iD q1, iD q3])))), [.ac [AV.fn 92 [] [AV.ref 1 0, AV.ref 0 0]], .dc [DV.sl [m0, DV.sl R 5 1 false false, m2, m3, m4] 5 1 false false], .dc all, .dc [iD q0, iD q1, iD q2, iD q3, iD 0]])
                        else
                          bif TabD.ok T 2 (AV.row 4 0 3 4 1 false) (AV.ref 1 0) (AV.ref 0 0) [.ac [AV.fn 92 [] [AV.ref 1 0, AV.ref 0 0]], .dc [DV.sl [m0, DV.sl R 5 1 false false, m2, m3, m4] 5 1 false false], .dc all, .dc [iD q0, iD q1, iD q2, iD q3, iD 0], .dc [iD q0, iD q1, iD q2, iD 0]] then
                            bif inRange q3 5 then
                              getI (nth R (Int.toNat q3 * 1)) fun x22 =>
                              some (.d (iD (IntKind.wrap IntKind.i64 (IntKind.wrap IntKind.i64 (IntKind.wrap IntKind.i64 (0 + IntKind.wrap IntKind.i64 (x15 * TabD.D T 2 [iD q1, iD q2, iD q3])) + IntKind.wrap IntKind.i64 (x20 * TabD.D T 2 [iD q0, iD q1, iD q3])) + IntKind.wrap IntKind.i64 (0 - IntKind.wrap IntKind.i64 (x22 * TabD.D T 2 [iD q0, iD q1, iD q2]))))), [.ac [AV.fn 92 [] [AV.ref 1 0, AV.ref 0 0]], .dc [DV.sl [m0, DV.sl R 5 1 false false, m2, m3, m4] 5 1 false false], .dc all, .dc [iD q0, iD q1, iD q2, iD q3, iD 0]])
                            else
                              none
                          else
                            none
                      else
                        none
                    else
                      none
                  else
                    none
              else
                none
            else
              bif TabD.ok T 2 (AV.row 4 0 3 4 1 false) (AV.ref 1 0) (AV.ref 0 0) [.ac [AV.fn 92 [] [AV.ref 1 0, AV.ref 0 0]], .dc [DV.sl [m0, DV.sl R 5 1 false false, m2, m3, m4] 5 1 false false], .dc all, .dc [iD q0, iD q1, iD q2, iD q3, iD 0], .dc [iD q0, iD q2, iD q3, iD 0]] then
                bif inRange q1 5 then
                  getI (nth R (Int.toNat q1 * 1)) fun x23 =>
                  bif inRange q2 5 then
                    getI (nth R (Int.toNat q2 * 1)) fun x24 =>
                    bif decide (x24 = 0) then
                      bif inRange q3 5 then
                        getI (nth R (Int.toNat q3 * 1)) fun x25 =>
                        bif decide (x25 = 0) then
                          some (.d (iD (IntKind.wrap IntKind.i64 (IntKind.wrap IntKind.i64 (0 + IntKind.wrap IntKind.i64 (x15 * TabD.D T 2 [iD q1, iD q2, iD q3])) + IntKind.wrap IntKind.i64 (0 - IntKind.wrap IntKind.i64 (x23 * TabD.D T 2 [iD q0, iD q2, iD q3]))))), [.ac [AV.fn 92 [] [AV.ref 1 0, AV.ref 0 0]], .dc [DV.sl [m0, DV.sl R 5 1 false false, m2, m3, m4] 5 1 false false], .dc all, .dc [iD q0, iD q1, iD q2, iD q3, iD 0]])
                        else
                          bif TabD.ok T 2 (AV.row 4 0 3 4 1 false) (AV.ref 1 0) (AV.ref 0 0) [.ac [AV.fn 92 [] [AV.ref 1 0, AV.ref 0 0]], .dc [DV.sl [m0, DV.sl R 5 1 false false, m2, m3, m4] 5 1 false false], .dc all, .dc [iD q0, iD q1, iD q2, iD q3, iD 0], .dc [iD q0, iD q1, iD q2, iD 0]] then
                            bif inRange q3 5 then
                              getI (nth R (Int.toNat q3 * 1)) fun x26 =>
                              some (.d (iD (IntKind.wrap IntKind.i64 (IntKind.wrap IntKind.i64 (IntKind.wrap IntKind.i64 (0 + IntKind.wrap IntKind.i64 (x15 * TabD.D T 2 [iD q1, iD q2, iD q3])) + IntKind.wrap IntKind.i64 (0 - IntKind.wrap IntKind.i64 (x23 * TabD.D T 2 [iD q0, iD q2, iD q3]))) + IntKind.wrap IntKind.i64 (0 - IntKind.wrap IntKind.i64 (x26 * TabD.D T 2 [iD q0, iD q1, iD q2]))))), [.ac [AV.fn 92 [] [AV.ref 1 0, AV.ref 0 0]], .dc [DV.sl [m0, DV.sl R 5 1 false false, m2, m3, m4] 5 1 false false], .dc all, .dc [iD q0, iD q1, iD q2, iD q3, iD 0]])
                            else
                              none
                          else
                            none
                      else
                        none
                    else
                      bif TabD.ok T 2 (AV.row 4 0 3 4 1 false) (AV.ref 1 0) (AV.ref 0 0) [.ac [AV.fn 92 [] [AV.ref 1 0, AV.ref 0 0]], .dc [DV.sl [m0, DV.sl R 5 1 false false, m2, m3, m4] 5 1 false false], .dc all, .dc [iD q0, iD q1, iD q2, iD q3, iD 0], .dc [iD q0, iD q1, iD q3, iD 0]] then
                        bif inRange q2 5 then
                          getI (nth R (Int.toNat q2 * 1)) fun x27 =>
                          bif inRange q3 5 then
                            getI (nth R (Int.toNat q3 * 1)) fun x28 =>
                            bif decide (x28 = 0) then
                              some (.d (iD (IntKind.wrap IntKind.i64 (IntKind.wrap IntKind.i64 (IntKind.wrap IntKind.i64 (0 + IntKind.wrap IntKind.i64 (x15 * TabD.D T 2 [iD q1, iD q2, iD q3])) + IntKind.wrap IntKind.i64 (0 - IntKind.wrap IntKind.i64 (x23 * TabD.D T 2 [iD q0, iD q2, iD q3]))) + IntKind.wrap IntKind.i64 (x27 * TabD.D T 2 [iD q0, iD q1, iD q3])))), [.ac [AV.fn 92 [] [AV.ref 1 0, AV.ref 0 0]], .dc [DV.sl [m0, DV.sl R 5 1 false false, m2, m3, m4] 5 1 false false], .dc all, .dc [iD q0, iD q1, iD q2, iD q3, iD 0]])
                            else
                              bif TabD.ok T 2 (AV.row 4 0 3 4 1 false) (AV.ref 1 0) (AV.ref 0 0) [.ac [AV.fn 92 [] [AV.ref 1 0, AV.ref 0 0]], .dc [DV.sl [m0, DV.sl R 5 1 false false, m2, m3, m4] 5 1 false false], .dc all, .dc [iD q0, iD q1, iD q2, iD q3, iD 0], .dc [iD q0, iD q1, iD q2, iD 0]] then
                                bif inRange q3 5 then
                                  getI (nth R (Int.toNat q3 * 1)) fun x29 =>
                                  some (.d (iD (IntKind.wrap IntKind.i64 (IntKind.wrap IntKind.i64 (IntKind.wrap IntKind.i64 (IntKind.wrap IntKind.i64 (0 + IntKind.wrap IntKind.i64 (x15 * TabD.D T 2 [iD q1, iD q2, iD q3])) + IntKind.wrap IntKind.i64 (0 - IntKind.wrap IntKind.i64 (x23 * TabD.D T 2 [iD q0, iD q2, iD q3]))) + IntKind.wrap IntKind.i64 (x27 * TabD.D T 2 [iD q0, iD q1, iD q3])) + IntKind.wrap IntKind.i64 (0 - IntKind.wrap IntKind.i64 (x29 * TabD.D T 2 [iD q0, iD q1, iD q2]))))), [.ac [AV.fn 92 [] [AV.ref 1 0, AV.ref 0 0]], .dc [DV.sl [m0, DV.sl R 5 1 false false, m2, m3, m4] 5 1 false false], .dc all, .dc [iD q0, iD q1, iD q2, iD q3, iD 0]])
                                else
                                  none
                              else
                                none
                          else
                            none
                        else
                          none
                      else
                        none
                  else
                    none
                else
                  none
              else
                none
          else
            none
        else
          none
      else
        none
  else
    none := by kernel_rfl

theorem u92_2_3 (T : TabD) (R : List DV) (m0 m1 m3 m4 : DV) (all X1 : List DV) (q0 q1 q2 : Int) : bodyE aeC (ev92 T) 30 92 Tryd.f92 [.d (iD 2), .row 4 0 3 4 1 false, .ref 1 0, .ref 0 0] [.ac [.fn 92 [] [.ref 1 0, .ref 0 0]], .dc [.sl [m0, m1, .sl R 5 1 false false, m3, m4] 5 1 false false], .dc all, .dc X1, .dc [iD q0, iD q1, iD q2, iD 0]] (fun v h => some (v, h) : AV → List Blk → Option (AV × List Blk)) =
  bif inRange q0 5 then
    getI (nth R (Int.toNat q0 * 1)) fun x0 =>
    bif decide (x0 = 0) then
      bif inRange q1 5 then
        getI (nth R (Int.toNat q1 * 1)) fun x1 =>
        bif decide (x1 = 0) then
          bif inRange q2 5 then
            getI (nth R (Int.toNat q2 * 1)) fun x2 =>
            bif decide (x2 = 0) then
              some (.d (iD 0), [.ac [AV.fn 92 [] [AV.ref 1 0, AV.ref 0 0]], .dc [DV.sl [m0, m1, DV.sl R 5 1 false false, m3, m4] 5 1 false false], .dc all, .dc X1, .dc [iD q0, iD q1, iD q2, iD 0]])
            else
              bif TabD.ok T 3 (AV.row 5 0 2 3 1 false) (AV.ref 1 0) (AV.ref 0 0) [.ac [AV.fn 92 [] [AV.ref 1 0, AV.ref 0 0]], .dc [DV.sl [m0, m1, DV.sl R 5 1 false false, m3, m4] 5 1 false false], .dc all, .dc X1, .dc [iD q0, iD q1, iD q2, iD 0], .dc [iD q0, iD q1, iD 0]] then
                bif inRange q2 5 then
                  getI (nth R (Int.toNat q2 * 1)) fun x3 =>
                  some (.d (iD (IntKind.wrap IntKind.i64 (0 + IntKind.wrap IntKind.i64 (x3 * TabD.D T 3 [iD q0, iD q1])))), [.ac [AV.fn 92 [] [AV.ref 1 0, AV.ref 0 0]], .dc [DV.sl [m0, m1, DV.sl R 5 1 false false, m3, m4] 5 1 false false], .dc all, .dc X1, .dc [iD q0, iD q1, iD q2, iD 0]])
                else
                  none
              else
                none
          else
            none
        else
          bif TabD.ok T 3 (AV.row 5 0 2 3 1 false) (AV.ref 1 0) (AV.ref 0 0) [.ac [AV.fn 92 [] [AV.ref 1 0, AV.ref 0 0]], .dc [DV.sl [m0, m1, DV.sl R 5 1 false false, m3, m4] 5 1 false false], .dc all, .dc X1, .dc [iD q0, iD q1, iD q2, iD 0], .dc [iD q0, iD q2, iD 0]] then
            bif inRange q1 5 then
              getI (nth R (Int.toNat q1 * 1)) fun x4 =>
              bif inRange q2 5 then
                getI (nth R (Int.toNat q2 * 1)) fun x5 =>
                bif decide (x5 = 0) then
                  some (.d (iD (IntKind.wrap IntKind.i64 (0 + IntKind.wrap IntKind.i64 (0 - IntKind.wrap IntKind.i64 (x4 * TabD.D T 3 [iD q0, iD q2]))))), [.ac [AV.fn 92 [] [AV.ref 1 0, AV.ref 0 0]], .dc [DV.sl [m0, m1, DV.sl R 5 1 false false, m3, m4] 5 1 false false], .dc all, .dc X1, .dc [iD q0, iD q1, iD q2, iD 0]])
                else
                  bif TabD.ok T 3 (AV.row 5 0 2 3 1 false) (AV.ref 1 0) (AV.ref 0 0) [.ac [AV.fn 92 [] [AV.ref 1 0, AV.ref 0 0]], .dc [DV.sl [m0, m1, DV.sl R 5 1 false false, m3, m4] 5 1 false false], .dc all, .dc X1, .dc [iD q0, iD q1, iD q2, iD 0], .dc [iD q0, iD q1, iD 0]] then
                    bif inRange q2 5 then
                      getI (nth R (Int.toNat q2 * 1)) fun x6 =>
                      some (.d (iD (IntKind.wrap IntKind.i64 (IntKind.wrap IntKind.i64 (0 + IntKind.wrap IntKind.i64 (0 - IntKind.wrap IntKind.i64 (x4 * TabD.D T 3 [iD q0, iD q2]))) + IntKind.wrap IntKind.i64 (x6 * TabD.D T 3 [iD q0, iD q1])))), [.ac [AV.fn 92 [] [AV.ref 1 0, AV.ref 0 0]], .dc [DV.sl [m0, m1, DV.sl R 5 1 false false, m3, m4] 5 1 false false], .dc all, .dc X1, .dc [iD q0, iD q1, iD q2, iD 0]])
                    else
                      none
                  else
                    none
              else
                none
            else
              none
          else
            none
      else
        none
    else
      bif TabD.ok T 3 (AV.row 5 0 2 3 1 false) (AV.ref 1 0) (AV.ref 0 0) [.ac [AV.fn 92 [] [AV.ref 1 0, AV.ref 0 0]], .dc [DV.sl [m0, m1, DV.sl R 5 1 false false, m3, m4] 5 1 false false], .dc all, .dc X1, .dc [iD q0, iD q1, iD q2, iD 0], .dc [iD q1, iD q2, iD 0]] then
        bif inRange q0 5 then
          getI (nth R (Int.toNat q0 * 1)) fun x7 =>
          bif inRange q1 5 then
            getI (nth R (Int.toNat q1 * 1)) fun x8 =>
            bif decide (x8 = 0) then
              bif inRange q2 5 then
                getI (nth R (Int.toNat q2 * 1)) fun x9 =>
                bif decide (x9 = 0) then
                  some (.d (iD (IntKind.wrap IntKind.i64 (0 + IntKind.wrap IntKind.i64 (x7 * TabD.D T 3 [iD q1, iD q2])))), [.ac [AV.fn 92 [] [AV.ref 1 0, AV.ref 0 0]], .dc [DV.sl [m0, m1, DV.sl R 5 1 false false, m3, m4] 5 1 false false], .dc all, .dc X1, .dc [iD q0, iD q1, iD q2, iD 0]])
                else
                  bif TabD.ok T 3 (AV.row 5 0 2 3 1 false) (AV.ref 1 0) (AV.ref 0 0) [.ac [AV.fn 92 [] [AV.ref 1 0, AV.ref 0 0]], .dc [DV.sl [m0, m1, DV.sl R 5 1 false false, m3, m4] 5 1 false false], .dc all, .dc X1, .dc [iD q0, iD q1, iD q2, iD 0], .dc [iD q0, iD q1, iD 0]] then
                    bif inRange q2 5 then
                      getI (nth R (Int.toNat q2 * 1)) fun x10 =>
                      some (.d (iD (IntKind.wrap IntKind.i64 (IntKind.wrap IntKind.i64 (0 + IntKind.wrap IntKind.i64 (x7 * TabD.D T 3 [iD q1, iD q2])) + IntKind.wrap IntKind.i64 (x10 * TabD.D T 3 [iD q0, iD q1])))), [.ac [AV.fn 92 [] [AV.ref 1 0, AV.ref 0 0]], .dc [DV.sl [m0, m1, DV.sl R 5 1 false false, m3, m4] 5 1 false false], .dc all, .dc X1, .dc [iD q0, iD q1, iD q2, iD 0]])
                    else
                      none
                  else
                    none
              else
                none
            else
              bif TabD.ok T 3 (AV.row 5 0 2 3 1 false) (AV.ref 1 0) (AV.ref 0 0) [.ac [AV.fn 92 [] [AV.ref 1 0, AV.ref 0 0]], .dc [DV.sl [m0, m1, DV.sl R 5 1 false false, m3, m4] 5 1 false false], .dc all, .dc X1, .dc [iD q0, iD q1, iD q2, iD 0], .dc [iD q0, iD q2, iD 0]] then
                bif inRange q1 5 then
                  getI (nth R (Int.toNat q1 * 1)) fun x11 =>
                  bif inRange q2 5 then
                    getI (nth R (Int.toNat q2 * 1)) fun x12 =>
                    bif decide (x12 = 0) then
                      some (.d (iD (IntKind.wrap IntKind.i64 (IntKind.wrap IntKind.i64 (0 + IntKind.wrap IntKind.i64 (x7 * TabD.D T 3 [iD q1, iD q2])) + IntKind.wrap IntKind.i64 (0 - IntKind.wrap IntKind.i64 (x11 * TabD.D T 3 [iD q0, iD q2]))))), [.ac [AV.fn 92 [] [AV.ref 1 0, AV.ref 0 0]], .dc [DV.sl [m0, m1, DV.sl R 5 1 false false, m3, m4] 5 1 false false], .dc all, .dc X1, .dc [iD q0, iD q1, iD q2, iD 0]])
                    else
                      bif TabD.ok T 3 (AV.row 5 0 2 3 1 false) (AV.ref 1 0) (AV.ref 0 0) [.ac [AV.fn 92 [] [AV.ref 1 0, AV.ref 0 0]], .dc [DV.sl [m0, m1, DV.sl R 5 1 false false, m3, m4] 5 1 false false], .dc all, .dc X1, .dc [iD q0, iD q1, iD q2, iD 0], .dc [iD q0, iD q1, iD 0]] then
                        bif inRange q2 5 then
                          getI (nth R (Int.toNat q2 * 1)) fun x13 =>
                          some (.d (iD (IntKind.wrap IntKind.i64 (IntKind.wrap IntKind.i64 (IntKind.wrap IntKind.i64 (0 + IntKind.wrap IntKind.i64 (x7 * TabD.D T 3 [iD q1, iD q2])) + IntKind.wrap IntKind.i64 (0 - IntKind.wrap IntKind.i64 (x11 * TabD.D T 3 [iD q0, iD q2]))) + IntKind.wrap IntKind.i64 (x13 * TabD.D T 3 [iD q0, iD q1])))), [.ac [AV.fn 92 [] [AV.ref 1 0, AV.ref 0 0]], .dc [DV.sl [m0, m1, DV.sl R 5 1 false false, m3, m4] 5 1 false false], .dc all, .dc X1, .dc [iD q0, iD q1, iD q2, iD 0]])
                        else
                          none
                      else
                        none
                  else
                    none
                else
                  none
              else
                none
          else
            none
        else
          none
      else
        none
  else
    none := by kernel_rfl

theorem u92_3_2 (T : TabD) (R : List DV) (m0 m1 m2 m4 : DV) (all X1 X2 : List DV) (q0 q1 : Int) : bodyE aeC (ev92 T) 30 92 Tryd.f92 [.d (iD 3), .row 5 0 2 3 1 false, .ref 1 0, .ref 0 0] [.ac [.fn 92 [] [.ref 1 0, .ref 0 0]], .dc [.sl [m0, m1, m2, .sl R 5 1 false false, m4] 5 1 false false], .dc all, .dc X1, .dc X2, .dc [iD q0, iD q1, iD 0]] (fun v h => some (v, h) : AV → List Blk → Option (AV × List Blk)) =
  bif inRange q0 5 then
    getI (nth R (Int.toNat q0 * 1)) fun x0 =>
    bif decide (x0 = 0) then
      bif inRange q1 5 then
        getI (nth R (Int.toNat q1 * 1)) fun x1 =>
        bif decide (x1 = 0) then
          some (.d (iD 0), [.ac [AV.fn 92 [] [AV.ref 1 0, AV.ref 0 0]], .dc [DV.sl [m0, m1, m2, DV.sl R 5 1 false false, m4] 5 1 false false], .dc all, .dc X1, .dc X2, .dc [iD q0, iD q1, iD 0]])
        else
          bif TabD.ok T 4 (AV.row 6 0 1 2 1 false) (AV.ref 1 0) (AV.ref 0 0) [.ac [AV.fn 92 [] [AV.ref 1 0, AV.ref 0 0]], .dc [DV.sl [m0, m1, m2, DV.sl R 5 1 false false, m4] 5 1 false false], .dc all, .dc X1, .dc X2, .dc [iD q0, iD q1, iD 0], .dc [iD q0, iD 0]] then
            bif inRange q1 5 then
              getI (nth R (Int.toNat q1 * 1)) fun x2 =>
              some (.d (iD (IntKind.wrap IntKind.i64 (0 + IntKind.wrap IntKind.i64 (0 - IntKind.wrap IntKind.i64 (x2 * TabD.D T 4 [iD q0]))))), [.ac [AV.fn 92 [] [AV.ref 1 0, AV.ref 0 0]], .dc [DV.sl [m0, m1, m2, DV.sl R 5 1 false false, m4] 5 1 false false], .dc all, .dc X1, .dc X2, .dc [iD q0, iD q1, iD 0]])
            else
              none
          else
            none
      else
        none
    else
      bif TabD.ok T 4 (AV.row 6 0 1 2 1 false) (AV.ref 1 0) (AV.ref 0 0) [.ac [AV.fn 92 [] [AV.ref 1 0, AV.ref 0 0]], .dc [DV.sl [m0, m1, m2, DV.sl R 5 1 false false, m4] 5 1 false false], .dc all, .dc X1, .dc X2, .dc [iD q0, iD q1, iD 0], .dc [iD q1, iD 0]] then
        bif inRange q0 5 then
          getI (nth R (Int.toNat q0 * 1)) fun x3 =>
          bif inRange q1 5 then
            getI (nth R (Int.toNat q1 * 1)) fun x4 =>
            bif decide (x4 = 0) then
              some (.d (iD (IntKind.wrap IntKind.i64 (0 + IntKind.wrap IntKind.i64 (x3 * TabD.D T 4 [iD q1])))), [.ac [AV.fn 92 [] [AV.ref 1 0, AV.ref 0 0]], .dc [DV.sl [m0, m1, m2, DV.sl R 5 1 false false, m4] 5 1 false false], .dc all, .dc X1, .dc X2, .dc [iD q0, iD q1, iD 0]])
            else
              bif TabD.ok T 4 (AV.row 6 0 1 2 1 false) (AV.ref 1 0) (AV.ref 0 0) [.ac [AV.fn 92 [] [AV.ref 1 0, AV.ref 0 0]], .dc [DV.sl [m0, m1, m2, DV.sl R 5 1 false false, m4] 5 1 false false], .dc all, .dc X1, .dc X2, .dc [iD q0, iD q1, iD 0], .dc [iD q0, iD 0]] then
                bif inRange q1 5 then
                  getI (nth R (Int.toNat q1 * 1)) fun x5 =>
                  some (.d (iD (IntKind.wrap IntKind.i64 (IntKind.wrap IntKind.i64 (0 + IntKind.wrap IntKind.i64 (x3 * TabD.D T 4 [iD q1])) + IntKind.wrap IntKind.i64 (0 - IntKind.wrap IntKind.i64 (x5 * TabD.D T 4 [iD q0]))))), [.ac [AV.fn 92 [] [AV.ref 1 0, AV.ref 0 0]], .dc [DV.sl [m0, m1, m2, DV.sl R 5 1 false false, m4] 5 1 false false], .dc all, .dc X1, .dc X2, .dc [iD q0, iD q1, iD 0]])
                else
                  none
              else
                none
          else
            none
        else
          none
      else
        none
  else
    none := by kernel_rfl

theorem u92_4_1 (T : TabD) (R : List DV) (m0 m1 m2 m3 : DV) (all X1 X2 X3 : List DV) (q0 : Int) : bodyE aeC (ev92 T) 30 92 Tryd.f92 [.d (iD 4), .row 6 0 1 2 1 false, .ref 1 0, .ref 0 0] [.ac [.fn 92 [] [.ref 1 0, .ref 0 0]], .dc [.sl [m0, m1, m2, m3, .sl R 5 1 false false] 5 1 false false], .dc all, .dc X1, .dc X2, .dc X3, .dc [iD q0, iD 0]] (fun v h => some (v, h) : AV → List Blk → Option (AV × List Blk)) =
  bif inRange q0 5 then
    getI (nth R (Int.toNat q0 * 1)) fun x0 =>
    bif decide (x0 = 0) then
      some (.d (iD 0), [.ac [AV.fn 92 [] [AV.ref 1 0, AV.ref 0 0]], .dc [DV.sl [m0, m1, m2, m3, DV.sl R 5 1 false false] 5 1 false false], .dc all, .dc X1, .dc X2, .dc X3, .dc [iD q0, iD 0]])
    else
      bif TabD.ok T 5 (AV.row 7 0 0 1 1 false) (AV.ref 1 0) (AV.ref 0 0) [.ac [AV.fn 92 [] [AV.ref 1 0, AV.ref 0 0]], .dc [DV.sl [m0, m1, m2, m3, DV.sl R 5 1 false false] 5 1 false false], .dc all, .dc X1, .dc X2, .dc X3, .dc [iD q0, iD 0], .dc [iD 0]] then
        bif inRange q0 5 then
          getI (nth R (Int.toNat q0 * 1)) fun x1 =>
          some (.d (iD (IntKind.wrap IntKind.i64 (0 + IntKind.wrap IntKind.i64 (x1 * TabD.D T 5 [])))), [.ac [AV.fn 92 [] [AV.ref 1 0, AV.ref 0 0]], .dc [DV.sl [m0, m1, m2, m3, DV.sl R 5 1 false false] 5 1 false false], .dc all, .dc X1, .dc X2, .dc X3, .dc [iD q0, iD 0]])
        else
          none
      else
        none
  else
    none := by kernel_rfl

theorem u92_5_0 (T : TabD) (m0 m1 m2 m3 m4 : DV) (all X1 X2 X3 X4 : List DV) : bodyE aeC (ev92 T) 30 92 Tryd.f92 [.d (iD 5), .row 7 0 0 1 1 false, .ref 1 0, .ref 0 0] [.ac [.fn 92 [] [.ref 1 0, .ref 0 0]], .dc [.sl [m0, m1, m2, m3, m4] 5 1 false false], .dc all, .dc X1, .dc X2, .dc X3, .dc X4, .dc [iD 0]] (fun v h => some (v, h) : AV → List Blk → Option (AV × List Blk)) =
  some (.d (iD 1), [.ac [AV.fn 92 [] [AV.ref 1 0, AV.ref 0 0]], .dc [DV.sl [m0, m1, m2, m3, m4] 5 1 false false], .dc all, .dc X1, .dc X2, .dc X3, .dc X4, .dc [iD 0]]) := by kernel_rfl

end Go.Proofs.YtiicbenhhdbnoaaDoor

/- Chapter 09: determinants by the first row, modulo 2 ^ 64. -/
namespace Go.Proofs.YtiicbenhhdbnoaaDoor
open Go Go.AE

/-! ### Numbers modulo 2 ^ 64 -/
abbrev W (n : Int) : Int := IntKind.wrap IntKind.i64 n
theorem W_def (n : Int) : W n = (n + 9223372036854775808) % 18446744073709551616 - 9223372036854775808 := by
  show IntKind.wrap .i64 n = _
  rw [IntKind.wrap_i64]
theorem W_mod (n : Int) : W n % 18446744073709551616 = n % 18446744073709551616 := by rw [W_def]; omega
theorem W_eq {a b : Int} (h : a % 18446744073709551616 = b % 18446744073709551616) : W a = W b := by rw [W_def, W_def]; omega
theorem W_W (n : Int) : W (W n) = W n := W_eq (W_mod n)
theorem W_subR (a b : Int) : W (a - W b) = W (a - b) := W_eq (by have := W_mod b; omega)
theorem W_mulL (a b : Int) : W (W a * b) = W (a * b) := W_eq (by rw [Int.mul_emod, W_mod, ← Int.mul_emod])
/-! ### Determinants -/
/-- One column's part of a determinant, by the first row. -/
def stepD (x : Int) (odd : Bool) (sub out : Int) : Int := if x = 0 then out else IntKind.wrap .i64 (out + cond odd (IntKind.wrap .i64 (0 - IntKind.wrap .i64 (x * sub))) (IntKind.wrap .i64 (x * sub)))
def lapGo (f : List Int → Int) (R : List Int) : List Int → List Int → Bool → Int → Int
  | _, [], _, out => out
  | pre, c :: cs, odd, out => lapGo f R (pre ++ [c]) cs (!odd) (stepD (R.getD c.toNat 0) odd (f (pre ++ cs)) out)
/-- The determinant of the first rows with some columns, modulo 2 ^ 64. -/
def lapW : List (List Int) → List Int → Int
  | [], _ => 1
  | _ :: _, [] => 1
  | R :: Rs, c :: cs => lapGo (lapW Rs) R [] (c :: cs) false 0

theorem wst (x : Int) (odd : Bool) (s out : Int) (h : W out = out) : W (stepD x odd s out) = stepD x odd s out := by
  unfold stepD
  split
  · exact h
  · exact W_W _
theorem stepE (x s out : Int) (h : W out = out) : IntKind.wrap .i64 (out + IntKind.wrap .i64 (IntKind.wrap .i64 (1 * x) * s)) = stepD x false s out := by
  show W (out + W (W (1 * x) * s)) = _
  unfold stepD
  split
  · rename_i e; subst e
    rw [show W (1 * 0) = 0 from rfl, Int.zero_mul, show W 0 = 0 from rfl, Int.add_zero]; exact h
  · rw [Int.one_mul, W_mulL]; rfl
theorem stepO (x s out : Int) (h : W out = out) : IntKind.wrap .i64 (out + IntKind.wrap .i64 (IntKind.wrap .i64 (-1 * x) * s)) = stepD x true s out := by
  show W (out + W (W (-1 * x) * s)) = _
  unfold stepD
  split
  · rename_i e; subst e
    rw [Int.mul_zero, show W 0 = 0 from rfl, Int.zero_mul, show W 0 = 0 from rfl, Int.add_zero]; exact h
  · rw [W_mulL, Int.neg_one_mul, Int.neg_mul]
    show W (out + W (-(x * s))) = W (out + W (0 - W (x * s)))
    rw [W_subR, Int.zero_sub]

/-! ### Matrices as data -/
abbrev rowD (R : List Int) : DV := .sl (ints R) R.length 1 false false
abbrev matD (M : List (List Int)) (nl : Bool) : DV := .sl (M.map rowD) M.length 1 false nl
def unM : DV → List (List Int)
  | .sl rows _ _ _ _ => rows.map fun r => match r with
    | .sl cs _ _ _ _ => unI cs
    | _ => []
  | _ => []
theorem unM_mat (M : List (List Int)) (nl : Bool) : unM (matD M nl) = M := by
  unfold unM matD
  simp only [List.map_map]
  conv => rhs; rw [← List.map_id M]
  apply List.map_congr_left
  intro R _
  simp [unI_ints]

theorem getS_row {R : Type} {M : List (List Int)} {r : Nat} {K : List DV → Nat → Nat → Bool → Bool → Option R} (h : r < M.length) : getS (nth (M.map rowD) (Int.toNat (r : Int) * 1)) K = K (ints (M.getD r [])) (M.getD r []).length 1 false false := by
  rw [Int.toNat_natCast, Nat.mul_one, nth_map, nth_eq]
  simp [h, getS]
theorem getI_at {R : Type} {l : List Int} {i : Nat} {K : Int → Option R} (h : i < l.length) : getI (nth (ints l) i) K = K (l.getD i 0) := by
  rw [nth_ints_o h, getI_some]
theorem getI_nth {R : Type} {l : List Int} {i : Nat} {K : Int → Option R} (h : i < l.length) : getI (nth (ints l) (i * 1)) K = K (l.getD i 0) := by
  rw [Nat.mul_one, nth_ints_o h, getI_some]
theorem cond_is {R : Type} {b : Bool} {x y : R} (h : b = true) : (bif b then x else y) = x := by rw [h]; rfl
theorem inR_at {R : Type} {i : Int} {j n : Nat} {a b : R} (h : i = j) (hj : j < n) : (bif inRange i n then a else b) = a := inR_pos (by omega) (by omega)
end Go.Proofs.YtiicbenhhdbnoaaDoor
