/- Part 4 of what the law stands on: the abstract machine over the model, and what the functions answer. No condition. -/
import Derived.Test.YtiicbenhhdbnoaaDoorProg
import Derived.Test.YtiicbenhhdbnoaaDoorChecked
import Derived.Test.YtiicbenhhdbnoaaDoorM3
set_option linter.unusedSimpArgs false
set_option linter.unusedVariables false

/- The tables of the seat for the abstract machine, written by a program of this session (wip/tools/aectx.py). -/
namespace Go.Proofs.YtiicbenhhdbnoaaDoor
open Go Go.AE

noncomputable def aeT : Tab TI :=
  (.node 67 (⟨.other, 1, 0, []⟩) (.node 36 (⟨.other, 1, 8, [.nilf]⟩) (.node 21 (⟨(.int .i32), 1, 4, [.int .i32 0]⟩) (.node 9 (⟨.str, 1, 16, [.str ⟨#[]⟩]⟩) (.node 3 (⟨(.int .i64), 1, 8, [.int .i64 0]⟩) (.node 1 (⟨.other, 1, 8, [.nilf]⟩) (.node 0 (⟨.other, 1, 0, []⟩) .leaf .leaf) (.node 2 (⟨(.int .i64), 1, 8, [.int .i64 0]⟩) .leaf .leaf)) (.node 5 (⟨(.int .u8), 1, 1, [.int .u8 0]⟩) (.node 4 (⟨.bool, 1, 1, [.bool false]⟩) .leaf .leaf) (.node 6 (⟨(.int .u8), 1, 1, [.int .u8 0]⟩) .leaf .leaf))) (.node 15 (⟨(.ptr 120), 1, 8, [.nilp]⟩) (.node 11 (⟨.str, 1, 16, [.str ⟨#[]⟩]⟩) (.node 10 (⟨.str, 1, 16, [.str ⟨#[]⟩]⟩) .leaf .leaf) (.node 12 (⟨(.int .u64), 1, 8, [.int .u64 0]⟩) .leaf .leaf)) (.node 17 (⟨(.ptr 133), 1, 8, [.nilp]⟩) (.node 16 (⟨(.ptr 123), 1, 8, [.nilp]⟩) .leaf .leaf) (.node 20 (⟨.other, 1, 16, [.nili]⟩) .leaf .leaf)))) (.node 29 (⟨.other, 1, 8, [.nilf]⟩) (.node 25 (⟨(.int .i64), 1, 8, [.int .i64 0]⟩) (.node 23 (⟨.other, 1, 8, [.nilf]⟩) (.node 22 (⟨(.slice 3), 1, 24, [.sl [] 0 0 false true]⟩) .leaf .leaf) (.node 24 (⟨(.slice 57), 1, 24, [.sl [] 0 0 false true]⟩) .leaf .leaf)) (.node 27 (⟨.other, 1, 8, [.nilf]⟩) (.node 26 (⟨.other, 1, 0, []⟩) .leaf .leaf) (.node 28 (⟨.other, 1, 0, []⟩) .leaf .leaf))) (.node 33 (⟨.other, 1, 0, []⟩) (.node 31 (⟨.other, 1, 8, [.nilf]⟩) (.node 30 (⟨.other, 1, 0, []⟩) .leaf .leaf) (.node 32 (⟨.other, 1, 8, [.nilf]⟩) .leaf .leaf)) (.node 35 (⟨.other, 1, 8, [.nilf]⟩) (.node 34 (⟨.other, 1, 8, [.nilf]⟩) .leaf .leaf) .leaf)))) (.node 52 (⟨(.int .u64), 1, 8, [.int .u64 0]⟩) (.node 44 (⟨.other, 1, 0, []⟩) (.node 40 (⟨.other, 1, 0, []⟩) (.node 38 (⟨.other, 1, 8, [.nilf]⟩) (.node 37 (⟨.other, 1, 8, [.nilf]⟩) .leaf .leaf) (.node 39 (⟨(.array 4 22), 4, 96, [.sl [] 0 0 false true, .sl [] 0 0 false true, .sl [] 0 0 false true, .sl [] 0 0 false true]⟩) .leaf .leaf)) (.node 42 (⟨.other, 1, 0, []⟩) (.node 41 (⟨.other, 1, 8, [.nilf]⟩) .leaf .leaf) (.node 43 (⟨.other, 1, 8, [.nilf]⟩) .leaf .leaf))) (.node 48 (⟨.other, 1, 8, [.nilf]⟩) (.node 46 (⟨.other, 1, 8, [.nilf]⟩) (.node 45 (⟨.other, 1, 8, [.nilf]⟩) .leaf .leaf) (.node 47 (⟨.other, 1, 8, [.nilf]⟩) .leaf .leaf)) (.node 50 (⟨.other, 1, 0, []⟩) (.node 49 (⟨.other, 1, 8, [.nilf]⟩) .leaf .leaf) (.node 51 (⟨.other, 1, 8, [.nilf]⟩) .leaf .leaf)))) (.node 60 (⟨(.array 2 22), 2, 48, [.sl [] 0 0 false true, .sl [] 0 0 false true]⟩) (.node 56 (⟨.other, 1, 8, [.nilf]⟩) (.node 54 (⟨(.slice 2), 1, 24, [.sl [] 0 0 false true]⟩) (.node 53 (⟨.other, 1, 8, [.nilf]⟩) .leaf .leaf) (.node 55 (⟨.other, 1, 0, []⟩) .leaf .leaf)) (.node 58 (⟨(.array 2 2), 2, 16, [.int .i64 0, .int .i64 0]⟩) (.node 57 (⟨(.slice 58), 1, 24, [.sl [] 0 0 false true]⟩) .leaf .leaf) (.node 59 (⟨.other, 1, 8, [.nilf]⟩) .leaf .leaf))) (.node 64 (⟨.other, 1, 0, []⟩) (.node 62 (⟨.other, 1, 0, []⟩) (.node 61 (⟨.other, 1, 8, [.nilf]⟩) .leaf .leaf) (.node 63 (⟨.other, 1, 8, [.nilf]⟩) .leaf .leaf)) (.node 66 (⟨.other, 1, 8, [.nilf]⟩) (.node 65 (⟨.other, 1, 8, [.nilf]⟩) .leaf .leaf) .leaf))))) (.node 98 (⟨.other, 1, 8, [.nilf]⟩) (.node 83 (⟨.other, 1, 8, [.nilf]⟩) (.node 75 (⟨.other, 1, 0, []⟩) (.node 71 (⟨.other, 1, 8, [.nilf]⟩) (.node 69 (⟨.other, 1, 0, []⟩) (.node 68 (⟨.other, 1, 8, [.nilf]⟩) .leaf .leaf) (.node 70 (⟨.other, 1, 8, [.nilf]⟩) .leaf .leaf)) (.node 73 (⟨.other, 1, 8, [.nilf]⟩) (.node 72 (⟨.other, 1, 8, [.nilf]⟩) .leaf .leaf) (.node 74 (⟨(.slice 80), 1, 24, [.sl [] 0 0 false true]⟩) .leaf .leaf))) (.node 79 (⟨(.array 6 78), 12, 96, (List.replicate 12 (.int .i64 0))⟩) (.node 77 (⟨(.struct [(0, 2), (1, 2)]), 2, 16, [.int .i64 0, .int .i64 0]⟩) (.node 76 (⟨.other, 1, 8, [.nilf]⟩) .leaf .leaf) (.node 78 (⟨(.struct [(0, 2), (1, 2)]), 2, 16, [.int .i64 0, .int .i64 0]⟩) .leaf .leaf)) (.node 81 (⟨(.slice 78), 1, 24, [.sl [] 0 0 false true]⟩) (.node 80 (⟨(.array 6 78), 12, 96, (List.replicate 12 (.int .i64 0))⟩) .leaf .leaf) (.node 82 (⟨.other, 1, 8, [.nilf]⟩) .leaf .leaf)))) (.node 91 (⟨.other, 1, 8, [.nilf]⟩) (.node 87 (⟨(.struct [(0, 22), (1, 22)]), 2, 48, [.sl [] 0 0 false true, .sl [] 0 0 false true]⟩) (.node 85 (⟨.other, 1, 8, [.nilf]⟩) (.node 84 (⟨.other, 1, 8, [.nilf]⟩) .leaf .leaf) (.node 86 (⟨(.struct [(0, 22), (1, 22)]), 2, 48, [.sl [] 0 0 false true, .sl [] 0 0 false true]⟩) .leaf .leaf)) (.node 89 (⟨(.array 4 3), 4, 32, [.int .i64 0, .int .i64 0, .int .i64 0, .int .i64 0]⟩) (.node 88 (⟨(.array 4 9), 4, 64, [.str ⟨#[]⟩, .str ⟨#[]⟩, .str ⟨#[]⟩, .str ⟨#[]⟩]⟩) .leaf .leaf) (.node 90 (⟨.other, 1, 8, [.nilf]⟩) .leaf .leaf))) (.node 95 (⟨(.slice 54), 1, 24, [.sl [] 0 0 false true]⟩) (.node 93 (⟨.other, 1, 8, [.nilf]⟩) (.node 92 (⟨.other, 1, 8, [.nilf]⟩) .leaf .leaf) (.node 94 (⟨.other, 1, 8, [.nilf]⟩) .leaf .leaf)) (.node 97 (⟨.other, 1, 8, [.nilf]⟩) (.node 96 (⟨.other, 1, 8, [.nilf]⟩) .leaf .leaf) .leaf)))) (.node 113 (⟨.other, 1, 8, [.nilf]⟩) (.node 106 (⟨.other, 1, 8, [.nilf]⟩) (.node 102 (⟨.other, 1, 8, [.nilf]⟩) (.node 100 (⟨.other, 1, 8, [.nilf]⟩) (.node 99 (⟨.other, 1, 8, [.nilf]⟩) .leaf .leaf) (.node 101 (⟨.other, 1, 8, [.nilf]⟩) .leaf .leaf)) (.node 104 (⟨.other, 1, 8, [.nilf]⟩) (.node 103 (⟨.other, 1, 8, [.nilf]⟩) .leaf .leaf) (.node 105 (⟨(.slice 22), 1, 24, [.sl [] 0 0 false true]⟩) .leaf .leaf))) (.node 110 (⟨.other, 1, 8, [.nilf]⟩) (.node 108 (⟨.other, 1, 8, [.nilf]⟩) (.node 107 (⟨.other, 1, 8, [.nilf]⟩) .leaf .leaf) (.node 109 (⟨.other, 1, 8, [.nilf]⟩) .leaf .leaf)) (.node 112 (⟨.other, 1, 8, [.nilf]⟩) (.node 111 (⟨.other, 1, 8, [.nilf]⟩) .leaf .leaf) .leaf))) (.node 126 (⟨(.int .u8), 1, 1, [.int .u8 0]⟩) (.node 117 (⟨.other, 1, 8, [.nilf]⟩) (.node 115 (⟨.other, 1, 8, [.nilf]⟩) (.node 114 (⟨.other, 1, 8, [.nilf]⟩) .leaf .leaf) (.node 116 (⟨.other, 1, 8, [.nilf]⟩) .leaf .leaf)) (.node 124 (⟨.other, 1, 8, [.nilf]⟩) (.node 118 (⟨.other, 1, 8, [.nilf]⟩) .leaf .leaf) (.node 125 (⟨(.int .u32), 1, 4, [.int .u32 0]⟩) .leaf .leaf))) (.node 130 (⟨(.int .i32), 1, 4, [.int .i32 0]⟩) (.node 128 (⟨.other, 1, 8, [.nilf]⟩) (.node 127 (⟨(.int .u8), 1, 1, [.int .u8 0]⟩) .leaf .leaf) (.node 129 (⟨(.ptr 5), 1, 8, [.nilp]⟩) .leaf .leaf)) (.node 134 (⟨.other, 1, 8, []⟩) (.node 131 (⟨(.int .i32), 1, 4, [.int .i32 0]⟩) .leaf .leaf) .leaf))))))

noncomputable def aeRets : Tab (List Nat) :=
  (.node 58 [4] (.node 29 [4] (.node 14 [3, 25] (.node 7 [4] (.node 3 [4] (.node 1 [] (.node 0 [] .leaf .leaf) (.node 2 [] .leaf .leaf)) (.node 5 [4] (.node 4 [4] .leaf .leaf) (.node 6 [4] .leaf .leaf))) (.node 11 [4] (.node 9 [4] (.node 8 [4] .leaf .leaf) (.node 10 [4] .leaf .leaf)) (.node 13 [24, 25] (.node 12 [22] .leaf .leaf) .leaf))) (.node 22 [4, 25] (.node 18 [4] (.node 16 [4] (.node 15 [24, 4] .leaf .leaf) (.node 17 [3, 4] .leaf .leaf)) (.node 20 [3] (.node 19 [22] .leaf .leaf) (.node 21 [39, 25] .leaf .leaf))) (.node 26 [4] (.node 24 [25] (.node 23 [22, 4, 25] .leaf .leaf) (.node 25 [39] .leaf .leaf)) (.node 28 [4] (.node 27 [4] .leaf .leaf) .leaf)))) (.node 44 [4, 25] (.node 37 [4] (.node 33 [54, 25] (.node 31 [22] (.node 30 [22, 22] .leaf .leaf) (.node 32 [4, 25] .leaf .leaf)) (.node 35 [58] (.node 34 [58] .leaf .leaf) (.node 36 [4, 25] .leaf .leaf))) (.node 41 [22, 4] (.node 39 [60] (.node 38 [4] .leaf .leaf) (.node 40 [22, 25] .leaf .leaf)) (.node 43 [22, 3] (.node 42 [22, 25] .leaf .leaf) .leaf))) (.node 51 [4] (.node 48 [4] (.node 46 [22, 25] (.node 45 [60, 25] .leaf .leaf) (.node 47 [4] .leaf .leaf)) (.node 50 [22] (.node 49 [54] .leaf .leaf) .leaf)) (.node 55 [58] (.node 53 [25] (.node 52 [25] .leaf .leaf) (.node 54 [74, 4] .leaf .leaf)) (.node 57 [58] (.node 56 [58] .leaf .leaf) .leaf))))) (.node 88 [78] (.node 73 [22] (.node 66 [22] (.node 62 [4] (.node 60 [22] (.node 59 [4] .leaf .leaf) (.node 61 [4] .leaf .leaf)) (.node 64 [2] (.node 63 [54] .leaf .leaf) (.node 65 [3] .leaf .leaf))) (.node 70 [22] (.node 68 [22] (.node 67 [22] .leaf .leaf) (.node 69 [22] .leaf .leaf)) (.node 72 [22] (.node 71 [4] .leaf .leaf) .leaf))) (.node 81 [4] (.node 77 [2] (.node 75 [] (.node 74 [22] .leaf .leaf) (.node 76 [2] .leaf .leaf)) (.node 79 [4] (.node 78 [99] .leaf .leaf) (.node 80 [4] .leaf .leaf))) (.node 85 [80] (.node 83 [3] (.node 82 [2] .leaf .leaf) (.node 84 [] .leaf .leaf)) (.node 87 [78] (.node 86 [78] .leaf .leaf) .leaf)))) (.node 103 [] (.node 96 [9] (.node 92 [2] (.node 90 [4] (.node 89 [4] .leaf .leaf) (.node 91 [3] .leaf .leaf)) (.node 94 [78] (.node 93 [22] .leaf .leaf) (.node 95 [3] .leaf .leaf))) (.node 100 [9] (.node 98 [9] (.node 97 [] .leaf .leaf) (.node 99 [] .leaf .leaf)) (.node 102 [9] (.node 101 [] .leaf .leaf) .leaf))) (.node 110 [] (.node 107 [] (.node 105 [] (.node 104 [9] .leaf .leaf) (.node 106 [9] .leaf .leaf)) (.node 109 [9] (.node 108 [3] .leaf .leaf) .leaf)) (.node 114 [] (.node 112 [] (.node 111 [9] .leaf .leaf) (.node 113 [] .leaf .leaf)) (.node 116 [] (.node 115 [] .leaf .leaf) .leaf))))))

noncomputable def aeIsoT : Tab Bool :=
  (.node 46 true (.node 24 true (.node 13 true (.node 7 true (.node 4 true (.node 3 true (.node 2 true .leaf .leaf) .leaf) (.node 6 true (.node 5 true .leaf .leaf) .leaf)) (.node 10 true (.node 9 true (.node 8 true .leaf .leaf) .leaf) (.node 12 true (.node 11 true .leaf .leaf) .leaf))) (.node 19 true (.node 16 true (.node 15 true (.node 14 true .leaf .leaf) .leaf) (.node 18 true (.node 17 true .leaf .leaf) .leaf)) (.node 22 true (.node 21 true (.node 20 true .leaf .leaf) .leaf) (.node 23 true .leaf .leaf)))) (.node 35 true (.node 30 true (.node 27 true (.node 26 true (.node 25 true .leaf .leaf) .leaf) (.node 29 true (.node 28 true .leaf .leaf) .leaf)) (.node 33 true (.node 32 true (.node 31 true .leaf .leaf) .leaf) (.node 34 true .leaf .leaf))) (.node 41 true (.node 38 true (.node 37 true (.node 36 true .leaf .leaf) .leaf) (.node 40 true (.node 39 true .leaf .leaf) .leaf)) (.node 44 true (.node 43 true (.node 42 true .leaf .leaf) .leaf) (.node 45 true .leaf .leaf))))) (.node 68 true (.node 57 true (.node 52 true (.node 49 true (.node 48 true (.node 47 true .leaf .leaf) .leaf) (.node 51 true (.node 50 true .leaf .leaf) .leaf)) (.node 55 true (.node 54 true (.node 53 true .leaf .leaf) .leaf) (.node 56 true .leaf .leaf))) (.node 63 true (.node 60 true (.node 59 true (.node 58 true .leaf .leaf) .leaf) (.node 62 true (.node 61 true .leaf .leaf) .leaf)) (.node 66 true (.node 65 true (.node 64 true .leaf .leaf) .leaf) (.node 67 true .leaf .leaf)))) (.node 82 true (.node 76 true (.node 71 true (.node 70 true (.node 69 true .leaf .leaf) .leaf) (.node 73 true (.node 72 true .leaf .leaf) .leaf)) (.node 79 true (.node 78 true (.node 77 true .leaf .leaf) .leaf) (.node 80 true .leaf .leaf))) (.node 89 true (.node 86 true (.node 85 true (.node 83 true .leaf .leaf) .leaf) (.node 88 true (.node 87 true .leaf .leaf) .leaf)) (.node 95 true (.node 94 true (.node 91 true .leaf .leaf) .leaf) (.node 116 true .leaf .leaf))))))

noncomputable def aeIso (f : FuncId) : Bool := (tget aeIsoT f).isSome

noncomputable def aePolT : Tab (Tab Pol) :=
  (.node 48 (.node 0 ⟨[0, 1, 5], [], []⟩ .leaf .leaf) (.node 20 (.node 0 ⟨[0, 1, 5], [], []⟩ .leaf .leaf) (.node 12 (.node 0 ⟨[0, 3, 4], [(3, 1)], []⟩ .leaf .leaf) (.node 7 (.node 0 ⟨[2, 7, 8, 9], [], []⟩ .leaf .leaf) (.node 5 (.node 4 ⟨[0, 3, 4, 5, 7, 9, 10, 11, 13, 14], [], []⟩ (.node 2 ⟨[0, 3, 4, 5, 6], [], []⟩ (.node 0 ⟨[0, 3], [], []⟩ .leaf .leaf) .leaf) (.node 8 ⟨[0, 3, 4, 5, 7, 18], [], []⟩ (.node 6 ⟨[0, 3, 4, 5, 7, 9, 11, 15, 16, 17], [], []⟩ .leaf .leaf) .leaf)) (.node 4 (.node 2 ⟨[0, 1, 5, 6, 7, 9, 11, 13, 14, 16, 17], [], []⟩ (.node 0 ⟨[0, 1, 5, 6, 7], [(6, 1)], []⟩ .leaf .leaf) (.node 4 ⟨[0, 1, 5, 6, 7, 19], [(6, 1)], []⟩ .leaf .leaf)) .leaf .leaf) (.node 6 (.node 4 ⟨[0, 1, 2, 7, 8, 9, 10, 23, 24], [(23, 1)], []⟩ (.node 2 ⟨[0, 1, 2, 7, 8, 9, 10, 12, 14, 15, 17, 18], [], []⟩ (.node 0 ⟨[0, 1, 2, 7, 8, 9], [(8, 1)], []⟩ .leaf .leaf) .leaf) (.node 6 ⟨[0, 1, 2, 7, 8, 9, 28], [(8, 1)], []⟩ .leaf .leaf)) .leaf .leaf)) (.node 11 (.node 0 ⟨[0, 1, 5], [], []⟩ .leaf .leaf) (.node 8 (.node 2 ⟨[5, 6, 7, 16], [], []⟩ (.node 0 ⟨[5, 6, 7], [], []⟩ .leaf .leaf) (.node 4 ⟨[5, 6, 7, 17], [], []⟩ .leaf .leaf)) .leaf .leaf) .leaf)) (.node 15 (.node 2 ⟨[0, 4, 5, 6, 7, 8], [(7, 2)], []⟩ (.node 0 ⟨[0, 4, 5, 6], [(5, 1)], []⟩ .leaf .leaf) (.node 4 ⟨[0, 4, 5, 6, 7, 9, 10, 11, 12], [(7, 2)], []⟩ .leaf .leaf)) (.node 14 (.node 0 ⟨[5, 7, 8], [], []⟩ .leaf .leaf) (.node 13 (.node 2 ⟨[7, 8, 11, 29, 30, 31, 41, 42, 43], [(11, 2)], []⟩ (.node 0 ⟨[7, 8, 29, 30, 31], [(7, 1)], []⟩ .leaf .leaf) .leaf) .leaf .leaf) .leaf) (.node 17 (.node 0 ⟨[4, 6, 7], [], []⟩ .leaf .leaf) (.node 16 (.node 0 ⟨[0, 1, 5], [], []⟩ .leaf .leaf) .leaf .leaf) .leaf))) (.node 29 (.node 2 ⟨[5, 6], [], []⟩ (.node 0 ⟨[0, 3, 4], [(3, 1)], []⟩ .leaf .leaf) .leaf) (.node 25 (.node 2 ⟨[0, 1, 4, 5, 6, 7, 8, 9], [(8, 1)], []⟩ (.node 0 ⟨[0, 1, 4, 5, 6, 7], [], []⟩ .leaf .leaf) .leaf) (.node 23 (.node 0 ⟨[20, 21], [], []⟩ .leaf .leaf) (.node 21 (.node 0 ⟨[4, 7, 8, 22, 23], [], []⟩ .leaf .leaf) .leaf .leaf) (.node 24 (.node 0 ⟨[0, 1, 39, 40], [], []⟩ .leaf .leaf) .leaf .leaf)) (.node 28 (.node 0 ⟨[0, 1, 2, 7], [], []⟩ .leaf .leaf) (.node 26 (.node 0 ⟨[0, 1, 5], [], []⟩ .leaf .leaf) .leaf .leaf) .leaf)) (.node 36 (.node 0 ⟨[0, 1, 6, 24], [(6, 1)], []⟩ .leaf .leaf) (.node 31 (.node 0 ⟨[0, 3, 4], [], []⟩ .leaf .leaf) (.node 30 (.node 0 ⟨[1, 6, 7, 8], [(7, 1)], []⟩ .leaf .leaf) .leaf .leaf) .leaf) (.node 45 (.node 0 ⟨[2, 5, 14, 15, 16], [], []⟩ .leaf .leaf) (.node 39 (.node 0 ⟨[0, 2, 3, 4], [], []⟩ .leaf .leaf) .leaf .leaf) .leaf)))) (.node 70 (.node 2 ⟨[0, 1, 5, 6, 7], [], []⟩ (.node 0 ⟨[0, 1, 5, 6], [], []⟩ .leaf .leaf) .leaf) (.node 63 (.node 2 ⟨[0, 3, 4, 5, 6, 7], [(6, 1)], []⟩ (.node 0 ⟨[0, 3, 4, 5], [(4, 1)], []⟩ .leaf .leaf) (.node 4 ⟨[0, 3, 4, 5, 6, 7, 8, 9], [(8, 1)], []⟩ .leaf .leaf)) (.node 59 (.node 0 ⟨[0, 3], [], []⟩ .leaf .leaf) (.node 50 (.node 0 ⟨[0, 3, 4], [(3, 1)], []⟩ .leaf .leaf) (.node 49 (.node 2 ⟨[0, 3, 4, 5, 6, 7], [(6, 1)], []⟩ (.node 0 ⟨[0, 3, 4, 5], [(4, 1)], []⟩ .leaf .leaf) (.node 4 ⟨[3, 4, 8, 9], [(8, 1)], []⟩ .leaf .leaf)) .leaf .leaf) (.node 58 (.node 0 ⟨[0, 1, 5], [], []⟩ .leaf .leaf) .leaf .leaf)) (.node 61 (.node 0 ⟨[3, 16, 17, 18], [], []⟩ .leaf .leaf) (.node 60 (.node 0 ⟨[2, 5, 13], [(5, 1)], []⟩ .leaf .leaf) .leaf .leaf) .leaf)) (.node 67 (.node 0 ⟨[0, 1, 5, 6], [(5, 1)], []⟩ .leaf .leaf) (.node 66 (.node 0 ⟨[0], [], []⟩ .leaf .leaf) (.node 64 (.node 0 ⟨[0, 1], [], []⟩ .leaf .leaf) .leaf .leaf) .leaf) (.node 69 (.node 2 ⟨[5, 6, 12, 13, 14, 25, 26, 27], [], []⟩ (.node 0 ⟨[3, 12, 13, 14], [], []⟩ .leaf .leaf) (.node 4 ⟨[5, 6, 7, 8, 12, 13, 14, 25, 26, 27, 32, 33, 34], [], []⟩ .leaf .leaf)) (.node 68 (.node 0 ⟨[0, 3], [], []⟩ .leaf .leaf) .leaf .leaf) .leaf))) (.node 84 (.node 2 ⟨[0, 3, 4, 5, 6, 7, 8, 44], [], []⟩ (.node 0 ⟨[0, 3, 4, 5, 6], [], []⟩ .leaf .leaf) .leaf) (.node 77 (.node 0 ⟨[0, 1, 2, 7, 8, 9], [], []⟩ .leaf .leaf) (.node 73 (.node 2 ⟨[0, 3, 4, 5, 6, 7], [], []⟩ (.node 0 ⟨[0, 3, 4, 5], [], []⟩ .leaf .leaf) (.node 4 ⟨[0, 3, 4, 5, 6, 8], [], []⟩ .leaf .leaf)) (.node 72 (.node 4 ⟨[3, 4, 6, 7, 16, 17, 18, 33, 34], [(7, 1)], []⟩ (.node 2 ⟨[3, 4, 5, 6, 7, 16, 17, 18, 23, 24], [(7, 1)], []⟩ (.node 0 ⟨[3, 4, 16, 17, 18], [], []⟩ .leaf .leaf) .leaf) (.node 6 ⟨[3, 4, 6, 16, 17, 18, 42, 43, 44], [], []⟩ .leaf .leaf)) .leaf .leaf) (.node 75 (.node 0 ⟨[0, 2, 3], [], []⟩ .leaf .leaf) .leaf .leaf)) (.node 83 (.node 0 ⟨[3, 6, 7, 8], [], []⟩ .leaf .leaf) (.node 82 (.node 0 ⟨[3, 4, 8, 9], [(4, 1)], []⟩ .leaf .leaf) .leaf .leaf) .leaf)) (.node 92 (.node 0 ⟨[0, 1, 2, 3, 7, 15, 16, 17], [], []⟩ .leaf .leaf) (.node 91 (.node 0 ⟨[0, 1, 7, 8], [], []⟩ .leaf .leaf) (.node 85 (.node 0 ⟨[0, 1, 4, 5, 7], [], []⟩ .leaf .leaf) .leaf .leaf) .leaf) (.node 95 (.node 0 ⟨[0, 1, 7, 8], [], []⟩ .leaf .leaf) (.node 94 (.node 0 ⟨[0, 1, 4, 5, 6], [], []⟩ .leaf .leaf) .leaf .leaf) .leaf)))))

noncomputable def aePol (f b : Nat) : Option Pol := match tget aePolT f with
  | some t => tget t b
  | none => none

noncomputable def aeXPolT : Tab (Tab Pol) :=
  (.node 48 (.node 0 ⟨[], [], []⟩ .leaf .leaf) (.node 20 (.node 0 ⟨[0, 1], [], []⟩ .leaf .leaf) (.node 12 (.node 0 ⟨[3], [], []⟩ .leaf .leaf) (.node 7 (.node 0 ⟨[], [], []⟩ .leaf .leaf) (.node 5 (.node 4 ⟨[0, 3, 4, 5, 7, 9, 10, 11, 13], [], []⟩ (.node 2 ⟨[0, 3, 4, 5], [], []⟩ (.node 0 ⟨[], [], []⟩ .leaf .leaf) .leaf) (.node 8 ⟨[0, 3], [], []⟩ (.node 6 ⟨[0, 3, 4, 5, 7, 9, 15], [], []⟩ .leaf .leaf) .leaf)) (.node 4 (.node 2 ⟨[0, 1, 5, 6, 7, 11, 13, 14], [], []⟩ (.node 0 ⟨[], [], []⟩ .leaf .leaf) (.node 4 ⟨[0, 1, 5, 6, 7], [], []⟩ .leaf .leaf)) .leaf .leaf) (.node 6 (.node 4 ⟨[0, 1, 2, 9, 10, 23], [], []⟩ (.node 2 ⟨[0, 1, 2, 7, 8, 9, 10, 14, 15, 17], [], []⟩ (.node 0 ⟨[], [], []⟩ .leaf .leaf) .leaf) (.node 6 ⟨[0, 1, 2, 7, 8, 9], [], []⟩ .leaf .leaf)) .leaf .leaf)) (.node 11 (.node 0 ⟨[], [], []⟩ .leaf .leaf) (.node 8 (.node 2 ⟨[5, 6, 7], [], []⟩ (.node 0 ⟨[], [], []⟩ .leaf .leaf) (.node 4 ⟨[5, 6, 7], [], []⟩ .leaf .leaf)) .leaf .leaf) .leaf)) (.node 15 (.node 2 ⟨[0, 4, 5, 6, 7], [], []⟩ (.node 0 ⟨[5], [], []⟩ .leaf .leaf) (.node 4 ⟨[0, 4, 5, 6, 7], [], []⟩ .leaf .leaf)) (.node 14 (.node 0 ⟨[7], [], []⟩ .leaf .leaf) (.node 13 (.node 2 ⟨[7, 8, 11, 29, 30, 31], [], []⟩ (.node 0 ⟨[7], [], []⟩ .leaf .leaf) .leaf) .leaf .leaf) .leaf) (.node 17 (.node 0 ⟨[6], [], []⟩ .leaf .leaf) (.node 16 (.node 0 ⟨[], [], []⟩ .leaf .leaf) .leaf .leaf) .leaf))) (.node 29 (.node 2 ⟨[], [], []⟩ (.node 0 ⟨[3], [], []⟩ .leaf .leaf) .leaf) (.node 25 (.node 2 ⟨[0, 1, 4, 5, 6, 7, 8], [], []⟩ (.node 0 ⟨[4, 6], [], []⟩ .leaf .leaf) .leaf) (.node 23 (.node 0 ⟨[], [], []⟩ .leaf .leaf) (.node 21 (.node 0 ⟨[4, 7], [], []⟩ .leaf .leaf) .leaf .leaf) (.node 24 (.node 0 ⟨[], [], []⟩ .leaf .leaf) .leaf .leaf)) (.node 28 (.node 0 ⟨[0, 2], [], []⟩ .leaf .leaf) (.node 26 (.node 0 ⟨[], [], []⟩ .leaf .leaf) .leaf .leaf) .leaf)) (.node 36 (.node 0 ⟨[6], [], []⟩ .leaf .leaf) (.node 31 (.node 0 ⟨[3], [], []⟩ .leaf .leaf) (.node 30 (.node 0 ⟨[6, 7], [], []⟩ .leaf .leaf) .leaf .leaf) .leaf) (.node 45 (.node 0 ⟨[2, 5], [], [5]⟩ .leaf .leaf) (.node 39 (.node 0 ⟨[2, 3], [], [3]⟩ .leaf .leaf) .leaf .leaf) .leaf)))) (.node 70 (.node 2 ⟨[0, 1, 5, 6], [], []⟩ (.node 0 ⟨[5], [], []⟩ .leaf .leaf) .leaf) (.node 63 (.node 2 ⟨[0, 3, 4, 5, 6], [], []⟩ (.node 0 ⟨[4], [], []⟩ .leaf .leaf) (.node 4 ⟨[0, 3, 4, 5, 6, 7, 8], [], []⟩ .leaf .leaf)) (.node 59 (.node 0 ⟨[], [], []⟩ .leaf .leaf) (.node 50 (.node 0 ⟨[3], [], []⟩ .leaf .leaf) (.node 49 (.node 2 ⟨[0, 3, 4, 5, 6], [], []⟩ (.node 0 ⟨[3, 4], [], []⟩ .leaf .leaf) (.node 4 ⟨[8], [], []⟩ .leaf .leaf)) .leaf .leaf) (.node 58 (.node 0 ⟨[], [], []⟩ .leaf .leaf) .leaf .leaf)) (.node 61 (.node 0 ⟨[3], [], []⟩ .leaf .leaf) (.node 60 (.node 0 ⟨[5], [], []⟩ .leaf .leaf) .leaf .leaf) .leaf)) (.node 67 (.node 0 ⟨[5], [], []⟩ .leaf .leaf) (.node 66 (.node 0 ⟨[0], [], []⟩ .leaf .leaf) (.node 64 (.node 0 ⟨[0], [], []⟩ .leaf .leaf) .leaf .leaf) .leaf) (.node 69 (.node 2 ⟨[6, 12, 13, 14], [], []⟩ (.node 0 ⟨[3], [], []⟩ .leaf .leaf) (.node 4 ⟨[5, 6, 12, 13, 14, 25, 26, 27], [], []⟩ .leaf .leaf)) (.node 68 (.node 0 ⟨[0, 3], [], []⟩ .leaf .leaf) .leaf .leaf) .leaf))) (.node 84 (.node 2 ⟨[0, 3, 4, 5, 6, 7], [], []⟩ (.node 0 ⟨[], [], []⟩ .leaf .leaf) .leaf) (.node 77 (.node 0 ⟨[7], [], []⟩ .leaf .leaf) (.node 73 (.node 2 ⟨[0, 3, 4, 5, 6], [], []⟩ (.node 0 ⟨[4], [], []⟩ .leaf .leaf) (.node 4 ⟨[0, 3, 4, 5], [], []⟩ .leaf .leaf)) (.node 72 (.node 4 ⟨[3, 4, 6, 7, 16, 17, 18], [], []⟩ (.node 2 ⟨[3, 4, 5, 6, 7, 16, 17, 18], [], []⟩ (.node 0 ⟨[4], [], []⟩ .leaf .leaf) .leaf) (.node 6 ⟨[3, 4, 16, 17, 18], [], []⟩ .leaf .leaf)) .leaf .leaf) (.node 75 (.node 0 ⟨[], [], []⟩ .leaf .leaf) .leaf .leaf)) (.node 83 (.node 0 ⟨[3], [], []⟩ .leaf .leaf) (.node 82 (.node 0 ⟨[3, 4], [], []⟩ .leaf .leaf) .leaf .leaf) .leaf)) (.node 92 (.node 1 ⟨[0, 1, 2, 3, 7, 15, 16, 17], [], []⟩ (.node 0 ⟨[7], [], []⟩ .leaf .leaf) .leaf) (.node 91 (.node 0 ⟨[], [], []⟩ .leaf .leaf) (.node 85 (.node 0 ⟨[4, 5], [], []⟩ .leaf .leaf) .leaf .leaf) .leaf) (.node 95 (.node 0 ⟨[], [], []⟩ .leaf .leaf) (.node 94 (.node 0 ⟨[0, 1, 4, 5], [], []⟩ .leaf .leaf) .leaf .leaf) .leaf)))))

noncomputable def aeXPol (f b : Nat) : Option Pol := match tget aeXPolT f with
  | some t => tget t b
  | none => none

noncomputable def aePlanT : Tab (Tab Plan) :=
  (.node 45 (.node 10 ⟨[⟨0, false, [], false, none⟩, ⟨1, false, [], false, none⟩, ⟨2, false, [], false, none⟩, ⟨3, false, [], false, none⟩, ⟨4, false, [], false, none⟩, ⟨5, false, [], false, none⟩, ⟨6, false, [], false, none⟩, ⟨7, true, [], false, none⟩, ⟨8, false, [], false, none⟩], [[], [0], [0, 1], [], [3], [0, 1, 2, 3, 4], [0, 1, 2, 3, 4, 5], [0, 1, 2, 3, 4, 5, 6], [0, 1, 2, 3, 4, 5, 6, 7]]⟩ .leaf .leaf) (.node 16 (.node 6 ⟨[⟨0, false, [], false, none⟩, ⟨1, false, [], false, none⟩, ⟨2, false, [], false, none⟩, ⟨3, false, [], false, none⟩, ⟨4, false, [], false, none⟩, ⟨5, false, [], false, none⟩, ⟨6, false, [], false, none⟩, ⟨7, false, [], false, none⟩, ⟨8, false, [], false, none⟩, ⟨9, false, [], false, none⟩], [[], [], [0, 1], [0, 1, 2], [], [], [4, 5], [4, 5, 6], [0, 1, 2, 3, 4, 5, 6, 7], [0, 1, 2, 3, 4, 5, 6, 7, 8]]⟩ .leaf .leaf) (.node 7 (.node 14 ⟨[⟨0, false, [], false, none⟩, ⟨1, false, [], false, none⟩, ⟨2, false, [], false, none⟩, ⟨3, false, [], false, none⟩, ⟨4, false, [], false, none⟩, ⟨5, false, [], false, none⟩], [[], [0], [], [2], [0, 1], [0, 1, 2, 3, 4]]⟩ .leaf .leaf) (.node 5 (.node 40 ⟨[⟨0, false, [], false, none⟩, ⟨1, false, [], false, none⟩, ⟨2, false, [], false, none⟩, ⟨3, false, [], false, none⟩, ⟨4, false, [], false, none⟩, ⟨5, false, [], false, none⟩, ⟨6, false, [], false, none⟩, ⟨7, false, [], false, none⟩, ⟨8, false, [], false, none⟩, ⟨9, false, [], false, none⟩, ⟨10, false, [], false, none⟩, ⟨11, false, [], false, none⟩, ⟨12, false, [], false, none⟩, ⟨13, false, [], false, none⟩, ⟨14, false, [], false, none⟩, ⟨15, false, [], false, none⟩], [[], [], [0, 1], [0, 1, 2], [0, 1, 2, 3], [0, 1, 2, 3, 4], [0, 1, 2, 3, 4, 5], [0, 1, 2, 3, 4, 5, 6], [0, 1, 2, 3, 4, 5, 6, 7], [0, 1, 2, 3], [0, 1, 2, 3], [0, 1, 2, 3, 9, 10], [0, 1, 2, 3, 9, 10, 11], [0, 1, 2, 3, 9, 10, 11, 12], [0, 1, 2, 3, 4, 5, 6, 7, 8, 9, 10, 11, 12, 13], [0, 1, 2, 3, 4, 5, 6, 7, 8, 9, 10, 11, 12, 13, 14]]⟩ (.node 37 ⟨[⟨0, false, [], false, none⟩, ⟨1, false, [], false, none⟩, ⟨2, false, [], false, none⟩, ⟨3, false, [], false, none⟩, ⟨4, false, [], false, none⟩, ⟨5, false, [], false, none⟩, ⟨6, false, [], false, none⟩, ⟨7, false, [], false, none⟩, ⟨8, false, [], false, none⟩, ⟨9, false, [], false, none⟩, ⟨10, false, [], false, none⟩, ⟨11, false, [], false, none⟩, ⟨12, false, [], false, none⟩, ⟨13, false, [], false, none⟩], [[], [], [0, 1], [0, 1, 2], [0, 1, 2, 3], [0, 1, 2, 3, 4], [], [], [7], [6, 7, 8], [6, 7, 8, 9], [], [6, 7, 8, 9, 10, 11], [0, 1, 2, 3, 4, 5, 6, 7, 8, 9, 10, 11, 12]]⟩ .leaf .leaf) .leaf) (.node 4 (.node 18 ⟨[⟨0, false, [], false, none⟩, ⟨1, false, [], false, none⟩, ⟨2, false, [], false, none⟩, ⟨3, false, [], false, none⟩, ⟨4, false, [], false, none⟩, ⟨5, false, [], false, none⟩, ⟨6, false, [], false, none⟩, ⟨7, false, [], false, none⟩], [[], [0], [0, 1], [], [3], [3, 4], [0, 1, 2, 3, 4, 5], [0, 1, 2, 3, 4, 5, 6]]⟩ .leaf .leaf) .leaf .leaf) (.node 6 (.node 30 ⟨[⟨0, false, [], false, none⟩, ⟨1, false, [], false, none⟩, ⟨2, false, [], false, none⟩, ⟨3, false, [], false, none⟩, ⟨4, false, [], false, none⟩, ⟨5, false, [], false, none⟩, ⟨6, false, [], false, none⟩, ⟨7, false, [], false, none⟩, ⟨8, false, [], false, none⟩, ⟨9, false, [], false, none⟩, ⟨10, false, [], false, none⟩, ⟨11, false, [], false, none⟩, ⟨12, false, [], false, none⟩, ⟨13, false, [], false, none⟩, ⟨14, false, [], false, none⟩, ⟨15, false, [], false, none⟩, ⟨16, false, [], false, none⟩, ⟨17, false, [], false, none⟩, ⟨18, false, [], false, none⟩, ⟨19, false, [], false, none⟩, ⟨20, false, [], false, none⟩], [[], [], [], [1, 2], [1, 2, 3], [1, 2, 3, 4], [], [], [6, 7], [6, 7, 8], [], [], [10, 11], [10, 11, 12], [6, 7, 8, 9, 10, 11, 12, 13], [6, 7, 8, 9, 10, 11, 12, 13, 14], [6, 7, 8, 9, 10, 11, 12, 13, 14, 15], [1, 2, 3, 4, 5, 6, 7, 8, 9, 10, 11, 12, 13, 14, 15, 16], [1, 2, 3, 4, 5, 6, 7, 8, 9, 10, 11, 12, 13, 14, 15, 16, 17], [0, 1, 2, 3, 4, 5, 6, 7, 8, 9, 10, 11, 12, 13, 14, 15, 16, 17, 18], [0, 1, 2, 3, 4, 5, 6, 7, 8, 9, 10, 11, 12, 13, 14, 15, 16, 17, 18, 19]]⟩ .leaf .leaf) .leaf .leaf)) (.node 14 (.node 11 ⟨[⟨0, false, [], false, none⟩, ⟨1, false, [], false, none⟩, ⟨2, false, [], false, none⟩, ⟨3, false, [], false, none⟩, ⟨4, false, [], false, none⟩, ⟨5, false, [], false, none⟩, ⟨6, false, [], false, none⟩, ⟨7, false, [], false, none⟩, ⟨8, false, [], false, none⟩, ⟨9, false, [], false, none⟩, ⟨10, false, [], false, none⟩, ⟨11, false, [], false, none⟩, ⟨12, false, [], false, none⟩, ⟨13, false, [], false, none⟩, ⟨14, false, [], false, none⟩, ⟨15, false, [], false, none⟩], [[], [], [0, 1], [0, 1, 2], [0, 1, 2, 3], [0, 1, 2, 3, 4], [0, 1, 2, 3, 4, 5], [], [], [8], [7, 8, 9], [7, 8, 9, 10], [7, 8, 9, 10, 11], [7, 8, 9, 10, 11, 12], [7, 8, 9, 10, 11, 12, 13], [0, 1, 2, 3, 4, 5, 6, 7, 8, 9, 10, 11, 12, 13, 14]]⟩ (.node 5 ⟨[⟨0, false, [], false, none⟩, ⟨1, false, [], false, none⟩, ⟨2, false, [], false, none⟩, ⟨3, false, [], false, none⟩, ⟨4, false, [], false, none⟩, ⟨5, false, [], false, none⟩, ⟨6, false, [], false, none⟩, ⟨7, false, [], false, none⟩, ⟨8, false, [], false, none⟩, ⟨9, false, [], false, none⟩, ⟨10, false, [], false, none⟩, ⟨11, false, [], false, none⟩, ⟨12, false, [], false, none⟩], [[], [0], [0, 1], [0, 1, 2], [0, 1, 2], [0, 1, 2, 4], [0, 1, 2, 4, 5], [0, 1, 2, 3, 4, 5, 6], [0, 1, 2, 3, 4, 5, 6, 7], [0, 1, 2, 3, 4, 5, 6, 7, 8], [0, 1, 2], [0, 1, 2, 3, 4, 5, 6, 7, 8, 9, 10], [0, 1, 2, 3, 4, 5, 6, 7, 8, 9, 10, 11]]⟩ .leaf .leaf) .leaf) (.node 8 (.node 13 ⟨[⟨0, false, [], false, none⟩, ⟨1, false, [], false, none⟩, ⟨2, false, [], false, none⟩, ⟨3, false, [], false, none⟩, ⟨4, false, [], false, none⟩, ⟨5, false, [], false, none⟩, ⟨6, false, [], false, none⟩, ⟨7, false, [], false, none⟩, ⟨8, false, [], false, none⟩, ⟨9, false, [], false, none⟩, ⟨10, false, [], false, none⟩, ⟨11, false, [], false, none⟩, ⟨12, false, [], false, none⟩, ⟨13, false, [], false, none⟩], [[], [], [1], [1, 2], [1, 2, 3], [0, 1, 2, 3, 4], [], [], [7], [7, 8], [7, 8, 9], [6, 7, 8, 9, 10], [0, 1, 2, 3, 4, 5], [0, 1, 2, 3, 4, 5, 6, 7, 8, 9, 10, 11, 12]]⟩ .leaf .leaf) .leaf .leaf) (.node 15 (.node 15 ⟨[⟨8, true, [], false, none⟩, ⟨0, false, [8], false, none⟩, ⟨1, false, [8], false, none⟩, ⟨2, false, [8], false, none⟩, ⟨3, false, [8], false, none⟩, ⟨4, false, [8], false, none⟩, ⟨5, false, [8], false, none⟩, ⟨6, false, [8], false, none⟩, ⟨7, false, [8], false, none⟩, ⟨9, true, [], false, none⟩], [[], [0], [0, 1], [], [3], [3, 4], [3, 4, 5], [0, 1, 2, 3, 4, 5, 6], [], [0, 1, 2, 3, 4, 5, 6, 7, 8]]⟩ (.node 12 ⟨[⟨0, false, [], false, none⟩, ⟨1, false, [], false, none⟩, ⟨2, false, [], false, none⟩, ⟨3, false, [], false, none⟩, ⟨4, false, [], false, none⟩, ⟨5, false, [], false, none⟩, ⟨6, false, [], false, none⟩, ⟨7, false, [], false, none⟩, ⟨8, false, [], false, none⟩, ⟨9, false, [], false, none⟩, ⟨10, false, [], false, none⟩, ⟨11, false, [], false, none⟩], [[], [], [1], [0, 1, 2], [0, 1, 2, 3], [], [], [6], [5, 6, 7], [5, 6, 7, 8], [0, 1, 2, 3, 4], [0, 1, 2, 3, 4, 5, 6, 7, 8, 9, 10]]⟩ .leaf .leaf) (.node 21 ⟨[⟨0, false, [], false, none⟩, ⟨1, false, [], false, none⟩, ⟨2, false, [], false, none⟩, ⟨3, false, [], false, none⟩, ⟨4, false, [], false, none⟩, ⟨5, false, [], false, none⟩, ⟨6, false, [], false, none⟩, ⟨7, false, [], false, none⟩, ⟨8, false, [], false, none⟩, ⟨9, false, [], false, none⟩, ⟨10, true, [], false, none⟩], [[], [], [], [], [2, 3], [2, 3, 4], [], [2, 3, 4, 5, 6], [1, 2, 3, 4, 5, 6, 7], [0, 1, 2, 3, 4, 5, 6, 7, 8], [0, 1, 2, 3, 4, 5, 6, 7, 8, 9]]⟩ .leaf .leaf)) .leaf .leaf))) (.node 26 (.node 6 ⟨[⟨0, false, [], false, none⟩, ⟨1, false, [], false, none⟩, ⟨2, false, [], false, none⟩, ⟨3, false, [], false, none⟩, ⟨4, false, [], false, none⟩, ⟨5, false, [], false, none⟩, ⟨6, false, [], false, none⟩, ⟨7, false, [], false, none⟩, ⟨8, false, [], false, none⟩], [[], [], [0, 1], [0, 1, 2], [], [], [4, 5], [4, 5, 6], [0, 1, 2, 3, 4, 5, 6, 7]]⟩ .leaf .leaf) (.node 20 (.node 6 ⟨[⟨0, false, [], false, none⟩, ⟨1, false, [], false, none⟩, ⟨2, false, [], false, none⟩, ⟨3, false, [], false, none⟩, ⟨4, false, [], false, none⟩, ⟨5, false, [], false, none⟩, ⟨6, false, [], false, none⟩, ⟨7, false, [], false, none⟩, ⟨8, false, [], false, none⟩], [[], [], [0, 1], [0, 1, 2], [], [], [4, 5], [4, 5, 6], [0, 1, 2, 3, 4, 5, 6, 7]]⟩ .leaf .leaf) (.node 17 (.node 8 ⟨[⟨0, false, [], false, none⟩, ⟨1, false, [], false, none⟩, ⟨2, false, [], false, none⟩, ⟨3, false, [], false, none⟩, ⟨4, false, [], false, none⟩, ⟨5, false, [], false, none⟩, ⟨6, false, [], false, none⟩, ⟨7, false, [], false, none⟩, ⟨8, false, [], false, none⟩, ⟨9, false, [], false, none⟩, ⟨10, false, [], false, none⟩, ⟨11, false, [], false, none⟩, ⟨12, false, [], false, none⟩, ⟨13, false, [], false, none⟩, ⟨14, false, [], false, none⟩, ⟨15, false, [], false, none⟩, ⟨16, false, [], false, none⟩, ⟨17, false, [], false, none⟩], [[], [], [0, 1], [0, 1, 2], [0, 1, 2, 3], [0, 1, 2, 3, 4], [0, 1, 2, 3, 4, 5], [0, 1, 2, 3, 4, 5, 6], [], [], [9], [8, 9, 10], [8, 9, 10, 11], [8, 9, 10, 11, 12], [8, 9, 10, 11, 12, 13], [8, 9, 10, 11, 12, 13, 14], [8, 9, 10, 11, 12, 13, 14, 15], [0, 1, 2, 3, 4, 5, 6, 7, 8, 9, 10, 11, 12, 13, 14, 15, 16]]⟩ .leaf .leaf) .leaf .leaf) (.node 24 (.node 8 ⟨[⟨0, false, [], false, none⟩, ⟨1, false, [], false, none⟩, ⟨2, false, [], false, none⟩, ⟨3, false, [], false, none⟩, ⟨4, false, [], false, none⟩, ⟨5, false, [], false, none⟩, ⟨6, false, [], false, none⟩, ⟨7, false, [], false, none⟩, ⟨8, false, [], false, none⟩], [[], [], [0, 1], [0, 1, 2], [], [], [4, 5], [4, 5, 6], [0, 1, 2, 3, 4, 5, 6, 7]]⟩ .leaf .leaf) .leaf .leaf)) (.node 35 (.node 2 ⟨[⟨0, false, [], false, none⟩, ⟨1, false, [], false, none⟩, ⟨2, false, [], false, none⟩, ⟨3, false, [], false, none⟩, ⟨4, false, [], false, none⟩, ⟨5, false, [], false, none⟩, ⟨6, false, [], false, none⟩, ⟨7, true, [], false, none⟩], [[], [], [0, 1], [], [], [3, 4], [0, 1, 2, 3, 4, 5], [0, 1, 2, 3, 4, 5, 6]]⟩ .leaf .leaf) (.node 28 (.node 4 ⟨[⟨0, false, [], false, none⟩, ⟨1, false, [], false, none⟩, ⟨2, false, [], false, none⟩, ⟨3, false, [], false, none⟩, ⟨4, false, [], false, none⟩, ⟨5, false, [], false, none⟩, ⟨6, false, [], false, none⟩, ⟨7, false, [], false, none⟩, ⟨8, false, [], false, none⟩, ⟨9, false, [], false, none⟩, ⟨10, false, [], false, none⟩, ⟨11, false, [], false, none⟩, ⟨12, false, [], false, none⟩, ⟨13, false, [], false, none⟩, ⟨14, false, [], false, none⟩, ⟨15, false, [], false, none⟩, ⟨16, false, [], false, none⟩, ⟨17, false, [], false, none⟩, ⟨18, false, [], false, none⟩, ⟨19, false, [], false, none⟩], [[], [], [0, 1], [0, 1, 2], [], [], [4, 5], [4, 5, 6], [0, 1, 2, 3, 4, 5, 6, 7], [0, 1, 2, 3, 4, 5, 6, 7, 8], [0, 1, 2, 3, 4, 5, 6, 7, 8, 9], [0, 1, 2, 3, 4, 5, 6, 7, 8, 9], [0, 1, 2, 3, 4, 5, 6, 7, 8, 9, 10, 11], [0, 1, 2, 3, 4, 5, 6, 7, 8, 9, 10, 11, 12], [0, 1, 2, 3, 4, 5, 6, 7, 8, 9], [0, 1, 2, 3, 4, 5, 6, 7, 8, 9], [0, 1, 2, 3, 4, 5, 6, 7, 8, 9, 14, 15], [0, 1, 2, 3, 4, 5, 6, 7, 8, 9, 14, 15, 16], [0, 1, 2, 3, 4, 5, 6, 7, 8, 9, 10, 11, 12, 13, 14, 15, 16, 17], [0, 1, 2, 3, 4, 5, 6, 7, 8, 9, 10, 11, 12, 13, 14, 15, 16, 17, 18]]⟩ .leaf .leaf) .leaf .leaf) (.node 39 (.node 7 ⟨[⟨0, false, [], false, none⟩, ⟨1, false, [], false, none⟩, ⟨2, false, [], false, none⟩, ⟨3, false, [], false, none⟩, ⟨4, false, [], false, none⟩, ⟨5, false, [], false, none⟩, ⟨6, false, [], false, none⟩, ⟨7, true, [], false, none⟩], [[], [0], [0, 1], [], [3], [0, 1, 2, 3, 4], [0, 1, 2, 3, 4, 5], [0, 1, 2, 3, 4, 5, 6]]⟩ .leaf .leaf) .leaf .leaf)))) (.node 73 (.node 16 ⟨[⟨0, false, [], false, none⟩, ⟨1, false, [], false, none⟩, ⟨2, false, [], false, none⟩, ⟨3, false, [], false, none⟩, ⟨4, false, [], false, none⟩, ⟨5, false, [], false, none⟩, ⟨6, false, [], false, none⟩, ⟨7, false, [], false, none⟩, ⟨8, false, [], false, none⟩, ⟨9, false, [], false, none⟩, ⟨10, false, [], false, none⟩, ⟨11, false, [], false, none⟩, ⟨12, false, [], false, none⟩, ⟨13, false, [], false, none⟩, ⟨14, false, [], false, none⟩, ⟨15, false, [], false, none⟩, ⟨16, false, [], false, none⟩, ⟨17, true, [], false, none⟩], [[], [], [], [], [2, 3], [2, 3, 4], [], [], [6, 7], [6, 7, 8], [], [], [10, 11], [10, 11, 12], [6, 7, 8, 9, 10, 11, 12, 13], [2, 3, 4, 5, 6, 7, 8, 9, 10, 11, 12, 13, 14], [0, 1, 2, 3, 4, 5, 6, 7, 8, 9, 10, 11, 12, 13, 14, 15], [0, 1, 2, 3, 4, 5, 6, 7, 8, 9, 10, 11, 12, 13, 14, 15, 16]]⟩ .leaf .leaf) (.node 57 (.node 2 ⟨[⟨0, false, [], false, none⟩, ⟨1, false, [], false, none⟩, ⟨2, false, [], false, none⟩, ⟨3, false, [], false, none⟩, ⟨4, false, [], false, none⟩, ⟨5, false, [], false, none⟩, ⟨6, false, [], false, none⟩, ⟨7, false, [], false, none⟩, ⟨8, false, [], false, none⟩, ⟨9, false, [], false, none⟩, ⟨10, false, [], false, none⟩, ⟨11, false, [], false, none⟩, ⟨12, false, [], false, none⟩, ⟨13, false, [], false, none⟩, ⟨14, false, [], false, none⟩, ⟨15, false, [], false, none⟩, ⟨16, false, [], false, none⟩, ⟨17, false, [], false, none⟩, ⟨18, false, [], false, none⟩, ⟨19, false, [], false, none⟩, ⟨20, false, [], false, none⟩, ⟨21, false, [], false, none⟩, ⟨22, false, [], false, none⟩, ⟨23, true, [], false, none⟩], [[], [0], [], [2], [], [2, 3, 4], [0, 1, 2, 3, 4, 5], [], [7], [], [9], [], [9, 10, 11], [7, 8, 9, 10, 11, 12], [0, 1, 2, 3, 4, 5, 6, 7, 8, 9, 10, 11, 12, 13], [], [15], [], [15, 16, 17], [], [19], [15, 16, 17, 18, 19, 20], [0, 1, 2, 3, 4, 5, 6, 7, 8, 9, 10, 11, 12, 13, 14, 15, 16, 17, 18, 19, 20, 21], [0, 1, 2, 3, 4, 5, 6, 7, 8, 9, 10, 11, 12, 13, 14, 15, 16, 17, 18, 19, 20, 21, 22]]⟩ .leaf .leaf) (.node 54 (.node 8 ⟨[⟨0, false, [], false, none⟩, ⟨6, true, [], false, none⟩, ⟨1, false, [6], false, none⟩, ⟨2, false, [6], false, none⟩, ⟨3, false, [6], false, none⟩, ⟨4, false, [6], false, none⟩, ⟨5, false, [6], false, none⟩, ⟨7, true, [], false, none⟩], [[], [], [1], [], [3], [1, 2, 3, 4], [0], [0, 1, 2, 3, 4, 5, 6]]⟩ .leaf .leaf) (.node 48 (.node 6 ⟨[⟨0, false, [], false, none⟩, ⟨1, false, [], false, none⟩, ⟨2, false, [], false, none⟩, ⟨3, false, [], false, none⟩, ⟨4, false, [], false, none⟩, ⟨5, false, [], false, none⟩, ⟨6, false, [], false, none⟩, ⟨7, false, [], false, none⟩, ⟨8, false, [], false, none⟩], [[], [], [0, 1], [0, 1, 2], [], [], [4, 5], [4, 5, 6], [0, 1, 2, 3, 4, 5, 6, 7]]⟩ .leaf .leaf) .leaf .leaf) (.node 55 (.node 2 ⟨[⟨0, false, [], false, none⟩, ⟨1, false, [], false, none⟩, ⟨2, false, [], false, none⟩, ⟨3, false, [], false, none⟩, ⟨4, false, [], false, none⟩, ⟨5, false, [], false, none⟩, ⟨6, false, [], false, none⟩, ⟨7, false, [], false, none⟩, ⟨8, false, [], false, none⟩, ⟨9, false, [], false, none⟩, ⟨10, false, [], false, none⟩, ⟨11, false, [], false, none⟩, ⟨12, false, [], false, none⟩, ⟨13, false, [], false, none⟩, ⟨14, false, [], false, none⟩, ⟨15, false, [], false, none⟩, ⟨16, false, [], false, none⟩, ⟨17, false, [], false, none⟩, ⟨18, false, [], false, none⟩, ⟨19, true, [], false, none⟩], [[], [0], [], [0, 1, 2], [], [4], [], [4, 5, 6], [0, 1, 2, 3, 4, 5, 6, 7], [], [9], [], [9, 10, 11], [], [13], [], [13, 14, 15], [9, 10, 11, 12, 13, 14, 15, 16], [0, 1, 2, 3, 4, 5, 6, 7, 8, 9, 10, 11, 12, 13, 14, 15, 16, 17], [0, 1, 2, 3, 4, 5, 6, 7, 8, 9, 10, 11, 12, 13, 14, 15, 16, 17, 18]]⟩ (.node 1 ⟨[⟨0, false, [], false, none⟩, ⟨1, false, [], false, none⟩, ⟨2, false, [], false, none⟩, ⟨3, false, [], false, none⟩, ⟨4, false, [], false, none⟩, ⟨5, false, [], false, none⟩, ⟨6, false, [], false, none⟩, ⟨7, false, [], false, none⟩, ⟨8, false, [], false, none⟩, ⟨9, false, [], false, none⟩, ⟨10, false, [], false, none⟩, ⟨11, false, [], false, none⟩], [[], [0], [], [2], [0, 1, 2, 3], [], [5], [], [7], [0, 1, 2, 3, 4, 5, 6, 7, 8], [0, 1, 2, 3, 4, 5, 6, 7, 8, 9], [0, 1, 2, 3, 4, 5, 6, 7, 8, 9, 10]]⟩ .leaf .leaf) .leaf) .leaf .leaf)) (.node 64 (.node 2 ⟨[⟨0, false, [], false, none⟩, ⟨1, false, [], false, none⟩, ⟨2, false, [], false, none⟩, ⟨3, false, [], false, none⟩, ⟨4, false, [], false, none⟩, ⟨5, false, [], false, none⟩], [[], [], [], [1, 2], [0, 1], [0, 1, 2, 3, 4]]⟩ .leaf .leaf) (.node 58 (.node 6 ⟨[⟨0, false, [], false, none⟩, ⟨1, false, [], false, none⟩, ⟨2, false, [], false, none⟩, ⟨3, false, [], false, none⟩, ⟨4, false, [], false, none⟩, ⟨5, false, [], false, none⟩, ⟨6, false, [], false, none⟩, ⟨7, false, [], false, none⟩, ⟨8, false, [], false, none⟩], [[], [], [0, 1], [0, 1, 2], [], [], [4, 5], [4, 5, 6], [0, 1, 2, 3, 4, 5, 6, 7]]⟩ .leaf .leaf) .leaf .leaf) (.node 70 (.node 8 ⟨[⟨0, false, [], false, none⟩, ⟨1, false, [], false, none⟩, ⟨2, false, [], false, none⟩, ⟨3, false, [], false, none⟩, ⟨4, false, [], false, none⟩, ⟨5, false, [], false, none⟩, ⟨6, false, [], false, none⟩, ⟨7, false, [], false, none⟩, ⟨8, false, [], false, none⟩, ⟨9, false, [], false, none⟩, ⟨10, false, [], false, none⟩, ⟨11, false, [], false, none⟩, ⟨12, false, [], false, none⟩, ⟨13, false, [], false, none⟩, ⟨14, false, [], false, none⟩, ⟨15, false, [], false, none⟩, ⟨16, false, [], false, none⟩, ⟨17, false, [], false, none⟩, ⟨18, false, [], false, none⟩, ⟨19, false, [], false, none⟩, ⟨20, false, [], false, none⟩, ⟨21, true, [], false, none⟩], [[], [], [], [1, 2], [], [], [], [5, 6], [4, 5, 6, 7], [4, 5, 6, 7, 8], [], [], [10, 11], [10, 11, 12], [], [], [14, 15], [14, 15, 16], [10, 11, 12, 13, 14, 15, 16, 17], [4, 5, 6, 7, 8, 9, 10, 11, 12, 13, 14, 15, 16, 17, 18], [0, 1, 2, 3, 4, 5, 6, 7, 8, 9, 10, 11, 12, 13, 14, 15, 16, 17, 18, 19], [0, 1, 2, 3, 4, 5, 6, 7, 8, 9, 10, 11, 12, 13, 14, 15, 16, 17, 18, 19, 20]]⟩ .leaf .leaf) .leaf .leaf))) (.node 86 (.node 1 ⟨[⟨11, true, [], false, none⟩, ⟨0, false, [11], false, none⟩, ⟨1, false, [11], false, none⟩, ⟨2, false, [11], false, none⟩, ⟨3, false, [11], false, none⟩, ⟨4, false, [11], false, none⟩, ⟨5, false, [11], false, none⟩, ⟨6, false, [11], false, none⟩, ⟨7, false, [11], false, none⟩, ⟨8, false, [11], false, none⟩, ⟨9, false, [11], false, none⟩, ⟨10, false, [11], true, none⟩, ⟨12, true, [], false, some 10⟩, ⟨13, true, [], false, none⟩], [[], [0], [], [2], [0, 1, 2, 3], [], [5], [], [7], [0, 1, 2, 3, 4, 5, 6, 7, 8], [], [], [0, 1, 2, 3, 4, 5, 6, 7, 8, 9, 10, 11], [0, 1, 2, 3, 4, 5, 6, 7, 8, 9, 10, 11, 12]]⟩ .leaf .leaf) (.node 77 (.node 8 ⟨[⟨0, false, [], false, none⟩, ⟨1, false, [], false, none⟩, ⟨2, false, [], false, none⟩, ⟨3, false, [], false, none⟩, ⟨4, false, [], false, none⟩, ⟨5, false, [], false, none⟩, ⟨6, false, [], false, none⟩, ⟨7, false, [], false, none⟩, ⟨8, false, [], false, none⟩, ⟨9, false, [], false, none⟩, ⟨10, false, [], false, none⟩, ⟨11, false, [], false, none⟩, ⟨12, false, [], false, none⟩, ⟨13, false, [], false, none⟩, ⟨14, false, [], false, none⟩, ⟨15, false, [], false, none⟩, ⟨16, false, [], false, none⟩, ⟨17, false, [], false, none⟩, ⟨18, false, [], false, none⟩, ⟨19, false, [], false, none⟩, ⟨20, false, [], false, none⟩], [[], [], [], [], [2, 3], [2, 3, 4], [], [2, 3, 4, 5, 6], [2, 3, 4, 5, 6, 7], [1, 2, 3, 4, 5, 6, 7, 8], [], [], [11], [], [], [14], [13, 14, 15], [10, 11, 12, 13, 14, 15, 16], [1, 2, 3, 4, 5, 6, 7, 8, 9, 10, 11, 12, 13, 14, 15, 16, 17], [0, 1, 2, 3, 4, 5, 6, 7, 8, 9, 10, 11, 12, 13, 14, 15, 16, 17, 18], [0, 1, 2, 3, 4, 5, 6, 7, 8, 9, 10, 11, 12, 13, 14, 15, 16, 17, 18, 19]]⟩ .leaf .leaf) (.node 75 (.node 3 ⟨[⟨0, false, [], false, none⟩, ⟨1, false, [], false, none⟩, ⟨4, false, [], false, none⟩, ⟨5, false, [], false, none⟩, ⟨6, false, [], false, none⟩, ⟨7, false, [], false, none⟩, ⟨8, false, [], false, none⟩, ⟨9, false, [], false, none⟩, ⟨10, false, [], false, none⟩, ⟨11, false, [], false, none⟩, ⟨12, false, [], false, none⟩, ⟨13, true, [], false, none⟩, ⟨2, false, [13], false, none⟩, ⟨3, false, [13], false, none⟩, ⟨14, false, [], false, none⟩, ⟨15, true, [], false, none⟩], [[], [], [], [], [], [], [4, 5], [4, 5, 6], [], [], [8, 9], [8, 9, 10], [0, 1, 4, 5, 6, 7, 8, 9, 10, 11], [0, 1, 4, 5, 6, 7, 8, 9, 10, 11, 12], [0, 1, 2, 3, 4, 5, 6, 7, 8, 9, 10, 11, 12, 13], [0, 1, 2, 3, 4, 5, 6, 7, 8, 9, 10, 11, 12, 13, 14]]⟩ .leaf .leaf) .leaf .leaf) (.node 84 (.node 13 ⟨[⟨0, false, [], false, none⟩, ⟨1, false, [], false, none⟩, ⟨2, false, [], false, none⟩, ⟨3, false, [], false, none⟩, ⟨4, false, [], false, none⟩, ⟨5, false, [], false, none⟩, ⟨6, false, [], false, none⟩, ⟨7, false, [], false, none⟩, ⟨8, false, [], false, none⟩, ⟨9, false, [], false, none⟩, ⟨10, false, [], false, none⟩, ⟨11, false, [], false, none⟩, ⟨12, false, [], false, none⟩, ⟨13, true, [], false, none⟩], [[], [], [1], [1, 2], [1, 2, 3], [], [5], [5, 6], [5, 6, 7], [], [5, 6, 7, 8, 9], [1, 2, 3, 4, 5, 6, 7, 8, 9, 10], [0, 1, 2, 3, 4, 5, 6, 7, 8, 9, 10, 11], [0, 1, 2, 3, 4, 5, 6, 7, 8, 9, 10, 11, 12]]⟩ (.node 9 ⟨[⟨6, true, [], false, none⟩, ⟨0, false, [6], false, none⟩, ⟨1, false, [6], false, none⟩, ⟨2, false, [6], false, none⟩, ⟨3, false, [6], false, none⟩, ⟨4, false, [6], false, none⟩, ⟨5, false, [6], false, none⟩, ⟨7, true, [], false, none⟩], [[], [0], [], [2], [2, 3], [0, 1, 2, 3, 4], [], [0, 1, 2, 3, 4, 5, 6]]⟩ (.node 1 ⟨[⟨8, true, [], false, none⟩, ⟨0, false, [8], false, none⟩, ⟨1, false, [8], false, none⟩, ⟨2, false, [8], false, none⟩, ⟨3, false, [8], false, none⟩, ⟨4, false, [8], false, none⟩, ⟨5, false, [8], false, none⟩, ⟨6, false, [8], false, none⟩, ⟨7, false, [8], true, none⟩, ⟨9, true, [], false, some 7⟩, ⟨10, true, [], false, none⟩], [[], [], [0, 1], [], [], [4], [0, 1, 2, 3, 4, 5], [], [], [0, 1, 2, 3, 4, 5, 6, 7, 8], [0, 1, 2, 3, 4, 5, 6, 7, 8, 9]]⟩ .leaf .leaf) .leaf) (.node 16 ⟨[⟨0, false, [], false, none⟩, ⟨2, true, [], false, none⟩, ⟨1, false, [2], false, none⟩, ⟨3, true, [], false, none⟩], [[], [], [0], [0, 1, 2]]⟩ .leaf .leaf)) .leaf .leaf)) (.node 93 (.node 5 ⟨[⟨0, false, [], false, none⟩, ⟨1, false, [], false, none⟩, ⟨2, false, [], false, none⟩, ⟨3, false, [], false, none⟩, ⟨4, false, [], false, none⟩, ⟨5, false, [], false, none⟩, ⟨6, true, [], false, none⟩, ⟨7, false, [], false, none⟩], [[], [], [0, 1], [], [], [3, 4], [0, 1, 2, 3, 4, 5], [0, 1, 2, 3, 4, 5, 6]]⟩ .leaf .leaf) (.node 92 (.node 9 ⟨[⟨7, false, [], false, none⟩, ⟨8, false, [], false, none⟩, ⟨9, false, [], false, none⟩, ⟨10, false, [], false, none⟩, ⟨11, true, [], false, none⟩, ⟨0, false, [11], false, none⟩, ⟨1, false, [11], false, none⟩, ⟨2, false, [11], false, none⟩, ⟨3, false, [11], false, none⟩, ⟨4, false, [11], false, none⟩, ⟨5, false, [11], false, none⟩, ⟨6, false, [11], false, none⟩, ⟨12, false, [], false, none⟩, ⟨13, false, [], false, none⟩], [[], [], [0, 1], [0, 1, 2], [], [0, 1, 2, 3, 4], [0, 1, 2, 3, 4, 5], [], [], [8], [], [7, 8, 9, 10], [0, 1, 2, 3, 4, 5, 6, 7, 8, 9, 10, 11], [0, 1, 2, 3, 4, 5, 6, 7, 8, 9, 10, 11, 12]]⟩ .leaf .leaf) .leaf .leaf) (.node 94 (.node 7 ⟨[⟨0, false, [], false, none⟩, ⟨1, false, [], false, none⟩, ⟨2, false, [], false, none⟩, ⟨3, false, [], false, none⟩, ⟨4, false, [], false, none⟩, ⟨5, false, [], false, none⟩, ⟨6, false, [], false, none⟩, ⟨7, true, [], false, none⟩], [[], [], [0, 1], [], [], [3, 4], [0, 1, 2, 3, 4, 5], [0, 1, 2, 3, 4, 5, 6]]⟩ (.node 3 ⟨[⟨0, false, [], false, none⟩, ⟨1, false, [], false, none⟩, ⟨2, false, [], false, none⟩, ⟨3, false, [], false, none⟩, ⟨4, false, [], false, none⟩, ⟨5, false, [], false, none⟩], [[], [], [], [1, 2], [0, 1], [0, 1, 2, 3, 4]]⟩ .leaf .leaf) .leaf) .leaf .leaf)))))

noncomputable def aePlan (f b : Nat) : Option Plan := match tget aePlanT f with
  | some t => tget t b
  | none => none

noncomputable def aeC : Ctx := ⟨aeT, aeRets, aeIso, aePol, aeXPol, aePlan⟩

noncomputable def aeF : Tab Func :=
  (.node 58 Tryd.f58 (.node 29 Tryd.f29 (.node 14 Tryd.f14 (.node 7 Tryd.f7 (.node 3 Tryd.f3 (.node 1 Tryd.f1 (.node 0 Tryd.f0 .leaf .leaf) (.node 2 Tryd.f2 .leaf .leaf)) (.node 5 Tryd.f5 (.node 4 Tryd.f4 .leaf .leaf) (.node 6 Tryd.f6 .leaf .leaf))) (.node 11 Tryd.f11 (.node 9 Tryd.f9 (.node 8 Tryd.f8 .leaf .leaf) (.node 10 Tryd.f10 .leaf .leaf)) (.node 13 Tryd.f13 (.node 12 Tryd.f12 .leaf .leaf) .leaf))) (.node 22 Tryd.f22 (.node 18 Tryd.f18 (.node 16 Tryd.f16 (.node 15 Tryd.f15 .leaf .leaf) (.node 17 Tryd.f17 .leaf .leaf)) (.node 20 Tryd.f20 (.node 19 Tryd.f19 .leaf .leaf) (.node 21 Tryd.f21 .leaf .leaf))) (.node 26 Tryd.f26 (.node 24 Tryd.f24 (.node 23 Tryd.f23 .leaf .leaf) (.node 25 Tryd.f25 .leaf .leaf)) (.node 28 Tryd.f28 (.node 27 Tryd.f27 .leaf .leaf) .leaf)))) (.node 44 Tryd.f44 (.node 37 Tryd.f37 (.node 33 Tryd.f33 (.node 31 Tryd.f31 (.node 30 Tryd.f30 .leaf .leaf) (.node 32 Tryd.f32 .leaf .leaf)) (.node 35 Tryd.f35 (.node 34 Tryd.f34 .leaf .leaf) (.node 36 Tryd.f36 .leaf .leaf))) (.node 41 Tryd.f41 (.node 39 Tryd.f39 (.node 38 Tryd.f38 .leaf .leaf) (.node 40 Tryd.f40 .leaf .leaf)) (.node 43 Tryd.f43 (.node 42 Tryd.f42 .leaf .leaf) .leaf))) (.node 51 Tryd.f51 (.node 48 Tryd.f48 (.node 46 Tryd.f46 (.node 45 Tryd.f45 .leaf .leaf) (.node 47 Tryd.f47 .leaf .leaf)) (.node 50 Tryd.f50 (.node 49 Tryd.f49 .leaf .leaf) .leaf)) (.node 55 Tryd.f55 (.node 53 Tryd.f53 (.node 52 Tryd.f52 .leaf .leaf) (.node 54 Tryd.f54 .leaf .leaf)) (.node 57 Tryd.f57 (.node 56 Tryd.f56 .leaf .leaf) .leaf))))) (.node 88 Tryd.f88 (.node 73 Tryd.f73 (.node 66 Tryd.f66 (.node 62 Tryd.f62 (.node 60 Tryd.f60 (.node 59 Tryd.f59 .leaf .leaf) (.node 61 Tryd.f61 .leaf .leaf)) (.node 64 Tryd.f64 (.node 63 Tryd.f63 .leaf .leaf) (.node 65 Tryd.f65 .leaf .leaf))) (.node 70 Tryd.f70 (.node 68 Tryd.f68 (.node 67 Tryd.f67 .leaf .leaf) (.node 69 Tryd.f69 .leaf .leaf)) (.node 72 Tryd.f72 (.node 71 Tryd.f71 .leaf .leaf) .leaf))) (.node 81 Tryd.f81 (.node 77 Tryd.f77 (.node 75 Tryd.f75 (.node 74 Tryd.f74 .leaf .leaf) (.node 76 Tryd.f76 .leaf .leaf)) (.node 79 Tryd.f79 (.node 78 Tryd.f78 .leaf .leaf) (.node 80 Tryd.f80 .leaf .leaf))) (.node 85 Tryd.f85 (.node 83 Tryd.f83 (.node 82 Tryd.f82 .leaf .leaf) (.node 84 Tryd.f84 .leaf .leaf)) (.node 87 Tryd.f87 (.node 86 Tryd.f86 .leaf .leaf) .leaf)))) (.node 103 Tryd.f103 (.node 96 Tryd.f96 (.node 92 Tryd.f92 (.node 90 Tryd.f90 (.node 89 Tryd.f89 .leaf .leaf) (.node 91 Tryd.f91 .leaf .leaf)) (.node 94 Tryd.f94 (.node 93 Tryd.f93 .leaf .leaf) (.node 95 Tryd.f95 .leaf .leaf))) (.node 100 Tryd.f100 (.node 98 Tryd.f98 (.node 97 Tryd.f97 .leaf .leaf) (.node 99 Tryd.f99 .leaf .leaf)) (.node 102 Tryd.f102 (.node 101 Tryd.f101 .leaf .leaf) .leaf))) (.node 110 Tryd.f110 (.node 107 Tryd.f107 (.node 105 Tryd.f105 (.node 104 Tryd.f104 .leaf .leaf) (.node 106 Tryd.f106 .leaf .leaf)) (.node 109 Tryd.f109 (.node 108 Tryd.f108 .leaf .leaf) .leaf)) (.node 114 Tryd.f114 (.node 112 Tryd.f112 (.node 111 Tryd.f111 .leaf .leaf) (.node 113 Tryd.f113 .leaf .leaf)) (.node 116 Tryd.f116 (.node 115 Tryd.f115 .leaf .leaf) .leaf))))))

end Go.Proofs.YtiicbenhhdbnoaaDoor

/- The abstract machine of the seat is sound: written by a program of this session (wip/tools/aectx.py). -/
namespace Go.Proofs.YtiicbenhhdbnoaaDoor
open Go Go.AE
set_option maxRecDepth 100000
theorem aeT_ok : tableOK Tryd.prog aeT = true := by decide +kernel
theorem aeE_ok : eqTab Tryd.prog aeT = true := by decide +kernel
theorem aeCode_ok : aeF.all (fun f fn => match fn.body with | some c => okCode aeC f fn.ntmps c | none => true) = true := by decide +kernel
theorem aeName_ok : aeF.all (fun _ fn => !(fn.name == "runtime.NumGoroutine")) = true := by decide +kernel
theorem aeAt_ok : aeF.All (fun f fn => Tryd.prog.funcs[f]? = some fn) :=
  ⟨rfl, ⟨rfl, ⟨rfl, ⟨rfl, ⟨rfl, ⟨rfl, ⟨rfl, trivial, trivial⟩, ⟨rfl, trivial, trivial⟩⟩, ⟨rfl, ⟨rfl, trivial, trivial⟩, ⟨rfl, trivial, trivial⟩⟩⟩, ⟨rfl, ⟨rfl, ⟨rfl, trivial, trivial⟩, ⟨rfl, trivial, trivial⟩⟩, ⟨rfl, ⟨rfl, trivial, trivial⟩, trivial⟩⟩⟩, ⟨rfl, ⟨rfl, ⟨rfl, ⟨rfl, trivial, trivial⟩, ⟨rfl, trivial, trivial⟩⟩, ⟨rfl, ⟨rfl, trivial, trivial⟩, ⟨rfl, trivial, trivial⟩⟩⟩, ⟨rfl, ⟨rfl, ⟨rfl, trivial, trivial⟩, ⟨rfl, trivial, trivial⟩⟩, ⟨rfl, ⟨rfl, trivial, trivial⟩, trivial⟩⟩⟩⟩, ⟨rfl, ⟨rfl, ⟨rfl, ⟨rfl, ⟨rfl, trivial, trivial⟩, ⟨rfl, trivial, trivial⟩⟩, ⟨rfl, ⟨rfl, trivial, trivial⟩, ⟨rfl, trivial, trivial⟩⟩⟩, ⟨rfl, ⟨rfl, ⟨rfl, trivial, trivial⟩, ⟨rfl, trivial, trivial⟩⟩, ⟨rfl, ⟨rfl, trivial, trivial⟩, trivial⟩⟩⟩, ⟨rfl, ⟨rfl, ⟨rfl, ⟨rfl, trivial, trivial⟩, ⟨rfl, trivial, trivial⟩⟩, ⟨rfl, ⟨rfl, trivial, trivial⟩, trivial⟩⟩, ⟨rfl, ⟨rfl, ⟨rfl, trivial, trivial⟩, ⟨rfl, trivial, trivial⟩⟩, ⟨rfl, ⟨rfl, trivial, trivial⟩, trivial⟩⟩⟩⟩⟩, ⟨rfl, ⟨rfl, ⟨rfl, ⟨rfl, ⟨rfl, ⟨rfl, trivial, trivial⟩, ⟨rfl, trivial, trivial⟩⟩, ⟨rfl, ⟨rfl, trivial, trivial⟩, ⟨rfl, trivial, trivial⟩⟩⟩, ⟨rfl, ⟨rfl, ⟨rfl, trivial, trivial⟩, ⟨rfl, trivial, trivial⟩⟩, ⟨rfl, ⟨rfl, trivial, trivial⟩, trivial⟩⟩⟩, ⟨rfl, ⟨rfl, ⟨rfl, ⟨rfl, trivial, trivial⟩, ⟨rfl, trivial, trivial⟩⟩, ⟨rfl, ⟨rfl, trivial, trivial⟩, ⟨rfl, trivial, trivial⟩⟩⟩, ⟨rfl, ⟨rfl, ⟨rfl, trivial, trivial⟩, ⟨rfl, trivial, trivial⟩⟩, ⟨rfl, ⟨rfl, trivial, trivial⟩, trivial⟩⟩⟩⟩, ⟨rfl, ⟨rfl, ⟨rfl, ⟨rfl, ⟨rfl, trivial, trivial⟩, ⟨rfl, trivial, trivial⟩⟩, ⟨rfl, ⟨rfl, trivial, trivial⟩, ⟨rfl, trivial, trivial⟩⟩⟩, ⟨rfl, ⟨rfl, ⟨rfl, trivial, trivial⟩, ⟨rfl, trivial, trivial⟩⟩, ⟨rfl, ⟨rfl, trivial, trivial⟩, trivial⟩⟩⟩, ⟨rfl, ⟨rfl, ⟨rfl, ⟨rfl, trivial, trivial⟩, ⟨rfl, trivial, trivial⟩⟩, ⟨rfl, ⟨rfl, trivial, trivial⟩, trivial⟩⟩, ⟨rfl, ⟨rfl, ⟨rfl, trivial, trivial⟩, ⟨rfl, trivial, trivial⟩⟩, ⟨rfl, ⟨rfl, trivial, trivial⟩, trivial⟩⟩⟩⟩⟩⟩
theorem ae_mixed : Tryd.prog.follows .mixedOrders = true := Checked.mixed Tryd.checked
theorem ae_T : TOK Tryd.prog aeC.T := TOK.of_check aeT_ok
theorem ae_Q : EqOK Tryd.prog aeC.T := EqOK.of_check ae_T aeE_ok
theorem ae_fn {f : FuncId} {fn : Func} (h : tget aeF f = some fn) : FnOK Tryd.prog aeC f fn := by
  refine ⟨Tab.get_All aeAt_ok f fn h, ?_, fun c hc => ?_⟩
  · simpa using Tab.get_all aeName_ok f fn h
  · have := Tab.get_all aeCode_ok f fn h
    rw [hc] at this; exact this
theorem ae_direct {E : Ev} (hE : EvOK Tryd.prog E) (k : Nat) {f : FuncId} {fn : Func} {ds : List DV} {d : DV} (h : tget aeF f = some fn) (e : pureE aeC E k f fn ds = some d) : PureOK Tryd.prog f ds d := pureE_ok ae_T ae_Q ae_mixed hE (ae_fn h) e
theorem ae_directF {E : Ev} (hE : EvOK Tryd.prog E) (k : Nat) {f : FuncId} {fn : Func} {xs : List AV} {h0 h' : List Blk} {v : AV} (h : tget aeF f = some fn) (e : bodyE aeC E k f fn xs h0 (fun v h' => some (v, h')) = some (v, h')) : CallOK Tryd.prog f xs h0 v h' := bodyE_ok ae_T ae_Q ae_mixed hE (ae_fn h) e
theorem ae_pure {E : Ev} (hE : EvOK Tryd.prog E) {f : FuncId} {fn : Func} {ids : List Nat} {ds : List DV} {d : DV} (ok : OkSeg fn none ids) (h : tget aeF f = some fn) (hb : (fn.body.isSome && Nat.ble ds.length fn.ntmps) = true)
    (e : startF aeC E f 0 fn none ⟨envOf 0 (ds.map .d), [], []⟩ (doneE aeC fn 0 fun v h => freezeV h 4 v) = some d) (hfr : freshF f = false := by rfl) : PureOK Tryd.prog f ds d :=
  pure_of_go ae_T ae_Q ae_mixed hE (ae_fn h) ok hb e hfr
end Go.Proofs.YtiicbenhhdbnoaaDoor

/- Chapter 09: calls whose answers are told by tables; polynomials as data. -/
namespace Go.Proofs.YtiicbenhhdbnoaaDoor
open Go Go.AE

/-- Calls are answered by a table of shapes, where 'ok' says so. -/
def evT (ok : Nat → List DV → Bool) (shape : Nat → List DV → DV) : Ev := { Ev.nil with pure := fun f ds => .node (ok f ds) (.leaf (shape f ds)) .fail }
/-- All others are walked. -/
noncomputable def evW (fs : List Nat) (ok : Nat → List DV → Bool) (shape : Nat → List DV → DV) : Ev := evO aeC aeF (evT ok shape) fs [92] 30 8
open Classical in
noncomputable def okS (shape : Nat → List DV → DV) : Nat → List DV → Bool := fun f ds => isP (PureOK Tryd.prog f ds (shape f ds))

theorem evT_ok (shape : Nat → List DV → DV) : EvOK Tryd.prog (evT (okS shape) shape) := by
  refine ⟨fun f ds d e => ?_, (by intro f xs h v h' e; simp [evT, Ev.nil, Tr.val] at e), (by intro f xs h v h' e; simp [evT, Ev.nil, Tr.val] at e), (by intro l xs h v h' e; simp [evT, Ev.nil, Tr.val] at e)⟩
  simp only [evT, Tr.val] at e
  obtain ⟨h1, h2⟩ := cond_none e
  cases h2
  exact isP_iff.1 h1

theorem evW_ok (fs : List Nat) (shape : Nat → List DV → DV) : EvOK Tryd.prog (evW fs (okS shape) shape) :=
  evO_ok ae_T ae_Q ae_mixed (fun _ _ h => ae_fn h) (evT_ok shape) fs [92] 30 8

theorem okS_is {shape : Nat → List DV → DV} {f : Nat} {ds : List DV} (h : PureOK Tryd.prog f ds (shape f ds)) : okS shape f ds = true := isP_iff.2 h
/-- A call by its walk. -/
theorem walk {fs : List Nat} {shape : Nat → List DV → DV} {f : FuncId} {fn : Func} {ds : List DV} {d : DV} (h : tget aeF f = some fn) (e : pureE aeC (evW fs (okS shape) shape) 30 f fn ds = some d) : PureOK Tryd.prog f ds d :=
  ae_direct (evW_ok fs shape) 30 h e

def noS : Nat → List DV → DV := fun _ _ => .nilp

/-- Numbers as a list that is handed on. -/
abbrev ls (l : List Int) (c nl : Bool) : DV := .sl (ints l) l.length 1 c nl
end Go.Proofs.YtiicbenhhdbnoaaDoor

/- Chapter 09: the determinant's inner function, at each depth, written by wip/tools/gen92.py. -/
namespace Go.Proofs.YtiicbenhhdbnoaaDoor
open Go Go.AE
set_option maxRecDepth 100000
structure TabD where
  ok : Int → AV → AV → AV → List Blk → Bool
  D : Int → List DV → Int
noncomputable def F92t (T : TabD) : List AV → List Blk → Tr (AV × List Blk)
  | [.d (.int .i64 r), cols, a, b], h => match freezeV h 4 cols with
    | some (.sl cs _ _ _ _) => .node (T.ok r cols a b h) (.leaf (.d (iD (T.D r cs)), h)) .fail
    | _ => .fail
  | _, _ => .fail
noncomputable def ev92 (T : TabD) : Ev := evO aeC aeF (Ev.nil.addFn 92 (F92t T)) [] [92] 30 1

theorem u92_0_1 (T : TabD) (R : List DV) (q0 : Int) : bodyE aeC (ev92 T) 30 92 Tryd.f92 [.d (iD 0), .grow 2 1 false, .ref 1 0, .ref 0 0] [.ac [.fn 92 [] [.ref 1 0, .ref 0 0]], .dc [.sl [.sl R 1 1 false false] 1 1 false false], .dc [iD q0]] (fun v h => some (v, h) : AV → List Blk → Option (AV × List Blk)) =
  bif inRange q0 1 then
    getI (nth R (Int.toNat q0 * 1)) fun x0 =>
    bif decide (x0 = 0) then
      some (.d (iD 0), [.ac [AV.fn 92 [] [AV.ref 1 0, AV.ref 0 0]], .dc [DV.sl [DV.sl R 1 1 false false] 1 1 false false], .dc [iD q0]])
    else
      bif TabD.ok T 1 (AV.row 3 0 0 1 1 false) (AV.ref 1 0) (AV.ref 0 0) [.ac [AV.fn 92 [] [AV.ref 1 0, AV.ref 0 0]], .dc [DV.sl [DV.sl R 1 1 false false] 1 1 false false], .dc [iD q0], .dc [iD 0]] then
        bif inRange q0 1 then
          getI (nth R (Int.toNat q0 * 1)) fun x1 =>
          some (.d (iD (IntKind.wrap IntKind.i64 (0 + IntKind.wrap IntKind.i64 (x1 * TabD.D T 1 [])))), [.ac [AV.fn 92 [] [AV.ref 1 0, AV.ref 0 0]], .dc [DV.sl [DV.sl R 1 1 false false] 1 1 false false], .dc [iD q0]])
        else
          none
      else
        none
  else
    none := by kernel_rfl

theorem u92_1_0 (T : TabD) (m0 : DV) (all : List DV) : bodyE aeC (ev92 T) 30 92 Tryd.f92 [.d (iD 1), .row 3 0 0 1 1 false, .ref 1 0, .ref 0 0] [.ac [.fn 92 [] [.ref 1 0, .ref 0 0]], .dc [.sl [m0] 1 1 false false], .dc all, .dc [iD 0]] (fun v h => some (v, h) : AV → List Blk → Option (AV × List Blk)) =
  some (.d (iD 1), [.ac [AV.fn 92 [] [AV.ref 1 0, AV.ref 0 0]], .dc [DV.sl [m0] 1 1 false false], .dc all, .dc [iD 0]]) := by kernel_rfl

theorem u92_0_2 (T : TabD) (R : List DV) (m1 : DV) (q0 q1 : Int) : bodyE aeC (ev92 T) 30 92 Tryd.f92 [.d (iD 0), .grow 2 1 false, .ref 1 0, .ref 0 0] [.ac [.fn 92 [] [.ref 1 0, .ref 0 0]], .dc [.sl [.sl R 2 1 false false, m1] 2 1 false false], .dc [iD q0, iD q1]] (fun v h => some (v, h) : AV → List Blk → Option (AV × List Blk)) =
  bif inRange q0 2 then
    getI (nth R (Int.toNat q0 * 1)) fun x0 =>
    bif decide (x0 = 0) then
      bif inRange q1 2 then
        getI (nth R (Int.toNat q1 * 1)) fun x1 =>
        bif decide (x1 = 0) then
          some (.d (iD 0), [.ac [AV.fn 92 [] [AV.ref 1 0, AV.ref 0 0]], .dc [DV.sl [DV.sl R 2 1 false false, m1] 2 1 false false], .dc [iD q0, iD q1]])
        else
          bif TabD.ok T 1 (AV.row 3 0 1 2 1 false) (AV.ref 1 0) (AV.ref 0 0) [.ac [AV.fn 92 [] [AV.ref 1 0, AV.ref 0 0]], .dc [DV.sl [DV.sl R 2 1 false false, m1] 2 1 false false], .dc [iD q0, iD q1], .dc [iD q0, iD 0]] then
            bif inRange q1 2 then
              getI (nth R (Int.toNat q1 * 1)) fun x2 =>
              some (.d (iD (IntKind.wrap IntKind.i64 (0 + IntKind.wrap IntKind.i64 (0 - IntKind.wrap IntKind.i64 (x2 * TabD.D T 1 [iD q0]))))), [.ac [AV.fn 92 [] [AV.ref 1 0, AV.ref 0 0]], .dc [DV.sl [DV.sl R 2 1 false false, m1] 2 1 false false], .dc [iD q0, iD q1]])
            else
              none
          else
            none
      else
        none
    else
      bif TabD.ok T 1 (AV.row 3 0 1 2 1 false) (AV.ref 1 0) (AV.ref 0 0) [.ac [AV.fn 92 [] [AV.ref 1 0, AV.ref 0 0]], .dc [DV.sl [DV.sl R 2 1 false false, m1] 2 1 false false], .dc [iD q0, iD q1], .dc [iD q1, iD 0]] then
        bif inRange q0 2 then
          getI (nth R (Int.toNat q0 * 1)) fun x3 =>
          bif inRange q1 2 then
            getI (nth R (Int.toNat q1 * 1)) fun x4 =>
            bif decide (x4 = 0) then
              some (.d (iD (IntKind.wrap IntKind.i64 (0 + IntKind.wrap IntKind.i64 (x3 * TabD.D T 1 [iD q1])))), [.ac [AV.fn 92 [] [AV.ref 1 0, AV.ref 0 0]], .dc [DV.sl [DV.sl R 2 1 false false, m1] 2 1 false false], .dc [iD q0, iD q1]])
            else
              bif TabD.ok T 1 (AV.row 3 0 1 2 1 false) (AV.ref 1 0) (AV.ref 0 0) [.ac [AV.fn 92 [] [AV.ref 1 0, AV.ref 0 0]], .dc [DV.sl [DV.sl R 2 1 false false, m1] 2 1 false false], .dc [iD q0, iD q1], .dc [iD q0, iD 0]] then
                bif inRange q1 2 then
                  getI (nth R (Int.toNat q1 * 1)) fun x5 =>
                  some (.d (iD (IntKind.wrap IntKind.i64 (IntKind.wrap IntKind.i64 (0 + IntKind.wrap IntKind.i64 (x3 * TabD.D T 1 [iD q1])) + IntKind.wrap IntKind.i64 (0 - IntKind.wrap IntKind.i64 (x5 * TabD.D T 1 [iD q0]))))), [.ac [AV.fn 92 [] [AV.ref 1 0, AV.ref 0 0]], .dc [DV.sl [DV.sl R 2 1 false false, m1] 2 1 false false], .dc [iD q0, iD q1]])
                else
                  none
              else
                none
          else
            none
        else
          none
      else
        none
  else
    none := by kernel_rfl

theorem u92_1_1 (T : TabD) (R : List DV) (m0 : DV) (all : List DV) (q0 : Int) : bodyE aeC (ev92 T) 30 92 Tryd.f92 [.d (iD 1), .row 3 0 1 2 1 false, .ref 1 0, .ref 0 0] [.ac [.fn 92 [] [.ref 1 0, .ref 0 0]], .dc [.sl [m0, .sl R 2 1 false false] 2 1 false false], .dc all, .dc [iD q0, iD 0]] (fun v h => some (v, h) : AV → List Blk → Option (AV × List Blk)) =
  bif inRange q0 2 then
    getI (nth R (Int.toNat q0 * 1)) fun x0 =>
    bif decide (x0 = 0) then
      some (.d (iD 0), [.ac [AV.fn 92 [] [AV.ref 1 0, AV.ref 0 0]], .dc [DV.sl [m0, DV.sl R 2 1 false false] 2 1 false false], .dc all, .dc [iD q0, iD 0]])
    else
      bif TabD.ok T 2 (AV.row 4 0 0 1 1 false) (AV.ref 1 0) (AV.ref 0 0) [.ac [AV.fn 92 [] [AV.ref 1 0, AV.ref 0 0]], .dc [DV.sl [m0, DV.sl R 2 1 false false] 2 1 false false], .dc all, .dc [iD q0, iD 0], .dc [iD 0]] then
        bif inRange q0 2 then
          getI (nth R (Int.toNat q0 * 1)) fun x1 =>
          some (.d (iD (IntKind.wrap IntKind.i64 (0 + IntKind.wrap IntKind.i64 (x1 * TabD.D T 2 [])))), [.ac [AV.fn 92 [] [AV.ref 1 0, AV.ref 0 0]], .dc [DV.sl [m0, DV.sl R 2 1 false false] 2 1 false false], .dc all, .dc [iD q0, iD 0]])
        else
          none
      else
        none
  else
    none := by kernel_rfl

theorem u92_2_0 (T : TabD) (m0 m1 : DV) (all X1 : List DV) : bodyE aeC (ev92 T) 30 92 Tryd.f92 [.d (iD 2), .row 4 0 0 1 1 false, .ref 1 0, .ref 0 0] [.ac [.fn 92 [] [.ref 1 0, .ref 0 0]], .dc [.sl [m0, m1] 2 1 false false], .dc all, .dc X1, .dc [iD 0]] (fun v h => some (v, h) : AV → List Blk → Option (AV × List Blk)) =
  some (.d (iD 1), [.ac [AV.fn 92 [] [AV.ref 1 0, AV.ref 0 0]], .dc [DV.sl [m0, m1] 2 1 false false], .dc all, .dc X1, .dc [iD 0]]) := by kernel_rfl

theorem u92_0_3 (T : TabD) (R : List DV) (m1 m2 : DV) (q0 q1 q2 : Int) : bodyE aeC (ev92 T) 30 92 Tryd.f92 [.d (iD 0), .grow 2 1 false, .ref 1 0, .ref 0 0] [.ac [.fn 92 [] [.ref 1 0, .ref 0 0]], .dc [.sl [.sl R 3 1 false false, m1, m2] 3 1 false false], .dc [iD q0, iD q1, iD q2]] (fun v h => some (v, h) : AV → List Blk → Option (AV × List Blk)) =
  bif inRange q0 3 then
    getI (nth R (Int.toNat q0 * 1)) fun x0 =>
    bif decide (x0 = 0) then
      bif inRange q1 3 then
        getI (nth R (Int.toNat q1 * 1)) fun x1 =>
        bif decide (x1 = 0) then
          bif inRange q2 3 then
            getI (nth R (Int.toNat q2 * 1)) fun x2 =>
            bif decide (x2 = 0) then
              some (.d (iD 0), [.ac [AV.fn 92 [] [AV.ref 1 0, AV.ref 0 0]], .dc [DV.sl [DV.sl R 3 1 false false, m1, m2] 3 1 false false], .dc [iD q0, iD q1, iD q2]])
            else
              bif TabD.ok T 1 (AV.row 3 0 2 3 1 false) (AV.ref 1 0) (AV.ref 0 0) [.ac [AV.fn 92 [] [AV.ref 1 0, AV.ref 0 0]], .dc [DV.sl [DV.sl R 3 1 false false, m1, m2] 3 1 false false], .dc [iD q0, iD q1, iD q2], .dc [iD q0, iD q1, iD 0]] then
                bif inRange q2 3 then
                  getI (nth R (Int.toNat q2 * 1)) fun x3 =>
                  some (.d (iD (IntKind.wrap IntKind.i64 (0 + IntKind.wrap IntKind.i64 (x3 * TabD.D T 1 [iD q0, iD q1])))), [.ac [AV.fn 92 [] [AV.ref 1 0, AV.ref 0 0]], .dc [DV.sl [DV.sl R 3 1 false false, m1, m2] 3 1 false false], .dc [iD q0, iD q1, iD q2]])
                else
                  none
              else
                none
          else
            none
        else
          bif TabD.ok T 1 (AV.row 3 0 2 3 1 false) (AV.ref 1 0) (AV.ref 0 0) [.ac [AV.fn 92 [] [AV.ref 1 0, AV.ref 0 0]], .dc [DV.sl [DV.sl R 3 1 false false, m1, m2] 3 1 false false], .dc [iD q0, iD q1, iD q2], .dc [iD q0, iD q2, iD 0]] then
            bif inRange q1 3 then
              getI (nth R (Int.toNat q1 * 1)) fun x4 =>
              bif inRange q2 3 then
                getI (nth R (Int.toNat q2 * 1)) fun x5 =>
                bif decide (x5 = 0) then
                  some (.d (iD (IntKind.wrap IntKind.i64 (0 + IntKind.wrap IntKind.i64 (0 - IntKind.wrap IntKind.i64 (x4 * TabD.D T 1 [iD q0, iD q2]))))), [.ac [AV.fn 92 [] [AV.ref 1 0, AV.ref 0 0]], .dc [DV.sl [DV.sl R 3 1 false false, m1, m2] 3 1 false false], .dc [iD q0, iD q1, iD q2]])
                else
                  bif TabD.ok T 1 (AV.row 3 0 2 3 1 false) (AV.ref 1 0) (AV.ref 0 0) [.ac [AV.fn 92 [] [AV.ref 1 0, AV.ref 0 0]], .dc [DV.sl [DV.sl R 3 1 false false, m1, m2] 3 1 false false], .dc [iD q0, iD q1, iD q2], .dc [iD q0, iD q1, iD 0]] then
                    bif inRange q2 3 then
                      getI (nth R (Int.toNat q2 * 1)) fun x6 =>
                      some (.d (iD (IntKind.wrap IntKind.i64 (IntKind.wrap IntKind.i64 (0 + IntKind.wrap IntKind.i64 (0 - IntKind.wrap IntKind.i64 (x4 * TabD.D T 1 [iD q0, iD q2]))) + IntKind.wrap IntKind.i64 (x6 * TabD.D T 1 [iD q0, iD q1])))), [.ac [AV.fn 92 [] [AV.ref 1 0, AV.ref 0 0]], .dc [DV.sl [DV.sl R 3 1 false false, m1, m2] 3 1 false false], .dc [iD q0, iD q1, iD q2]])
                    else
                      none
                  else
                    none
              else
                none
            else
              none
          else
            none
      else
        none
    else
      bif TabD.ok T 1 (AV.row 3 0 2 3 1 false) (AV.ref 1 0) (AV.ref 0 0) [.ac [AV.fn 92 [] [AV.ref 1 0, AV.ref 0 0]], .dc [DV.sl [DV.sl R 3 1 false false, m1, m2] 3 1 false false], .dc [iD q0, iD q1, iD q2], .dc [iD q1, iD q2, iD 0]] then
        bif inRange q0 3 then
          getI (nth R (Int.toNat q0 * 1)) fun x7 =>
          bif inRange q1 3 then
            getI (nth R (Int.toNat q1 * 1)) fun x8 =>
            bif decide (x8 = 0) then
              bif inRange q2 3 then
                getI (nth R (Int.toNat q2 * 1)) fun x9 =>
                bif decide (x9 = 0) then
                  some (.d (iD (IntKind.wrap IntKind.i64 (0 + IntKind.wrap IntKind.i64 (x7 * TabD.D T 1 [iD q1, iD q2])))), [.ac [AV.fn 92 [] [AV.ref 1 0, AV.ref 0 0]], .dc [DV.sl [DV.sl R 3 1 false false, m1, m2] 3 1 false false], .dc [iD q0, iD q1, iD q2]])
                else
                  bif TabD.ok T 1 (AV.row 3 0 2 3 1 false) (AV.ref 1 0) (AV.ref 0 0) [.ac [AV.fn 92 [] [AV.ref 1 0, AV.ref 0 0]], .dc [DV.sl [DV.sl R 3 1 false false, m1, m2] 3 1 false false], .dc [iD q0, iD q1, iD q2], .dc [iD q0, iD q1, iD 0]] then
                    bif inRange q2 3 then
                      getI (nth R (Int.toNat q2 * 1)) fun x10 =>
                      some (.d (iD (IntKind.wrap IntKind.i64 (IntKind.wrap IntKind.i64 (0 + IntKind.wrap IntKind.i64 (x7 * TabD.D T 1 [iD q1, iD q2])) + IntKind.wrap IntKind.i64 (x10 * TabD.D T 1 [iD q0, iD q1])))), [.ac [AV.fn 92 [] [AV.ref 1 0, AV.ref 0 0]], .dc [DV.sl [DV.sl R 3 1 false false, m1, m2] 3 1 false false], .dc [iD q0, iD q1, iD q2]])
                    else
                      none
                  else
                    none
              else
                none
            else
              bif TabD.ok T 1 (AV.row 3 0 2 3 1 false) (AV.ref 1 0) (AV.ref 0 0) [.ac [AV.fn 92 [] [AV.ref 1 0, AV.ref 0 0]], .dc [DV.sl [DV.sl R 3 1 false false, m1, m2] 3 1 false false], .dc [iD q0, iD q1, iD q2], .dc [iD q0, iD q2, iD 0]] then
                bif inRange q1 3 then
                  getI (nth R (Int.toNat q1 * 1)) fun x11 =>
                  bif inRange q2 3 then
                    getI (nth R (Int.toNat q2 * 1)) fun x12 =>
                    bif decide (x12 = 0) then
                      some (.d (iD (IntKind.wrap IntKind.i64 (IntKind.wrap IntKind.i64 (0 + IntKind.wrap IntKind.i64 (x7 * TabD.D T 1 [iD q1, iD q2])) + IntKind.wrap IntKind.i64 (0 - IntKind.wrap IntKind.i64 (x11 * TabD.D T 1 [iD q0, iD q2]))))), [.ac [AV.fn 92 [] [AV.ref 1 0, AV.ref 0 0]], .dc [DV.sl [DV.sl R 3 1 false false, m1, m2] 3 1 false false], .dc [iD q0, iD q1, iD q2]])
                    else
                      bif TabD.ok T 1 (AV.row 3 0 2 3 1 false) (AV.ref 1 0) (AV.ref 0 0) [.ac [AV.fn 92 [] [AV.ref 1 0, AV.ref 0 0]], .dc [DV.sl [DV.sl R 3 1 false false, m1, m2] 3 1 false false], .dc [iD q0, iD q1, iD q2], .dc [iD q0, iD q1, iD 0]] then
                        bif inRange q2 3 then
                          getI (nth R (Int.toNat q2 * 1)) fun x13 =>
                          some (.d (iD (IntKind.wrap IntKind.i64 (IntKind.wrap IntKind.i64 (IntKind.wrap IntKind.i64 (0 + IntKind.wrap IntKind.i64 (x7 * TabD.D T 1 [iD q1, iD q2])) + IntKind.wrap IntKind.i64 (0 - IntKind.wrap IntKind.i64 (x11 * TabD.D T 1 [iD q0, iD q2]))) + IntKind.wrap IntKind.i64 (x13 * TabD.D T 1 [iD q0, iD q1])))), [.ac [AV.fn 92 [] [AV.ref 1 0, AV.ref 0 0]], .dc [DV.sl [DV.sl R 3 1 false false, m1, m2] 3 1 false false], .dc [iD q0, iD q1, iD q2]])
                        else
                          none
                      else
                        none
                  else
                    none
                else
                  none
              else
                none
          else
            none
        else
          none
      else
        none
  else
    none := by kernel_rfl

theorem u92_1_2 (T : TabD) (R : List DV) (m0 m2 : DV) (all : List DV) (q0 q1 : Int) : bodyE aeC (ev92 T) 30 92 Tryd.f92 [.d (iD 1), .row 3 0 2 3 1 false, .ref 1 0, .ref 0 0] [.ac [.fn 92 [] [.ref 1 0, .ref 0 0]], .dc [.sl [m0, .sl R 3 1 false false, m2] 3 1 false false], .dc all, .dc [iD q0, iD q1, iD 0]] (fun v h => some (v, h) : AV → List Blk → Option (AV × List Blk)) =
  bif inRange q0 3 then
    getI (nth R (Int.toNat q0 * 1)) fun x0 =>
    bif decide (x0 = 0) then
      bif inRange q1 3 then
        getI (nth R (Int.toNat q1 * 1)) fun x1 =>
        bif decide (x1 = 0) then
          some (.d (iD 0), [.ac [AV.fn 92 [] [AV.ref 1 0, AV.ref 0 0]], .dc [DV.sl [m0, DV.sl R 3 1 false false, m2] 3 1 false false], .dc all, .dc [iD q0, iD q1, iD 0]])
        else
          bif TabD.ok T 2 (AV.row 4 0 1 2 1 false) (AV.ref 1 0) (AV.ref 0 0) [.ac [AV.fn 92 [] [AV.ref 1 0, AV.ref 0 0]], .dc [DV.sl [m0, DV.sl R 3 1 false false, m2] 3 1 false false], .dc all, .dc [iD q0, iD q1, iD 0], .dc [iD q0, iD 0]] then
            bif inRange q1 3 then
              getI (nth R (Int.toNat q1 * 1)) fun x2 =>
              some (.d (iD (IntKind.wrap IntKind.i64 (0 + IntKind.wrap IntKind.i64 (0 - IntKind.wrap IntKind.i64 (x2 * TabD.D T 2 [iD q0]))))), [.ac [AV.fn 92 [] [AV.ref 1 0, AV.ref 0 0]], .dc [DV.sl [m0, DV.sl R 3 1 false false, m2] 3 1 false false], .dc all, .dc [iD q0, iD q1, iD 0]])
            else
              none
          else
            none
      else
        none
    else
      bif TabD.ok T 2 (AV.row 4 0 1 2 1 false) (AV.ref 1 0) (AV.ref 0 0) [.ac [AV.fn 92 [] [AV.ref 1 0, AV.ref 0 0]], .dc [DV.sl [m0, DV.sl R 3 1 false false, m2] 3 1 false false], .dc all, .dc [iD q0, iD q1, iD 0], .dc [iD q1, iD 0]] then
        bif inRange q0 3 then
          getI (nth R (Int.toNat q0 * 1)) fun x3 =>
          bif inRange q1 3 then
            getI (nth R (Int.toNat q1 * 1)) fun x4 =>
            bif decide (x4 = 0) then
              some (.d (iD (IntKind.wrap IntKind.i64 (0 + IntKind.wrap IntKind.i64 (x3 * TabD.D T 2 [iD q1])))), [.ac [AV.fn 92 [] [AV.ref 1 0, AV.ref 0 0]], .dc [DV.sl [m0, DV.sl R 3 1 false false, m2] 3 1 false false], .dc all, .dc [iD q0, iD q1, iD 0]])
            else
              bif TabD.ok T 2 (AV.row 4 0 1 2 1 false) (AV.ref 1 0) (AV.ref 0 0) [.ac [AV.fn 92 [] [AV.ref 1 0, AV.ref 0 0]], .dc [DV.sl [m0, DV.sl R 3 1 false false, m2] 3 1 false false], .dc all, .dc [iD q0, iD q1, iD 0], .dc [iD q0, iD 0]] then
                bif inRange q1 3 then
                  getI (nth R (Int.toNat q1 * 1)) fun x5 =>
                  some (.d (iD (IntKind.wrap IntKind.i64 (IntKind.wrap IntKind.i64 (0 + IntKind.wrap IntKind.i64 (x3 * TabD.D T 2 [iD q1])) + IntKind.wrap IntKind.i64 (0 - IntKind.wrap IntKind.i64 (x5 * TabD.D T 2 [iD q0]))))), [.ac [AV.fn 92 [] [AV.ref 1 0, AV.ref 0 0]], .dc [DV.sl [m0, DV.sl R 3 1 false false, m2] 3 1 false false], .dc all, .dc [iD q0, iD q1, iD 0]])
                else
                  none
              else
                none
          else
            none
        else
          none
      else
        none
  else
    none := by kernel_rfl

theorem u92_2_1 (T : TabD) (R : List DV) (m0 m1 : DV) (all X1 : List DV) (q0 : Int) : bodyE aeC (ev92 T) 30 92 Tryd.f92 [.d (iD 2), .row 4 0 1 2 1 false, .ref 1 0, .ref 0 0] [.ac [.fn 92 [] [.ref 1 0, .ref 0 0]], .dc [.sl [m0, m1, .sl R 3 1 false false] 3 1 false false], .dc all, .dc X1, .dc [iD q0, iD 0]] (fun v h => some (v, h) : AV → List Blk → Option (AV × List Blk)) =
  bif inRange q0 3 then
    getI (nth R (Int.toNat q0 * 1)) fun x0 =>
    bif decide (x0 = 0) then
      some (.d (iD 0), [.ac [AV.fn 92 [] [AV.ref 1 0, AV.ref 0 0]], .dc [DV.sl [m0, m1, DV.sl R 3 1 false false] 3 1 false false], .dc all, .dc X1, .dc [iD q0, iD 0]])
    else
      bif TabD.ok T 3 (AV.row 5 0 0 1 1 false) (AV.ref 1 0) (AV.ref 0 0) [.ac [AV.fn 92 [] [AV.ref 1 0, AV.ref 0 0]], .dc [DV.sl [m0, m1, DV.sl R 3 1 false false] 3 1 false false], .dc all, .dc X1, .dc [iD q0, iD 0], .dc [iD 0]] then
        bif inRange q0 3 then
          getI (nth R (Int.toNat q0 * 1)) fun x1 =>
          some (.d (iD (IntKind.wrap IntKind.i64 (0 + IntKind.wrap IntKind.i64 (x1 * TabD.D T 3 [])))), [.ac [AV.fn 92 [] [AV.ref 1 0, AV.ref 0 0]], .dc [DV.sl [m0, m1, DV.sl R 3 1 false false] 3 1 false false], .dc all, .dc X1, .dc [iD q0, iD 0]])
        else
          none
      else
        none
  else
    none := by kernel_rfl

theorem u92_3_0 (T : TabD) (m0 m1 m2 : DV) (all X1 X2 : List DV) : bodyE aeC (ev92 T) 30 92 Tryd.f92 [.d (iD 3), .row 5 0 0 1 1 false, .ref 1 0, .ref 0 0] [.ac [.fn 92 [] [.ref 1 0, .ref 0 0]], .dc [.sl [m0, m1, m2] 3 1 false false], .dc all, .dc X1, .dc X2, .dc [iD 0]] (fun v h => some (v, h) : AV → List Blk → Option (AV × List Blk)) =
  some (.d (iD 1), [.ac [AV.fn 92 [] [AV.ref 1 0, AV.ref 0 0]], .dc [DV.sl [m0, m1, m2] 3 1 false false], .dc all, .dc X1, .dc X2, .dc [iD 0]]) := by kernel_rfl

end Go.Proofs.YtiicbenhhdbnoaaDoor

/- Chapter 09: determinants by the first row, modulo 2 ^ 64. -/
namespace Go.Proofs.YtiicbenhhdbnoaaDoor
open Go Go.AE

/-! ### Numbers modulo 2 ^ 64 -/
abbrev W (n : Int) : Int := IntKind.wrap IntKind.i64 n
theorem W_def (n : Int) : W n = (n + 9223372036854775808) % 18446744073709551616 - 9223372036854775808 := by
  show IntKind.wrap .i64 n = _
  rw [IntKind.wrap_i64]
theorem W_mod (n : Int) : W n % 18446744073709551616 = n % 18446744073709551616 := by rw [W_def]; omega
theorem W_eq {a b : Int} (h : a % 18446744073709551616 = b % 18446744073709551616) : W a = W b := by rw [W_def, W_def]; omega
theorem W_addR (a b : Int) : W (a + W b) = W (a + b) := W_eq (by have := W_mod b; omega)
theorem W_mulL (a b : Int) : W (W a * b) = W (a * b) := W_eq (by rw [Int.mul_emod, W_mod, ← Int.mul_emod])
theorem wrap_addR (a b : Int) : IntKind.wrap .i64 (a + IntKind.wrap .i64 b) = IntKind.wrap .i64 (a + b) := W_addR a b

/-! ### Determinants -/
/-- One column's part of a determinant, by the first row. -/
def stepD (x : Int) (odd : Bool) (sub out : Int) : Int := if x = 0 then out else IntKind.wrap .i64 (out + cond odd (IntKind.wrap .i64 (0 - IntKind.wrap .i64 (x * sub))) (IntKind.wrap .i64 (x * sub)))
def lapGo (f : List Int → Int) (R : List Int) : List Int → List Int → Bool → Int → Int
  | _, [], _, out => out
  | pre, c :: cs, odd, out => lapGo f R (pre ++ [c]) cs (!odd) (stepD (R.getD c.toNat 0) odd (f (pre ++ cs)) out)
/-- The determinant of the first rows with some columns, modulo 2 ^ 64. -/
def lapW : List (List Int) → List Int → Int
  | [], _ => 1
  | _ :: _, [] => 1
  | R :: Rs, c :: cs => lapGo (lapW Rs) R [] (c :: cs) false 0

theorem stepE (x s out : Int) (h : W out = out) : IntKind.wrap .i64 (out + IntKind.wrap .i64 (IntKind.wrap .i64 (1 * x) * s)) = stepD x false s out := by
  show W (out + W (W (1 * x) * s)) = _
  unfold stepD
  split
  · rename_i e; subst e
    rw [show W (1 * 0) = 0 from rfl, Int.zero_mul, show W 0 = 0 from rfl, Int.add_zero]; exact h
  · rw [Int.one_mul, W_mulL]; rfl
/-! ### Matrices as data -/
def unM : DV → List (List Int)
  | .sl rows _ _ _ _ => rows.map fun r => match r with
    | .sl cs _ _ _ _ => unI cs
    | _ => []
  | _ => []
theorem getI_nth {R : Type} {l : List Int} {i : Nat} {K : Int → Option R} (h : i < l.length) : getI (nth (ints l) (i * 1)) K = K (l.getD i 0) := by
  rw [Nat.mul_one, nth_ints_o h, getI_some]
theorem cond_is {R : Type} {b : Bool} {x y : R} (h : b = true) : (bif b then x else y) = x := by rw [h]; rfl
theorem inR_at {R : Type} {i : Int} {j n : Nat} {a b : R} (h : i = j) (hj : j < n) : (bif inRange i n then a else b) = a := inR_pos (by omega) (by omega)
end Go.Proofs.YtiicbenhhdbnoaaDoor

/- Chapter 09: the determinant's inner function: what it answers. Written by wip/tools/gen92.py. -/
namespace Go.Proofs.YtiicbenhhdbnoaaDoor
open Go Go.AE
set_option maxRecDepth 100000
set_option maxHeartbeats 4000000

noncomputable def tabD (Rs : List (List Int)) : TabD := ⟨fun r cols a b h => isP (∀ cs n s c nl, freezeV h 4 cols = some (.sl cs n s c nl) → CallOK Tryd.prog 92 [.d (iD r), cols, a, b] h (.d (iD (lapW Rs (unI cs)))) h), fun _ cs => lapW Rs (unI cs)⟩

theorem ev92_ok (Rs : List (List Int)) : EvOK Tryd.prog (ev92 (tabD Rs)) := by
  refine evO_ok ae_T ae_Q ae_mixed (fun _ _ h => ae_fn h) (EvOK.addFn EvOK.nil ?_ ?_) [] [92] 30 1
  · intro xs h v h' e
    unfold F92t at e
    split at e
    · split at e
      · rename_i hf
        simp only [Tr.val] at e
        obtain ⟨hg, e2⟩ := cond_none e
        simp only [Option.some.injEq, Prod.mk.injEq] at e2
        obtain ⟨rfl, rfl⟩ := e2
        exact isP_iff.1 hg _ _ _ _ _ hf
      · cases e
    · cases e
  · intro xs h v h' e _
    unfold F92t at e
    split at e
    · split at e
      · simp only [Tr.val] at e
        obtain ⟨_, e2⟩ := cond_none e
        simp only [Option.some.injEq, Prod.mk.injEq] at e2
        exact e2.2.symm
      · cases e
    · cases e

theorem d92_1_0 (r0 : List Int) (all : List DV) : CallOK Tryd.prog 92 [.d (iD 1), .row 3 0 0 1 1 false, .ref 1 0, .ref 0 0] ([.ac [.fn 92 [] [.ref 1 0, .ref 0 0]], .dc [.sl [.sl (ints r0) 1 1 false false] 1 1 false false], .dc all, .dc [iD 0]]) (.d (iD (lapW [] []))) ([.ac [.fn 92 [] [.ref 1 0, .ref 0 0]], .dc [.sl [.sl (ints r0) 1 1 false false] 1 1 false false], .dc all, .dc [iD 0]]) := by
  refine ae_directF (ev92_ok []) 30 (by kernel_rfl : tget aeF 92 = some Tryd.f92) ((u92_1_0 (tabD []) (.sl (ints r0) 1 1 false false) all).trans ?_)
  rfl

theorem d92_0_1 (r0 : List Int) (q0 : Int) (hl : r0.length = 1) (hq0 : 0 ≤ q0 ∧ q0 < 1) : CallOK Tryd.prog 92 [.d (iD 0), .grow 2 1 false, .ref 1 0, .ref 0 0] ([.ac [.fn 92 [] [.ref 1 0, .ref 0 0]], .dc [.sl [.sl (ints r0) 1 1 false false] 1 1 false false], .dc [iD q0]]) (.d (iD (lapW [r0] [q0]))) ([.ac [.fn 92 [] [.ref 1 0, .ref 0 0]], .dc [.sl [.sl (ints r0) 1 1 false false] 1 1 false false], .dc [iD q0]]) := by
  refine ae_directF (ev92_ok []) 30 (by kernel_rfl : tget aeF 92 = some Tryd.f92) ((u92_0_1 (tabD []) (ints r0) q0).trans ?_)
  have hw : lapW [r0] [q0] = (stepD (r0.getD q0.toNat 0) false (lapW [] []) 0) := rfl
  have hl0 : r0.length = 1 := hl
  have g0 := d92_1_0 r0 [iD q0]
  refine (inR_pos hq0.1 hq0.2).trans ?_
  refine (getI_nth (by omega)).trans ?_
  by_cases z0 : r0.getD q0.toNat 0 = 0
  · refine (cnd_pos z0).trans ?_
    rw [hw]; simp only [stepD, z0, if_true, if_false, ↓reduceIte, cond_true, cond_false] <;> rfl
  · refine (cnd_neg z0).trans ?_
    refine (cond_is (isP_iff.2 fun cs n s c nl e => ?_)).trans ?_
    · have e0 : some (DV.sl [] 0 1 false false) = some (DV.sl cs n s c nl) := e
      cases e0
      exact g0
    refine (inR_pos hq0.1 hq0.2).trans ?_
    refine (getI_nth (by omega)).trans ?_
    rw [hw]; simp only [stepD, z0, if_true, if_false, ↓reduceIte, cond_true, cond_false] <;> rfl

theorem d92_2_0 (r0 r1 : List Int) (all X1 : List DV) : CallOK Tryd.prog 92 [.d (iD 2), .row 4 0 0 1 1 false, .ref 1 0, .ref 0 0] ([.ac [.fn 92 [] [.ref 1 0, .ref 0 0]], .dc [.sl [.sl (ints r0) 2 1 false false, .sl (ints r1) 2 1 false false] 2 1 false false], .dc all, .dc X1, .dc [iD 0]]) (.d (iD (lapW [] []))) ([.ac [.fn 92 [] [.ref 1 0, .ref 0 0]], .dc [.sl [.sl (ints r0) 2 1 false false, .sl (ints r1) 2 1 false false] 2 1 false false], .dc all, .dc X1, .dc [iD 0]]) := by
  refine ae_directF (ev92_ok []) 30 (by kernel_rfl : tget aeF 92 = some Tryd.f92) ((u92_2_0 (tabD []) (.sl (ints r0) 2 1 false false) (.sl (ints r1) 2 1 false false) all X1).trans ?_)
  rfl

theorem d92_1_1 (r0 r1 : List Int) (all : List DV) (q0 : Int) (hl : r1.length = 2) (hq0 : 0 ≤ q0 ∧ q0 < 2) : CallOK Tryd.prog 92 [.d (iD 1), .row 3 0 1 2 1 false, .ref 1 0, .ref 0 0] ([.ac [.fn 92 [] [.ref 1 0, .ref 0 0]], .dc [.sl [.sl (ints r0) 2 1 false false, .sl (ints r1) 2 1 false false] 2 1 false false], .dc all, .dc [iD q0, iD 0]]) (.d (iD (lapW [r1] [q0]))) ([.ac [.fn 92 [] [.ref 1 0, .ref 0 0]], .dc [.sl [.sl (ints r0) 2 1 false false, .sl (ints r1) 2 1 false false] 2 1 false false], .dc all, .dc [iD q0, iD 0]]) := by
  refine ae_directF (ev92_ok []) 30 (by kernel_rfl : tget aeF 92 = some Tryd.f92) ((u92_1_1 (tabD []) (ints r1) (.sl (ints r0) 2 1 false false) all q0).trans ?_)
  have hw : lapW [r1] [q0] = (stepD (r1.getD q0.toNat 0) false (lapW [] []) 0) := rfl
  have hl0 : r1.length = 2 := hl
  have g0 := d92_2_0 r0 r1 all [iD q0, iD 0]
  refine (inR_pos hq0.1 hq0.2).trans ?_
  refine (getI_nth (by omega)).trans ?_
  by_cases z0 : r1.getD q0.toNat 0 = 0
  · refine (cnd_pos z0).trans ?_
    rw [hw]; simp only [stepD, z0, if_true, if_false, ↓reduceIte, cond_true, cond_false] <;> rfl
  · refine (cnd_neg z0).trans ?_
    refine (cond_is (isP_iff.2 fun cs n s c nl e => ?_)).trans ?_
    · have e0 : some (DV.sl [] 0 1 false false) = some (DV.sl cs n s c nl) := e
      cases e0
      exact g0
    refine (inR_pos hq0.1 hq0.2).trans ?_
    refine (getI_nth (by omega)).trans ?_
    rw [hw]; simp only [stepD, z0, if_true, if_false, ↓reduceIte, cond_true, cond_false] <;> rfl

theorem d92_0_2 (r0 r1 : List Int) (q0 q1 : Int) (hl : r0.length = 2 ∧ r1.length = 2) (hq0 : 0 ≤ q0 ∧ q0 < 2) (hq1 : 0 ≤ q1 ∧ q1 < 2) : CallOK Tryd.prog 92 [.d (iD 0), .grow 2 1 false, .ref 1 0, .ref 0 0] ([.ac [.fn 92 [] [.ref 1 0, .ref 0 0]], .dc [.sl [.sl (ints r0) 2 1 false false, .sl (ints r1) 2 1 false false] 2 1 false false], .dc [iD q0, iD q1]]) (.d (iD (lapW [r0, r1] [q0, q1]))) ([.ac [.fn 92 [] [.ref 1 0, .ref 0 0]], .dc [.sl [.sl (ints r0) 2 1 false false, .sl (ints r1) 2 1 false false] 2 1 false false], .dc [iD q0, iD q1]]) := by
  refine ae_directF (ev92_ok [r1]) 30 (by kernel_rfl : tget aeF 92 = some Tryd.f92) ((u92_0_2 (tabD [r1]) (ints r0) (.sl (ints r1) 2 1 false false) q0 q1).trans ?_)
  have hw : lapW [r0, r1] [q0, q1] = (stepD (r0.getD q1.toNat 0) true (lapW [r1] [q0]) (stepD (r0.getD q0.toNat 0) false (lapW [r1] [q1]) 0)) := rfl
  have hl0 : r0.length = 2 := hl.1
  have g0 := d92_1_1 r0 r1 [iD q0, iD q1] q1 hl.2 hq1
  have g1 := d92_1_1 r0 r1 [iD q0, iD q1] q0 hl.2 hq0
  refine (inR_pos hq0.1 hq0.2).trans ?_
  refine (getI_nth (by omega)).trans ?_
  by_cases z0 : r0.getD q0.toNat 0 = 0
  · refine (cnd_pos z0).trans ?_
    refine (inR_pos hq1.1 hq1.2).trans ?_
    refine (getI_nth (by omega)).trans ?_
    by_cases z1 : r0.getD q1.toNat 0 = 0
    · refine (cnd_pos z1).trans ?_
      rw [hw]; simp only [stepD, z0, z1, if_true, if_false, ↓reduceIte, cond_true, cond_false] <;> rfl
    · refine (cnd_neg z1).trans ?_
      refine (cond_is (isP_iff.2 fun cs n s c nl e => ?_)).trans ?_
      · have e0 : some (DV.sl [iD q0] 1 1 false false) = some (DV.sl cs n s c nl) := e
        cases e0
        exact g1
      refine (inR_pos hq1.1 hq1.2).trans ?_
      refine (getI_nth (by omega)).trans ?_
      rw [hw]; simp only [stepD, z0, z1, if_true, if_false, ↓reduceIte, cond_true, cond_false] <;> rfl
  · refine (cnd_neg z0).trans ?_
    refine (cond_is (isP_iff.2 fun cs n s c nl e => ?_)).trans ?_
    · have e0 : some (DV.sl [iD q1] 1 1 false false) = some (DV.sl cs n s c nl) := e
      cases e0
      exact g0
    refine (inR_pos hq0.1 hq0.2).trans ?_
    refine (getI_nth (by omega)).trans ?_
    refine (inR_pos hq1.1 hq1.2).trans ?_
    refine (getI_nth (by omega)).trans ?_
    by_cases z1 : r0.getD q1.toNat 0 = 0
    · refine (cnd_pos z1).trans ?_
      rw [hw]; simp only [stepD, z0, z1, if_true, if_false, ↓reduceIte, cond_true, cond_false] <;> rfl
    · refine (cnd_neg z1).trans ?_
      refine (cond_is (isP_iff.2 fun cs n s c nl e => ?_)).trans ?_
      · have e0 : some (DV.sl [iD q0] 1 1 false false) = some (DV.sl cs n s c nl) := e
        cases e0
        exact g1
      refine (inR_pos hq1.1 hq1.2).trans ?_
      refine (getI_nth (by omega)).trans ?_
      rw [hw]; simp only [stepD, z0, z1, if_true, if_false, ↓reduceIte, cond_true, cond_false] <;> rfl

theorem d92_3_0 (r0 r1 r2 : List Int) (all X1 X2 : List DV) : CallOK Tryd.prog 92 [.d (iD 3), .row 5 0 0 1 1 false, .ref 1 0, .ref 0 0] ([.ac [.fn 92 [] [.ref 1 0, .ref 0 0]], .dc [.sl [.sl (ints r0) 3 1 false false, .sl (ints r1) 3 1 false false, .sl (ints r2) 3 1 false false] 3 1 false false], .dc all, .dc X1, .dc X2, .dc [iD 0]]) (.d (iD (lapW [] []))) ([.ac [.fn 92 [] [.ref 1 0, .ref 0 0]], .dc [.sl [.sl (ints r0) 3 1 false false, .sl (ints r1) 3 1 false false, .sl (ints r2) 3 1 false false] 3 1 false false], .dc all, .dc X1, .dc X2, .dc [iD 0]]) := by
  refine ae_directF (ev92_ok []) 30 (by kernel_rfl : tget aeF 92 = some Tryd.f92) ((u92_3_0 (tabD []) (.sl (ints r0) 3 1 false false) (.sl (ints r1) 3 1 false false) (.sl (ints r2) 3 1 false false) all X1 X2).trans ?_)
  rfl

theorem d92_2_1 (r0 r1 r2 : List Int) (all X1 : List DV) (q0 : Int) (hl : r2.length = 3) (hq0 : 0 ≤ q0 ∧ q0 < 3) : CallOK Tryd.prog 92 [.d (iD 2), .row 4 0 1 2 1 false, .ref 1 0, .ref 0 0] ([.ac [.fn 92 [] [.ref 1 0, .ref 0 0]], .dc [.sl [.sl (ints r0) 3 1 false false, .sl (ints r1) 3 1 false false, .sl (ints r2) 3 1 false false] 3 1 false false], .dc all, .dc X1, .dc [iD q0, iD 0]]) (.d (iD (lapW [r2] [q0]))) ([.ac [.fn 92 [] [.ref 1 0, .ref 0 0]], .dc [.sl [.sl (ints r0) 3 1 false false, .sl (ints r1) 3 1 false false, .sl (ints r2) 3 1 false false] 3 1 false false], .dc all, .dc X1, .dc [iD q0, iD 0]]) := by
  refine ae_directF (ev92_ok []) 30 (by kernel_rfl : tget aeF 92 = some Tryd.f92) ((u92_2_1 (tabD []) (ints r2) (.sl (ints r0) 3 1 false false) (.sl (ints r1) 3 1 false false) all X1 q0).trans ?_)
  have hw : lapW [r2] [q0] = (stepD (r2.getD q0.toNat 0) false (lapW [] []) 0) := rfl
  have hl0 : r2.length = 3 := hl
  have g0 := d92_3_0 r0 r1 r2 all X1 [iD q0, iD 0]
  refine (inR_pos hq0.1 hq0.2).trans ?_
  refine (getI_nth (by omega)).trans ?_
  by_cases z0 : r2.getD q0.toNat 0 = 0
  · refine (cnd_pos z0).trans ?_
    rw [hw]; simp only [stepD, z0, if_true, if_false, ↓reduceIte, cond_true, cond_false] <;> rfl
  · refine (cnd_neg z0).trans ?_
    refine (cond_is (isP_iff.2 fun cs n s c nl e => ?_)).trans ?_
    · have e0 : some (DV.sl [] 0 1 false false) = some (DV.sl cs n s c nl) := e
      cases e0
      exact g0
    refine (inR_pos hq0.1 hq0.2).trans ?_
    refine (getI_nth (by omega)).trans ?_
    rw [hw]; simp only [stepD, z0, if_true, if_false, ↓reduceIte, cond_true, cond_false] <;> rfl

theorem d92_1_2 (r0 r1 r2 : List Int) (all : List DV) (q0 q1 : Int) (hl : r1.length = 3 ∧ r2.length = 3) (hq0 : 0 ≤ q0 ∧ q0 < 3) (hq1 : 0 ≤ q1 ∧ q1 < 3) : CallOK Tryd.prog 92 [.d (iD 1), .row 3 0 2 3 1 false, .ref 1 0, .ref 0 0] ([.ac [.fn 92 [] [.ref 1 0, .ref 0 0]], .dc [.sl [.sl (ints r0) 3 1 false false, .sl (ints r1) 3 1 false false, .sl (ints r2) 3 1 false false] 3 1 false false], .dc all, .dc [iD q0, iD q1, iD 0]]) (.d (iD (lapW [r1, r2] [q0, q1]))) ([.ac [.fn 92 [] [.ref 1 0, .ref 0 0]], .dc [.sl [.sl (ints r0) 3 1 false false, .sl (ints r1) 3 1 false false, .sl (ints r2) 3 1 false false] 3 1 false false], .dc all, .dc [iD q0, iD q1, iD 0]]) := by
  refine ae_directF (ev92_ok [r2]) 30 (by kernel_rfl : tget aeF 92 = some Tryd.f92) ((u92_1_2 (tabD [r2]) (ints r1) (.sl (ints r0) 3 1 false false) (.sl (ints r2) 3 1 false false) all q0 q1).trans ?_)
  have hw : lapW [r1, r2] [q0, q1] = (stepD (r1.getD q1.toNat 0) true (lapW [r2] [q0]) (stepD (r1.getD q0.toNat 0) false (lapW [r2] [q1]) 0)) := rfl
  have hl0 : r1.length = 3 := hl.1
  have g0 := d92_2_1 r0 r1 r2 all [iD q0, iD q1, iD 0] q1 hl.2 hq1
  have g1 := d92_2_1 r0 r1 r2 all [iD q0, iD q1, iD 0] q0 hl.2 hq0
  refine (inR_pos hq0.1 hq0.2).trans ?_
  refine (getI_nth (by omega)).trans ?_
  by_cases z0 : r1.getD q0.toNat 0 = 0
  · refine (cnd_pos z0).trans ?_
    refine (inR_pos hq1.1 hq1.2).trans ?_
    refine (getI_nth (by omega)).trans ?_
    by_cases z1 : r1.getD q1.toNat 0 = 0
    · refine (cnd_pos z1).trans ?_
      rw [hw]; simp only [stepD, z0, z1, if_true, if_false, ↓reduceIte, cond_true, cond_false] <;> rfl
    · refine (cnd_neg z1).trans ?_
      refine (cond_is (isP_iff.2 fun cs n s c nl e => ?_)).trans ?_
      · have e0 : some (DV.sl [iD q0] 1 1 false false) = some (DV.sl cs n s c nl) := e
        cases e0
        exact g1
      refine (inR_pos hq1.1 hq1.2).trans ?_
      refine (getI_nth (by omega)).trans ?_
      rw [hw]; simp only [stepD, z0, z1, if_true, if_false, ↓reduceIte, cond_true, cond_false] <;> rfl
  · refine (cnd_neg z0).trans ?_
    refine (cond_is (isP_iff.2 fun cs n s c nl e => ?_)).trans ?_
    · have e0 : some (DV.sl [iD q1] 1 1 false false) = some (DV.sl cs n s c nl) := e
      cases e0
      exact g0
    refine (inR_pos hq0.1 hq0.2).trans ?_
    refine (getI_nth (by omega)).trans ?_
    refine (inR_pos hq1.1 hq1.2).trans ?_
    refine (getI_nth (by omega)).trans ?_
    by_cases z1 : r1.getD q1.toNat 0 = 0
    · refine (cnd_pos z1).trans ?_
      rw [hw]; simp only [stepD, z0, z1, if_true, if_false, ↓reduceIte, cond_true, cond_false] <;> rfl
    · refine (cnd_neg z1).trans ?_
      refine (cond_is (isP_iff.2 fun cs n s c nl e => ?_)).trans ?_
      · have e0 : some (DV.sl [iD q0] 1 1 false false) = some (DV.sl cs n s c nl) := e
        cases e0
        exact g1
      refine (inR_pos hq1.1 hq1.2).trans ?_
      refine (getI_nth (by omega)).trans ?_
      rw [hw]; simp only [stepD, z0, z1, if_true, if_false, ↓reduceIte, cond_true, cond_false] <;> rfl

theorem d92_0_3 (r0 r1 r2 : List Int) (q0 q1 q2 : Int) (hl : r0.length = 3 ∧ r1.length = 3 ∧ r2.length = 3) (hq0 : 0 ≤ q0 ∧ q0 < 3) (hq1 : 0 ≤ q1 ∧ q1 < 3) (hq2 : 0 ≤ q2 ∧ q2 < 3) : CallOK Tryd.prog 92 [.d (iD 0), .grow 2 1 false, .ref 1 0, .ref 0 0] ([.ac [.fn 92 [] [.ref 1 0, .ref 0 0]], .dc [.sl [.sl (ints r0) 3 1 false false, .sl (ints r1) 3 1 false false, .sl (ints r2) 3 1 false false] 3 1 false false], .dc [iD q0, iD q1, iD q2]]) (.d (iD (lapW [r0, r1, r2] [q0, q1, q2]))) ([.ac [.fn 92 [] [.ref 1 0, .ref 0 0]], .dc [.sl [.sl (ints r0) 3 1 false false, .sl (ints r1) 3 1 false false, .sl (ints r2) 3 1 false false] 3 1 false false], .dc [iD q0, iD q1, iD q2]]) := by
  refine ae_directF (ev92_ok [r1, r2]) 30 (by kernel_rfl : tget aeF 92 = some Tryd.f92) ((u92_0_3 (tabD [r1, r2]) (ints r0) (.sl (ints r1) 3 1 false false) (.sl (ints r2) 3 1 false false) q0 q1 q2).trans ?_)
  have hw : lapW [r0, r1, r2] [q0, q1, q2] = (stepD (r0.getD q2.toNat 0) false (lapW [r1, r2] [q0, q1]) (stepD (r0.getD q1.toNat 0) true (lapW [r1, r2] [q0, q2]) (stepD (r0.getD q0.toNat 0) false (lapW [r1, r2] [q1, q2]) 0))) := rfl
  have hl0 : r0.length = 3 := hl.1
  have g0 := d92_1_2 r0 r1 r2 [iD q0, iD q1, iD q2] q1 q2 hl.2 hq1 hq2
  have g1 := d92_1_2 r0 r1 r2 [iD q0, iD q1, iD q2] q0 q2 hl.2 hq0 hq2
  have g2 := d92_1_2 r0 r1 r2 [iD q0, iD q1, iD q2] q0 q1 hl.2 hq0 hq1
  refine (inR_pos hq0.1 hq0.2).trans ?_
  refine (getI_nth (by omega)).trans ?_
  by_cases z0 : r0.getD q0.toNat 0 = 0
  · refine (cnd_pos z0).trans ?_
    refine (inR_pos hq1.1 hq1.2).trans ?_
    refine (getI_nth (by omega)).trans ?_
    by_cases z1 : r0.getD q1.toNat 0 = 0
    · refine (cnd_pos z1).trans ?_
      refine (inR_pos hq2.1 hq2.2).trans ?_
      refine (getI_nth (by omega)).trans ?_
      by_cases z2 : r0.getD q2.toNat 0 = 0
      · refine (cnd_pos z2).trans ?_
        rw [hw]; simp only [stepD, z0, z1, z2, if_true, if_false, ↓reduceIte, cond_true, cond_false] <;> rfl
      · refine (cnd_neg z2).trans ?_
        refine (cond_is (isP_iff.2 fun cs n s c nl e => ?_)).trans ?_
        · have e0 : some (DV.sl [iD q0, iD q1] 2 1 false false) = some (DV.sl cs n s c nl) := e
          cases e0
          exact g2
        refine (inR_pos hq2.1 hq2.2).trans ?_
        refine (getI_nth (by omega)).trans ?_
        rw [hw]; simp only [stepD, z0, z1, z2, if_true, if_false, ↓reduceIte, cond_true, cond_false] <;> rfl
    · refine (cnd_neg z1).trans ?_
      refine (cond_is (isP_iff.2 fun cs n s c nl e => ?_)).trans ?_
      · have e0 : some (DV.sl [iD q0, iD q2] 2 1 false false) = some (DV.sl cs n s c nl) := e
        cases e0
        exact g1
      refine (inR_pos hq1.1 hq1.2).trans ?_
      refine (getI_nth (by omega)).trans ?_
      refine (inR_pos hq2.1 hq2.2).trans ?_
      refine (getI_nth (by omega)).trans ?_
      by_cases z2 : r0.getD q2.toNat 0 = 0
      · refine (cnd_pos z2).trans ?_
        rw [hw]; simp only [stepD, z0, z1, z2, if_true, if_false, ↓reduceIte, cond_true, cond_false] <;> rfl
      · refine (cnd_neg z2).trans ?_
        refine (cond_is (isP_iff.2 fun cs n s c nl e => ?_)).trans ?_
        · have e0 : some (DV.sl [iD q0, iD q1] 2 1 false false) = some (DV.sl cs n s c nl) := e
          cases e0
          exact g2
        refine (inR_pos hq2.1 hq2.2).trans ?_
        refine (getI_nth (by omega)).trans ?_
        rw [hw]; simp only [stepD, z0, z1, z2, if_true, if_false, ↓reduceIte, cond_true, cond_false] <;> rfl
  · refine (cnd_neg z0).trans ?_
    refine (cond_is (isP_iff.2 fun cs n s c nl e => ?_)).trans ?_
    · have e0 : some (DV.sl [iD q1, iD q2] 2 1 false false) = some (DV.sl cs n s c nl) := e
      cases e0
      exact g0
    refine (inR_pos hq0.1 hq0.2).trans ?_
    refine (getI_nth (by omega)).trans ?_
    refine (inR_pos hq1.1 hq1.2).trans ?_
    refine (getI_nth (by omega)).trans ?_
    by_cases z1 : r0.getD q1.toNat 0 = 0
    · refine (cnd_pos z1).trans ?_
      refine (inR_pos hq2.1 hq2.2).trans ?_
      refine (getI_nth (by omega)).trans ?_
      by_cases z2 : r0.getD q2.toNat 0 = 0
      · refine (cnd_pos z2).trans ?_
        rw [hw]; simp only [stepD, z0, z1, z2, if_true, if_false, ↓reduceIte, cond_true, cond_false] <;> rfl
      · refine (cnd_neg z2).trans ?_
        refine (cond_is (isP_iff.2 fun cs n s c nl e => ?_)).trans ?_
        · have e0 : some (DV.sl [iD q0, iD q1] 2 1 false false) = some (DV.sl cs n s c nl) := e
          cases e0
          exact g2
        refine (inR_pos hq2.1 hq2.2).trans ?_
        refine (getI_nth (by omega)).trans ?_
        rw [hw]; simp only [stepD, z0, z1, z2, if_true, if_false, ↓reduceIte, cond_true, cond_false] <;> rfl
    · refine (cnd_neg z1).trans ?_
      refine (cond_is (isP_iff.2 fun cs n s c nl e => ?_)).trans ?_
      · have e0 : some (DV.sl [iD q0, iD q2] 2 1 false false) = some (DV.sl cs n s c nl) := e
        cases e0
        exact g1
      refine (inR_pos hq1.1 hq1.2).trans ?_
      refine (getI_nth (by omega)).trans ?_
      refine (inR_pos hq2.1 hq2.2).trans ?_
      refine (getI_nth (by omega)).trans ?_
      by_cases z2 : r0.getD q2.toNat 0 = 0
      · refine (cnd_pos z2).trans ?_
        rw [hw]; simp only [stepD, z0, z1, z2, if_true, if_false, ↓reduceIte, cond_true, cond_false] <;> rfl
      · refine (cnd_neg z2).trans ?_
        refine (cond_is (isP_iff.2 fun cs n s c nl e => ?_)).trans ?_
        · have e0 : some (DV.sl [iD q0, iD q1] 2 1 false false) = some (DV.sl cs n s c nl) := e
          cases e0
          exact g2
        refine (inR_pos hq2.1 hq2.2).trans ?_
        refine (getI_nth (by omega)).trans ?_
        rw [hw]; simp only [stepD, z0, z1, z2, if_true, if_false, ↓reduceIte, cond_true, cond_false] <;> rfl

end Go.Proofs.YtiicbenhhdbnoaaDoor

/- Chapter 09: the document's determinant, by the set of columns. Written by wip/tools/gen77.py. -/
namespace Go.Proofs.YtiicbenhhdbnoaaDoor
open Go Go.AE
set_option maxRecDepth 100000
def sh77 (t : List DV → Int) : Nat → List DV → DV := fun _ ds => iD (t ds)
theorem w0 : W 0 = 0 := rfl
end Go.Proofs.YtiicbenhhdbnoaaDoor

/- Chapter 09: minors, of the program and of the document. Written by wip/tools/genC1.py. -/
namespace Go.Proofs.YtiicbenhhdbnoaaDoor
open Go Go.AE
set_option maxRecDepth 100000

theorem u82_1 (T : TabD) (m0 : DV) : pureE aeC (ev92 T) 30 82 Tryd.f82 [.sl [m0] 1 1 false false] =
  bif TabD.ok T 0 (AV.grow 2 1 false) (AV.ref 1 0) (AV.ref 0 0) [.ac [AV.fn 92 [] [AV.ref 1 0, AV.ref 0 0]], .dc [DV.sl [m0] 1 1 false false], .dc [iD 0]] then
    some (iD (TabD.D T 0 [iD 0]))
  else
    none := by kernel_rfl

theorem u82_2 (T : TabD) (m0 m1 : DV) : pureE aeC (ev92 T) 30 82 Tryd.f82 [.sl [m0, m1] 2 1 false false] =
  bif TabD.ok T 0 (AV.grow 2 1 false) (AV.ref 1 0) (AV.ref 0 0) [.ac [AV.fn 92 [] [AV.ref 1 0, AV.ref 0 0]], .dc [DV.sl [m0, m1] 2 1 false false], .dc [iD 0, iD 1]] then
    some (iD (TabD.D T 0 [iD 0, iD 1]))
  else
    none := by kernel_rfl

theorem u82_3 (T : TabD) (m0 m1 m2 : DV) : pureE aeC (ev92 T) 30 82 Tryd.f82 [.sl [m0, m1, m2] 3 1 false false] =
  bif TabD.ok T 0 (AV.grow 2 1 false) (AV.ref 1 0) (AV.ref 0 0) [.ac [AV.fn 92 [] [AV.ref 1 0, AV.ref 0 0]], .dc [DV.sl [m0, m1, m2] 3 1 false false], .dc [iD 0, iD 1, iD 2]] then
    some (iD (TabD.D T 0 [iD 0, iD 1, iD 2]))
  else
    none := by kernel_rfl

theorem det82_1 (r0 : List Int) (hl : r0.length = 1) : PureOK Tryd.prog 82 [.sl [.sl (ints r0) 1 1 false false] 1 1 false false] (iD (lapW [r0] [0])) := by
  refine ae_direct (ev92_ok [r0]) 30 (by kernel_rfl : tget aeF 82 = some Tryd.f82) ((u82_1 (tabD [r0]) (.sl (ints r0) 1 1 false false)).trans ?_)
  refine (cond_is (isP_iff.2 fun cs n s c nl e => ?_)).trans ?_
  · have e0 : some (DV.sl [iD 0] 1 1 false false) = some (DV.sl cs n s c nl) := e
    cases e0
    exact d92_0_1 r0 0 hl (by omega)
  · rfl

theorem det82_2 (r0 r1 : List Int) (hl : r0.length = 2 ∧ r1.length = 2) : PureOK Tryd.prog 82 [.sl [.sl (ints r0) 2 1 false false, .sl (ints r1) 2 1 false false] 2 1 false false] (iD (lapW [r0, r1] [0, 1])) := by
  refine ae_direct (ev92_ok [r0, r1]) 30 (by kernel_rfl : tget aeF 82 = some Tryd.f82) ((u82_2 (tabD [r0, r1]) (.sl (ints r0) 2 1 false false) (.sl (ints r1) 2 1 false false)).trans ?_)
  refine (cond_is (isP_iff.2 fun cs n s c nl e => ?_)).trans ?_
  · have e0 : some (DV.sl [iD 0, iD 1] 2 1 false false) = some (DV.sl cs n s c nl) := e
    cases e0
    exact d92_0_2 r0 r1 0 1 hl (by omega) (by omega)
  · rfl

theorem det82_3 (r0 r1 r2 : List Int) (hl : r0.length = 3 ∧ r1.length = 3 ∧ r2.length = 3) : PureOK Tryd.prog 82 [.sl [.sl (ints r0) 3 1 false false, .sl (ints r1) 3 1 false false, .sl (ints r2) 3 1 false false] 3 1 false false] (iD (lapW [r0, r1, r2] [0, 1, 2])) := by
  refine ae_direct (ev92_ok [r0, r1, r2]) 30 (by kernel_rfl : tget aeF 82 = some Tryd.f82) ((u82_3 (tabD [r0, r1, r2]) (.sl (ints r0) 3 1 false false) (.sl (ints r1) 3 1 false false) (.sl (ints r2) 3 1 false false)).trans ?_)
  refine (cond_is (isP_iff.2 fun cs n s c nl e => ?_)).trans ?_
  · have e0 : some (DV.sl [iD 0, iD 1, iD 2] 3 1 false false) = some (DV.sl cs n s c nl) := e
    cases e0
    exact d92_0_3 r0 r1 r2 0 1 2 hl (by omega) (by omega) (by omega)
  · rfl

def atL (a : List Int) (i : Int) : Int := if 0 ≤ i then a.getD i.toNat 0 else 0
def hurR (a : List Int) (n k i : Nat) : List Int := (List.range k).map fun (j : Nat) => atL a ((n : Int) - 2 * ((j : Int) + 1) + ((i : Int) + 1))
/-- The first k rows and columns of a polynomial's matrix. -/
def hurM (a : List Int) (n k : Nat) : List (List Int) := (List.range k).map (hurR a n k)
def colsN (k : Nat) : List Int := (List.range k).map fun (i : Nat) => (i : Int)
/-- The minors of a polynomial, modulo 2 ^ 64. -/
def minL (a : List Int) : List Int := (List.range (a.length - 1)).map fun t => lapW (hurM a (a.length - 1) (t + 1)) (colsN (t + 1))
def tM (ds : List DV) : Int := match ds with
  | [m] => lapW (unM m) (colsN (unM m).length)
  | _ => 0
theorem g82 {m : DV} {v : Int} (h : PureOK Tryd.prog 82 [m] (iD v)) (e : tM [m] = v) : okS (sh77 tM) 82 [m] = true := okS_is (by show PureOK Tryd.prog 82 [m] (iD (tM [m])); rw [e]; exact h)
end Go.Proofs.YtiicbenhhdbnoaaDoor

/- Chapter 09: whether a polynomial is steady, by the program and by the document. Written by wip/tools/genC2.py. -/
namespace Go.Proofs.YtiicbenhhdbnoaaDoor
open Go Go.AE
set_option maxRecDepth 100000

def lastI (a : List Int) : Int := a.getD (a.length - 1) 0
/-- With a last coefficient that is not less than 0. -/
def sgnW (a : List Int) : List Int := if lastI a < 0 then a.map (fun x => IntKind.wrap .i64 (0 - x)) else a
def steadyW (a : List Int) : Bool := (minL (sgnW a)).all fun m => decide (0 < m)
def chain : List Int → Option DV
  | [] => some (bD true)
  | m :: r => bif decide (m ≤ 0) then some (bD false) else chain r
theorem chain_all : ∀ l : List Int, chain l = some (bD (l.all fun m => decide (0 < m)))
  | [] => rfl
  | m :: r => by
    simp only [chain]
    by_cases h : m ≤ 0
    · rw [cnd_pos h, List.all_cons, decide_eq_false (by omega)]; rfl
    · rw [cnd_neg h, chain_all r, List.all_cons, decide_eq_true (by omega), Bool.true_and]
end Go.Proofs.YtiicbenhhdbnoaaDoor

/- Chapter 09: checks, discs, halves, turned ones. Written by wip/tools/genC3.py. -/
namespace Go.Proofs.YtiicbenhhdbnoaaDoor
open Go Go.AE
set_option maxRecDepth 100000

/-- All calls are walked. -/
noncomputable def evA : Ev := evW [] (okS noS) noS
theorem walkA {f : FuncId} {fn : Func} {ds : List DV} {d : DV} (h : tget aeF f = some fn) (e : pureE aeC evA 30 f fn ds = some d) : PureOK Tryd.prog f ds d := walk h e

/-! ### Checks -/
def wch (good bad : Option DV) : List Int → Option DV
  | [] => good
  | x :: r => bif decide (x < -30) then bad else bif decide (30 < x) then bad else wch good bad r
def withinB (l : List Int) : Bool := l.all fun x => decide (-30 ≤ x) && decide (x ≤ 30)
theorem wch_eq (g b : Option DV) : ∀ l : List Int, wch g b l = bif withinB l then g else b
  | [] => rfl
  | x :: r => by
    simp only [wch, withinB, List.all_cons]
    by_cases h1 : x < -30
    · rw [cnd_pos h1, decide_eq_false (p := -30 ≤ x) (by omega)]; rfl
    · rw [cnd_neg h1]
      by_cases h2 : 30 < x
      · rw [cnd_pos h2, decide_eq_false (p := x ≤ 30) (by omega), Bool.and_false]; rfl
      · rw [cnd_neg h2, decide_eq_true (p := -30 ≤ x) (by omega), decide_eq_true (p := x ≤ 30) (by omega), wch_eq g b r]; rfl
/-- Whether this is a polynomial. -/
def polyB (a : List Int) : Bool := decide (1 ≤ a.length) && (decide (a.length ≤ 6) && (withinB a && !decide (lastI a = 0)))
def checkI (a : List Int) : Int := bif polyB a then 0 else 90

theorem c53_0 (c nl : Bool) : PureOK Tryd.prog 53 [ls [] c nl] (iD (checkI [])) := by
  exact walkA (by kernel_rfl : tget aeF 53 = some Tryd.f53) (by kernel_rfl)

theorem c53_1 (x0 : Int) (c nl : Bool) : PureOK Tryd.prog 53 [ls [x0] c nl] (iD (checkI [x0])) := by
  have h : pureE aeC evA 30 53 Tryd.f53 [.sl [iD x0] 1 1 c nl] = wch (bif decide (x0 = 0) then some (iD 90) else some (iD 0)) (some (iD 90)) [x0] := by kernel_rfl
  refine walkA (by kernel_rfl : tget aeF 53 = some Tryd.f53) (h.trans ((wch_eq _ _ _).trans ?_))
  show _ = some (iD (bif withinB [x0] && !decide (x0 = 0) then 0 else 90))
  cases withinB [x0] <;> cases decide (x0 = 0) <;> rfl

theorem c53_2 (x0 x1 : Int) (c nl : Bool) : PureOK Tryd.prog 53 [ls [x0, x1] c nl] (iD (checkI [x0, x1])) := by
  have h : pureE aeC evA 30 53 Tryd.f53 [.sl [iD x0, iD x1] 2 1 c nl] = wch (bif decide (x1 = 0) then some (iD 90) else some (iD 0)) (some (iD 90)) [x0, x1] := by kernel_rfl
  refine walkA (by kernel_rfl : tget aeF 53 = some Tryd.f53) (h.trans ((wch_eq _ _ _).trans ?_))
  show _ = some (iD (bif withinB [x0, x1] && !decide (x1 = 0) then 0 else 90))
  cases withinB [x0, x1] <;> cases decide (x1 = 0) <;> rfl

theorem c53_3 (x0 x1 x2 : Int) (c nl : Bool) : PureOK Tryd.prog 53 [ls [x0, x1, x2] c nl] (iD (checkI [x0, x1, x2])) := by
  have h : pureE aeC evA 30 53 Tryd.f53 [.sl [iD x0, iD x1, iD x2] 3 1 c nl] = wch (bif decide (x2 = 0) then some (iD 90) else some (iD 0)) (some (iD 90)) [x0, x1, x2] := by kernel_rfl
  refine walkA (by kernel_rfl : tget aeF 53 = some Tryd.f53) (h.trans ((wch_eq _ _ _).trans ?_))
  show _ = some (iD (bif withinB [x0, x1, x2] && !decide (x2 = 0) then 0 else 90))
  cases withinB [x0, x1, x2] <;> cases decide (x2 = 0) <;> rfl

theorem c53_4 (x0 x1 x2 x3 : Int) (c nl : Bool) : PureOK Tryd.prog 53 [ls [x0, x1, x2, x3] c nl] (iD (checkI [x0, x1, x2, x3])) := by
  have h : pureE aeC evA 30 53 Tryd.f53 [.sl [iD x0, iD x1, iD x2, iD x3] 4 1 c nl] = wch (bif decide (x3 = 0) then some (iD 90) else some (iD 0)) (some (iD 90)) [x0, x1, x2, x3] := by kernel_rfl
  refine walkA (by kernel_rfl : tget aeF 53 = some Tryd.f53) (h.trans ((wch_eq _ _ _).trans ?_))
  show _ = some (iD (bif withinB [x0, x1, x2, x3] && !decide (x3 = 0) then 0 else 90))
  cases withinB [x0, x1, x2, x3] <;> cases decide (x3 = 0) <;> rfl

theorem c53_5 (x0 x1 x2 x3 x4 : Int) (c nl : Bool) : PureOK Tryd.prog 53 [ls [x0, x1, x2, x3, x4] c nl] (iD (checkI [x0, x1, x2, x3, x4])) := by
  have h : pureE aeC evA 30 53 Tryd.f53 [.sl [iD x0, iD x1, iD x2, iD x3, iD x4] 5 1 c nl] = wch (bif decide (x4 = 0) then some (iD 90) else some (iD 0)) (some (iD 90)) [x0, x1, x2, x3, x4] := by kernel_rfl
  refine walkA (by kernel_rfl : tget aeF 53 = some Tryd.f53) (h.trans ((wch_eq _ _ _).trans ?_))
  show _ = some (iD (bif withinB [x0, x1, x2, x3, x4] && !decide (x4 = 0) then 0 else 90))
  cases withinB [x0, x1, x2, x3, x4] <;> cases decide (x4 = 0) <;> rfl

theorem c53_6 (x0 x1 x2 x3 x4 x5 : Int) (c nl : Bool) : PureOK Tryd.prog 53 [ls [x0, x1, x2, x3, x4, x5] c nl] (iD (checkI [x0, x1, x2, x3, x4, x5])) := by
  have h : pureE aeC evA 30 53 Tryd.f53 [.sl [iD x0, iD x1, iD x2, iD x3, iD x4, iD x5] 6 1 c nl] = wch (bif decide (x5 = 0) then some (iD 90) else some (iD 0)) (some (iD 90)) [x0, x1, x2, x3, x4, x5] := by kernel_rfl
  refine walkA (by kernel_rfl : tget aeF 53 = some Tryd.f53) (h.trans ((wch_eq _ _ _).trans ?_))
  show _ = some (iD (bif withinB [x0, x1, x2, x3, x4, x5] && !decide (x5 = 0) then 0 else 90))
  cases withinB [x0, x1, x2, x3, x4, x5] <;> cases decide (x5 = 0) <;> rfl

theorem c53_7 (x0 x1 x2 x3 x4 x5 x6 : Int) (c nl : Bool) : PureOK Tryd.prog 53 [ls [x0, x1, x2, x3, x4, x5, x6] c nl] (iD (checkI [x0, x1, x2, x3, x4, x5, x6])) := by
  exact walkA (by kernel_rfl : tget aeF 53 = some Tryd.f53) (by kernel_rfl)

theorem c53_8 (x0 x1 x2 x3 x4 x5 x6 x7 : Int) (c nl : Bool) : PureOK Tryd.prog 53 [ls [x0, x1, x2, x3, x4, x5, x6, x7] c nl] (iD (checkI [x0, x1, x2, x3, x4, x5, x6, x7])) := by
  exact walkA (by kernel_rfl : tget aeF 53 = some Tryd.f53) (by kernel_rfl)

theorem c53 : ∀ (a : List Int) (c nl : Bool), a.length ≤ 8 → PureOK Tryd.prog 53 [ls a c nl] (iD (checkI a))
  | [], c, nl, _ => c53_0  c nl
  | [x0], c, nl, _ => c53_1 x0 c nl
  | [x0, x1], c, nl, _ => c53_2 x0 x1 c nl
  | [x0, x1, x2], c, nl, _ => c53_3 x0 x1 x2 c nl
  | [x0, x1, x2, x3], c, nl, _ => c53_4 x0 x1 x2 x3 c nl
  | [x0, x1, x2, x3, x4], c, nl, _ => c53_5 x0 x1 x2 x3 x4 c nl
  | [x0, x1, x2, x3, x4, x5], c, nl, _ => c53_6 x0 x1 x2 x3 x4 x5 c nl
  | [x0, x1, x2, x3, x4, x5, x6], c, nl, _ => c53_7 x0 x1 x2 x3 x4 x5 x6 c nl
  | [x0, x1, x2, x3, x4, x5, x6, x7], c, nl, _ => c53_8 x0 x1 x2 x3 x4 x5 x6 x7 c nl
  | _ :: _ :: _ :: _ :: _ :: _ :: _ :: _ :: _ :: _, _, _, h => absurd h (by simp)

theorem c62_0 (c nl : Bool) : PureOK Tryd.prog 62 [ls [] c nl] (bD (withinB [])) := by
  have h : pureE aeC evA 30 62 Tryd.f62 [.sl [] 0 1 c nl] = wch (some (bD true)) (some (bD false)) [] := by kernel_rfl
  refine walkA (by kernel_rfl : tget aeF 62 = some Tryd.f62) (h.trans ((wch_eq _ _ _).trans ?_))
  cases withinB [] <;> rfl
theorem c62_1 (x0 : Int) (c nl : Bool) : PureOK Tryd.prog 62 [ls [x0] c nl] (bD (withinB [x0])) := by
  have h : pureE aeC evA 30 62 Tryd.f62 [.sl [iD x0] 1 1 c nl] = wch (some (bD true)) (some (bD false)) [x0] := by kernel_rfl
  refine walkA (by kernel_rfl : tget aeF 62 = some Tryd.f62) (h.trans ((wch_eq _ _ _).trans ?_))
  cases withinB [x0] <;> rfl
theorem c62_2 (x0 x1 : Int) (c nl : Bool) : PureOK Tryd.prog 62 [ls [x0, x1] c nl] (bD (withinB [x0, x1])) := by
  have h : pureE aeC evA 30 62 Tryd.f62 [.sl [iD x0, iD x1] 2 1 c nl] = wch (some (bD true)) (some (bD false)) [x0, x1] := by kernel_rfl
  refine walkA (by kernel_rfl : tget aeF 62 = some Tryd.f62) (h.trans ((wch_eq _ _ _).trans ?_))
  cases withinB [x0, x1] <;> rfl
theorem c62_3 (x0 x1 x2 : Int) (c nl : Bool) : PureOK Tryd.prog 62 [ls [x0, x1, x2] c nl] (bD (withinB [x0, x1, x2])) := by
  have h : pureE aeC evA 30 62 Tryd.f62 [.sl [iD x0, iD x1, iD x2] 3 1 c nl] = wch (some (bD true)) (some (bD false)) [x0, x1, x2] := by kernel_rfl
  refine walkA (by kernel_rfl : tget aeF 62 = some Tryd.f62) (h.trans ((wch_eq _ _ _).trans ?_))
  cases withinB [x0, x1, x2] <;> rfl
theorem c62_4 (x0 x1 x2 x3 : Int) (c nl : Bool) : PureOK Tryd.prog 62 [ls [x0, x1, x2, x3] c nl] (bD (withinB [x0, x1, x2, x3])) := by
  have h : pureE aeC evA 30 62 Tryd.f62 [.sl [iD x0, iD x1, iD x2, iD x3] 4 1 c nl] = wch (some (bD true)) (some (bD false)) [x0, x1, x2, x3] := by kernel_rfl
  refine walkA (by kernel_rfl : tget aeF 62 = some Tryd.f62) (h.trans ((wch_eq _ _ _).trans ?_))
  cases withinB [x0, x1, x2, x3] <;> rfl
theorem c62_5 (x0 x1 x2 x3 x4 : Int) (c nl : Bool) : PureOK Tryd.prog 62 [ls [x0, x1, x2, x3, x4] c nl] (bD (withinB [x0, x1, x2, x3, x4])) := by
  have h : pureE aeC evA 30 62 Tryd.f62 [.sl [iD x0, iD x1, iD x2, iD x3, iD x4] 5 1 c nl] = wch (some (bD true)) (some (bD false)) [x0, x1, x2, x3, x4] := by kernel_rfl
  refine walkA (by kernel_rfl : tget aeF 62 = some Tryd.f62) (h.trans ((wch_eq _ _ _).trans ?_))
  cases withinB [x0, x1, x2, x3, x4] <;> rfl
theorem c62_6 (x0 x1 x2 x3 x4 x5 : Int) (c nl : Bool) : PureOK Tryd.prog 62 [ls [x0, x1, x2, x3, x4, x5] c nl] (bD (withinB [x0, x1, x2, x3, x4, x5])) := by
  have h : pureE aeC evA 30 62 Tryd.f62 [.sl [iD x0, iD x1, iD x2, iD x3, iD x4, iD x5] 6 1 c nl] = wch (some (bD true)) (some (bD false)) [x0, x1, x2, x3, x4, x5] := by kernel_rfl
  refine walkA (by kernel_rfl : tget aeF 62 = some Tryd.f62) (h.trans ((wch_eq _ _ _).trans ?_))
  cases withinB [x0, x1, x2, x3, x4, x5] <;> rfl
theorem c62_7 (x0 x1 x2 x3 x4 x5 x6 : Int) (c nl : Bool) : PureOK Tryd.prog 62 [ls [x0, x1, x2, x3, x4, x5, x6] c nl] (bD (withinB [x0, x1, x2, x3, x4, x5, x6])) := by
  have h : pureE aeC evA 30 62 Tryd.f62 [.sl [iD x0, iD x1, iD x2, iD x3, iD x4, iD x5, iD x6] 7 1 c nl] = wch (some (bD true)) (some (bD false)) [x0, x1, x2, x3, x4, x5, x6] := by kernel_rfl
  refine walkA (by kernel_rfl : tget aeF 62 = some Tryd.f62) (h.trans ((wch_eq _ _ _).trans ?_))
  cases withinB [x0, x1, x2, x3, x4, x5, x6] <;> rfl
theorem c62_8 (x0 x1 x2 x3 x4 x5 x6 x7 : Int) (c nl : Bool) : PureOK Tryd.prog 62 [ls [x0, x1, x2, x3, x4, x5, x6, x7] c nl] (bD (withinB [x0, x1, x2, x3, x4, x5, x6, x7])) := by
  have h : pureE aeC evA 30 62 Tryd.f62 [.sl [iD x0, iD x1, iD x2, iD x3, iD x4, iD x5, iD x6, iD x7] 8 1 c nl] = wch (some (bD true)) (some (bD false)) [x0, x1, x2, x3, x4, x5, x6, x7] := by kernel_rfl
  refine walkA (by kernel_rfl : tget aeF 62 = some Tryd.f62) (h.trans ((wch_eq _ _ _).trans ?_))
  cases withinB [x0, x1, x2, x3, x4, x5, x6, x7] <;> rfl
theorem c62 : ∀ (a : List Int) (c nl : Bool), a.length ≤ 8 → PureOK Tryd.prog 62 [ls a c nl] (bD (withinB a))
  | [], c, nl, _ => c62_0  c nl
  | [x0], c, nl, _ => c62_1 x0 c nl
  | [x0, x1], c, nl, _ => c62_2 x0 x1 c nl
  | [x0, x1, x2], c, nl, _ => c62_3 x0 x1 x2 c nl
  | [x0, x1, x2, x3], c, nl, _ => c62_4 x0 x1 x2 x3 c nl
  | [x0, x1, x2, x3, x4], c, nl, _ => c62_5 x0 x1 x2 x3 x4 c nl
  | [x0, x1, x2, x3, x4, x5], c, nl, _ => c62_6 x0 x1 x2 x3 x4 x5 c nl
  | [x0, x1, x2, x3, x4, x5, x6], c, nl, _ => c62_7 x0 x1 x2 x3 x4 x5 x6 c nl
  | [x0, x1, x2, x3, x4, x5, x6, x7], c, nl, _ => c62_8 x0 x1 x2 x3 x4 x5 x6 x7 c nl
  | _ :: _ :: _ :: _ :: _ :: _ :: _ :: _ :: _ :: _, _, _, h => absurd h (by simp)

theorem c59_0 (c nl : Bool) : PureOK Tryd.prog 59 [ls [] c nl] (bD (withinB [])) := by
  have h : pureE aeC evA 30 59 Tryd.f59 [.sl [] 0 1 c nl] = wch (some (bD true)) (some (bD false)) [] := by kernel_rfl
  refine walkA (by kernel_rfl : tget aeF 59 = some Tryd.f59) (h.trans ((wch_eq _ _ _).trans ?_))
  cases withinB [] <;> rfl
theorem c59_1 (x0 : Int) (c nl : Bool) : PureOK Tryd.prog 59 [ls [x0] c nl] (bD (withinB [x0])) := by
  have h : pureE aeC evA 30 59 Tryd.f59 [.sl [iD x0] 1 1 c nl] = wch (some (bD true)) (some (bD false)) [x0] := by kernel_rfl
  refine walkA (by kernel_rfl : tget aeF 59 = some Tryd.f59) (h.trans ((wch_eq _ _ _).trans ?_))
  cases withinB [x0] <;> rfl
theorem c59_2 (x0 x1 : Int) (c nl : Bool) : PureOK Tryd.prog 59 [ls [x0, x1] c nl] (bD (withinB [x0, x1])) := by
  have h : pureE aeC evA 30 59 Tryd.f59 [.sl [iD x0, iD x1] 2 1 c nl] = wch (some (bD true)) (some (bD false)) [x0, x1] := by kernel_rfl
  refine walkA (by kernel_rfl : tget aeF 59 = some Tryd.f59) (h.trans ((wch_eq _ _ _).trans ?_))
  cases withinB [x0, x1] <;> rfl
theorem c59_3 (x0 x1 x2 : Int) (c nl : Bool) : PureOK Tryd.prog 59 [ls [x0, x1, x2] c nl] (bD (withinB [x0, x1, x2])) := by
  have h : pureE aeC evA 30 59 Tryd.f59 [.sl [iD x0, iD x1, iD x2] 3 1 c nl] = wch (some (bD true)) (some (bD false)) [x0, x1, x2] := by kernel_rfl
  refine walkA (by kernel_rfl : tget aeF 59 = some Tryd.f59) (h.trans ((wch_eq _ _ _).trans ?_))
  cases withinB [x0, x1, x2] <;> rfl
theorem c59_4 (x0 x1 x2 x3 : Int) (c nl : Bool) : PureOK Tryd.prog 59 [ls [x0, x1, x2, x3] c nl] (bD (withinB [x0, x1, x2, x3])) := by
  have h : pureE aeC evA 30 59 Tryd.f59 [.sl [iD x0, iD x1, iD x2, iD x3] 4 1 c nl] = wch (some (bD true)) (some (bD false)) [x0, x1, x2, x3] := by kernel_rfl
  refine walkA (by kernel_rfl : tget aeF 59 = some Tryd.f59) (h.trans ((wch_eq _ _ _).trans ?_))
  cases withinB [x0, x1, x2, x3] <;> rfl
theorem c59_5 (x0 x1 x2 x3 x4 : Int) (c nl : Bool) : PureOK Tryd.prog 59 [ls [x0, x1, x2, x3, x4] c nl] (bD (withinB [x0, x1, x2, x3, x4])) := by
  have h : pureE aeC evA 30 59 Tryd.f59 [.sl [iD x0, iD x1, iD x2, iD x3, iD x4] 5 1 c nl] = wch (some (bD true)) (some (bD false)) [x0, x1, x2, x3, x4] := by kernel_rfl
  refine walkA (by kernel_rfl : tget aeF 59 = some Tryd.f59) (h.trans ((wch_eq _ _ _).trans ?_))
  cases withinB [x0, x1, x2, x3, x4] <;> rfl
theorem c59_6 (x0 x1 x2 x3 x4 x5 : Int) (c nl : Bool) : PureOK Tryd.prog 59 [ls [x0, x1, x2, x3, x4, x5] c nl] (bD (withinB [x0, x1, x2, x3, x4, x5])) := by
  have h : pureE aeC evA 30 59 Tryd.f59 [.sl [iD x0, iD x1, iD x2, iD x3, iD x4, iD x5] 6 1 c nl] = wch (some (bD true)) (some (bD false)) [x0, x1, x2, x3, x4, x5] := by kernel_rfl
  refine walkA (by kernel_rfl : tget aeF 59 = some Tryd.f59) (h.trans ((wch_eq _ _ _).trans ?_))
  cases withinB [x0, x1, x2, x3, x4, x5] <;> rfl
theorem c59_7 (x0 x1 x2 x3 x4 x5 x6 : Int) (c nl : Bool) : PureOK Tryd.prog 59 [ls [x0, x1, x2, x3, x4, x5, x6] c nl] (bD (withinB [x0, x1, x2, x3, x4, x5, x6])) := by
  have h : pureE aeC evA 30 59 Tryd.f59 [.sl [iD x0, iD x1, iD x2, iD x3, iD x4, iD x5, iD x6] 7 1 c nl] = wch (some (bD true)) (some (bD false)) [x0, x1, x2, x3, x4, x5, x6] := by kernel_rfl
  refine walkA (by kernel_rfl : tget aeF 59 = some Tryd.f59) (h.trans ((wch_eq _ _ _).trans ?_))
  cases withinB [x0, x1, x2, x3, x4, x5, x6] <;> rfl
theorem c59_8 (x0 x1 x2 x3 x4 x5 x6 x7 : Int) (c nl : Bool) : PureOK Tryd.prog 59 [ls [x0, x1, x2, x3, x4, x5, x6, x7] c nl] (bD (withinB [x0, x1, x2, x3, x4, x5, x6, x7])) := by
  have h : pureE aeC evA 30 59 Tryd.f59 [.sl [iD x0, iD x1, iD x2, iD x3, iD x4, iD x5, iD x6, iD x7] 8 1 c nl] = wch (some (bD true)) (some (bD false)) [x0, x1, x2, x3, x4, x5, x6, x7] := by kernel_rfl
  refine walkA (by kernel_rfl : tget aeF 59 = some Tryd.f59) (h.trans ((wch_eq _ _ _).trans ?_))
  cases withinB [x0, x1, x2, x3, x4, x5, x6, x7] <;> rfl
theorem c59 : ∀ (a : List Int) (c nl : Bool), a.length ≤ 8 → PureOK Tryd.prog 59 [ls a c nl] (bD (withinB a))
  | [], c, nl, _ => c59_0  c nl
  | [x0], c, nl, _ => c59_1 x0 c nl
  | [x0, x1], c, nl, _ => c59_2 x0 x1 c nl
  | [x0, x1, x2], c, nl, _ => c59_3 x0 x1 x2 c nl
  | [x0, x1, x2, x3], c, nl, _ => c59_4 x0 x1 x2 x3 c nl
  | [x0, x1, x2, x3, x4], c, nl, _ => c59_5 x0 x1 x2 x3 x4 c nl
  | [x0, x1, x2, x3, x4, x5], c, nl, _ => c59_6 x0 x1 x2 x3 x4 x5 c nl
  | [x0, x1, x2, x3, x4, x5, x6], c, nl, _ => c59_7 x0 x1 x2 x3 x4 x5 x6 c nl
  | [x0, x1, x2, x3, x4, x5, x6, x7], c, nl, _ => c59_8 x0 x1 x2 x3 x4 x5 x6 x7 c nl
  | _ :: _ :: _ :: _ :: _ :: _ :: _ :: _ :: _ :: _, _, _, h => absurd h (by simp)

/-! ### Discs -/
def convL (p : List Int) (u v : Int) : List Int := (List.range (p.length + 1)).map fun (k : Nat) => (if k < p.length then p.getD k 0 * u else 0) + (if 1 ≤ k then p.getD (k - 1) 0 * v else 0)
/-- The coefficients of (1 + x) ^ k (1 - x) ^ (n - k). -/
def krawL (n k : Nat) : List Int := (List.range n).foldl (fun p (i : Nat) => convL p 1 (if i < k then 1 else -1)) [1]
/-- The disc, modulo 2 ^ 64. -/
def discL (a : List Int) : List Int := (List.range a.length).map fun (k : Nat) => (List.range a.length).foldl (fun acc (i : Nat) => IntKind.wrap .i64 (acc + IntKind.wrap .i64 (a.getD i 0 * (krawL (a.length - 1) i).getD k 0))) 0
theorem discL_len (a : List Int) : (discL a).length = a.length := by simp [discL]

theorem c72_1 (x0 : Int) (c nl : Bool) : PureOK Tryd.prog 72 [ls [x0] c nl] (ls (discL [x0]) false false) := walkA (by kernel_rfl : tget aeF 72 = some Tryd.f72) (by kernel_rfl)
theorem c72_2 (x0 x1 : Int) (c nl : Bool) : PureOK Tryd.prog 72 [ls [x0, x1] c nl] (ls (discL [x0, x1]) false false) := walkA (by kernel_rfl : tget aeF 72 = some Tryd.f72) (by kernel_rfl)
theorem c72_3 (x0 x1 x2 : Int) (c nl : Bool) : PureOK Tryd.prog 72 [ls [x0, x1, x2] c nl] (ls (discL [x0, x1, x2]) false false) := walkA (by kernel_rfl : tget aeF 72 = some Tryd.f72) (by kernel_rfl)
theorem c72_4 (x0 x1 x2 x3 : Int) (c nl : Bool) : PureOK Tryd.prog 72 [ls [x0, x1, x2, x3] c nl] (ls (discL [x0, x1, x2, x3]) false false) := walkA (by kernel_rfl : tget aeF 72 = some Tryd.f72) (by kernel_rfl)
theorem c72_5 (x0 x1 x2 x3 x4 : Int) (c nl : Bool) : PureOK Tryd.prog 72 [ls [x0, x1, x2, x3, x4] c nl] (ls (discL [x0, x1, x2, x3, x4]) false false) := walkA (by kernel_rfl : tget aeF 72 = some Tryd.f72) (by kernel_rfl)
theorem c72_6 (x0 x1 x2 x3 x4 x5 : Int) (c nl : Bool) : PureOK Tryd.prog 72 [ls [x0, x1, x2, x3, x4, x5] c nl] (ls (discL [x0, x1, x2, x3, x4, x5]) false false) := walkA (by kernel_rfl : tget aeF 72 = some Tryd.f72) (by kernel_rfl)
def sh72 (t : List DV → Nat → Int) : Nat → List DV → DV := fun _ ds => match ds with
  | [.sl _ n _ _ _] => .sl ((List.range n).map fun (i : Nat) => iD (t ds i)) n 1 false false
  | _ => .nilp
noncomputable def ev72 (ok : Nat → List DV → Bool) (t : List DV → Nat → Int) : Ev := evW [72, 73] ok (sh72 t)
def t72 (ds : List DV) (i : Nat) : Int := match ds with
  | [.sl cs _ _ _ _] => (discL (unI cs)).getD i 0
  | _ => 0
theorem g72 {f : Nat} {ds : List DV} {d : DV} (h : PureOK Tryd.prog f ds d) (e : sh72 t72 f ds = d) : okS (sh72 t72) f ds = true := okS_is (by rw [e]; exact h)
/-- Whether 1 or -1 is a root. -/
def turnsB (a : List Int) : Bool := decide ((discL a).getD 0 0 = 0) || decide (lastI (discL a) = 0)

theorem sum_1 (x0 : Int) : (discL [x0]).getD 0 0 = IntKind.wrap .i64 (0 + x0) := by
  have h : (discL [x0]).getD 0 0 = IntKind.wrap .i64 (0 + IntKind.wrap .i64 (x0 * 1)) := by kernel_rfl
  rw [h]
  simp only [Int.mul_one]
  simp only [wrap_addR]
theorem c71_1 (x0 : Int) (c nl : Bool) : PureOK Tryd.prog 71 [ls [x0] c nl] (bD (turnsB [x0])) := by
  have h : pureE aeC (ev72 (okS (sh72 t72)) t72) 30 71 Tryd.f71 [.sl [iD x0] 1 1 c nl] = bif okS (sh72 t72) 72 [.sl [iD x0] 1 1 c nl] then (bif decide (IntKind.wrap .i64 (0 + x0) = 0) then some (bD true) else some (bD (decide (t72 [.sl [iD x0] 1 1 c nl] 0 = 0)))) else none := by kernel_rfl
  refine walk (fs := [72, 73]) (shape := sh72 t72) (by kernel_rfl : tget aeF 71 = some Tryd.f71) (h.trans ?_)
  refine (cond_is (g72 (c72_1 x0 c nl) (by kernel_rfl))).trans ?_
  rw [show turnsB [x0] = (decide ((discL [x0]).getD 0 0 = 0) || decide (t72 [.sl [iD x0] 1 1 c nl] 0 = 0)) from rfl, sum_1]
  cases decide (IntKind.wrap .i64 (0 + x0) = 0) <;> rfl

theorem sum_2 (x0 x1 : Int) : (discL [x0, x1]).getD 0 0 = IntKind.wrap .i64 (IntKind.wrap .i64 (0 + x0) + x1) := by
  have h : (discL [x0, x1]).getD 0 0 = IntKind.wrap .i64 (IntKind.wrap .i64 (0 + IntKind.wrap .i64 (x0 * 1)) + IntKind.wrap .i64 (x1 * 1)) := by kernel_rfl
  rw [h]
  simp only [Int.mul_one]
  simp only [wrap_addR]
theorem c71_2 (x0 x1 : Int) (c nl : Bool) : PureOK Tryd.prog 71 [ls [x0, x1] c nl] (bD (turnsB [x0, x1])) := by
  have h : pureE aeC (ev72 (okS (sh72 t72)) t72) 30 71 Tryd.f71 [.sl [iD x0, iD x1] 2 1 c nl] = bif okS (sh72 t72) 72 [.sl [iD x0, iD x1] 2 1 c nl] then (bif decide (IntKind.wrap .i64 (IntKind.wrap .i64 (0 + x0) + x1) = 0) then some (bD true) else some (bD (decide (t72 [.sl [iD x0, iD x1] 2 1 c nl] 1 = 0)))) else none := by kernel_rfl
  refine walk (fs := [72, 73]) (shape := sh72 t72) (by kernel_rfl : tget aeF 71 = some Tryd.f71) (h.trans ?_)
  refine (cond_is (g72 (c72_2 x0 x1 c nl) (by kernel_rfl))).trans ?_
  rw [show turnsB [x0, x1] = (decide ((discL [x0, x1]).getD 0 0 = 0) || decide (t72 [.sl [iD x0, iD x1] 2 1 c nl] 1 = 0)) from rfl, sum_2]
  cases decide (IntKind.wrap .i64 (IntKind.wrap .i64 (0 + x0) + x1) = 0) <;> rfl

theorem sum_3 (x0 x1 x2 : Int) : (discL [x0, x1, x2]).getD 0 0 = IntKind.wrap .i64 (IntKind.wrap .i64 (IntKind.wrap .i64 (0 + x0) + x1) + x2) := by
  have h : (discL [x0, x1, x2]).getD 0 0 = IntKind.wrap .i64 (IntKind.wrap .i64 (IntKind.wrap .i64 (0 + IntKind.wrap .i64 (x0 * 1)) + IntKind.wrap .i64 (x1 * 1)) + IntKind.wrap .i64 (x2 * 1)) := by kernel_rfl
  rw [h]
  simp only [Int.mul_one]
  simp only [wrap_addR]
theorem c71_3 (x0 x1 x2 : Int) (c nl : Bool) : PureOK Tryd.prog 71 [ls [x0, x1, x2] c nl] (bD (turnsB [x0, x1, x2])) := by
  have h : pureE aeC (ev72 (okS (sh72 t72)) t72) 30 71 Tryd.f71 [.sl [iD x0, iD x1, iD x2] 3 1 c nl] = bif okS (sh72 t72) 72 [.sl [iD x0, iD x1, iD x2] 3 1 c nl] then (bif decide (IntKind.wrap .i64 (IntKind.wrap .i64 (IntKind.wrap .i64 (0 + x0) + x1) + x2) = 0) then some (bD true) else some (bD (decide (t72 [.sl [iD x0, iD x1, iD x2] 3 1 c nl] 2 = 0)))) else none := by kernel_rfl
  refine walk (fs := [72, 73]) (shape := sh72 t72) (by kernel_rfl : tget aeF 71 = some Tryd.f71) (h.trans ?_)
  refine (cond_is (g72 (c72_3 x0 x1 x2 c nl) (by kernel_rfl))).trans ?_
  rw [show turnsB [x0, x1, x2] = (decide ((discL [x0, x1, x2]).getD 0 0 = 0) || decide (t72 [.sl [iD x0, iD x1, iD x2] 3 1 c nl] 2 = 0)) from rfl, sum_3]
  cases decide (IntKind.wrap .i64 (IntKind.wrap .i64 (IntKind.wrap .i64 (0 + x0) + x1) + x2) = 0) <;> rfl

theorem sum_4 (x0 x1 x2 x3 : Int) : (discL [x0, x1, x2, x3]).getD 0 0 = IntKind.wrap .i64 (IntKind.wrap .i64 (IntKind.wrap .i64 (IntKind.wrap .i64 (0 + x0) + x1) + x2) + x3) := by
  have h : (discL [x0, x1, x2, x3]).getD 0 0 = IntKind.wrap .i64 (IntKind.wrap .i64 (IntKind.wrap .i64 (IntKind.wrap .i64 (0 + IntKind.wrap .i64 (x0 * 1)) + IntKind.wrap .i64 (x1 * 1)) + IntKind.wrap .i64 (x2 * 1)) + IntKind.wrap .i64 (x3 * 1)) := by kernel_rfl
  rw [h]
  simp only [Int.mul_one]
  simp only [wrap_addR]
theorem c71_4 (x0 x1 x2 x3 : Int) (c nl : Bool) : PureOK Tryd.prog 71 [ls [x0, x1, x2, x3] c nl] (bD (turnsB [x0, x1, x2, x3])) := by
  have h : pureE aeC (ev72 (okS (sh72 t72)) t72) 30 71 Tryd.f71 [.sl [iD x0, iD x1, iD x2, iD x3] 4 1 c nl] = bif okS (sh72 t72) 72 [.sl [iD x0, iD x1, iD x2, iD x3] 4 1 c nl] then (bif decide (IntKind.wrap .i64 (IntKind.wrap .i64 (IntKind.wrap .i64 (IntKind.wrap .i64 (0 + x0) + x1) + x2) + x3) = 0) then some (bD true) else some (bD (decide (t72 [.sl [iD x0, iD x1, iD x2, iD x3] 4 1 c nl] 3 = 0)))) else none := by kernel_rfl
  refine walk (fs := [72, 73]) (shape := sh72 t72) (by kernel_rfl : tget aeF 71 = some Tryd.f71) (h.trans ?_)
  refine (cond_is (g72 (c72_4 x0 x1 x2 x3 c nl) (by kernel_rfl))).trans ?_
  rw [show turnsB [x0, x1, x2, x3] = (decide ((discL [x0, x1, x2, x3]).getD 0 0 = 0) || decide (t72 [.sl [iD x0, iD x1, iD x2, iD x3] 4 1 c nl] 3 = 0)) from rfl, sum_4]
  cases decide (IntKind.wrap .i64 (IntKind.wrap .i64 (IntKind.wrap .i64 (IntKind.wrap .i64 (0 + x0) + x1) + x2) + x3) = 0) <;> rfl

theorem sum_5 (x0 x1 x2 x3 x4 : Int) : (discL [x0, x1, x2, x3, x4]).getD 0 0 = IntKind.wrap .i64 (IntKind.wrap .i64 (IntKind.wrap .i64 (IntKind.wrap .i64 (IntKind.wrap .i64 (0 + x0) + x1) + x2) + x3) + x4) := by
  have h : (discL [x0, x1, x2, x3, x4]).getD 0 0 = IntKind.wrap .i64 (IntKind.wrap .i64 (IntKind.wrap .i64 (IntKind.wrap .i64 (IntKind.wrap .i64 (0 + IntKind.wrap .i64 (x0 * 1)) + IntKind.wrap .i64 (x1 * 1)) + IntKind.wrap .i64 (x2 * 1)) + IntKind.wrap .i64 (x3 * 1)) + IntKind.wrap .i64 (x4 * 1)) := by kernel_rfl
  rw [h]
  simp only [Int.mul_one]
  simp only [wrap_addR]
theorem c71_5 (x0 x1 x2 x3 x4 : Int) (c nl : Bool) : PureOK Tryd.prog 71 [ls [x0, x1, x2, x3, x4] c nl] (bD (turnsB [x0, x1, x2, x3, x4])) := by
  have h : pureE aeC (ev72 (okS (sh72 t72)) t72) 30 71 Tryd.f71 [.sl [iD x0, iD x1, iD x2, iD x3, iD x4] 5 1 c nl] = bif okS (sh72 t72) 72 [.sl [iD x0, iD x1, iD x2, iD x3, iD x4] 5 1 c nl] then (bif decide (IntKind.wrap .i64 (IntKind.wrap .i64 (IntKind.wrap .i64 (IntKind.wrap .i64 (IntKind.wrap .i64 (0 + x0) + x1) + x2) + x3) + x4) = 0) then some (bD true) else some (bD (decide (t72 [.sl [iD x0, iD x1, iD x2, iD x3, iD x4] 5 1 c nl] 4 = 0)))) else none := by kernel_rfl
  refine walk (fs := [72, 73]) (shape := sh72 t72) (by kernel_rfl : tget aeF 71 = some Tryd.f71) (h.trans ?_)
  refine (cond_is (g72 (c72_5 x0 x1 x2 x3 x4 c nl) (by kernel_rfl))).trans ?_
  rw [show turnsB [x0, x1, x2, x3, x4] = (decide ((discL [x0, x1, x2, x3, x4]).getD 0 0 = 0) || decide (t72 [.sl [iD x0, iD x1, iD x2, iD x3, iD x4] 5 1 c nl] 4 = 0)) from rfl, sum_5]
  cases decide (IntKind.wrap .i64 (IntKind.wrap .i64 (IntKind.wrap .i64 (IntKind.wrap .i64 (IntKind.wrap .i64 (0 + x0) + x1) + x2) + x3) + x4) = 0) <;> rfl

theorem sum_6 (x0 x1 x2 x3 x4 x5 : Int) : (discL [x0, x1, x2, x3, x4, x5]).getD 0 0 = IntKind.wrap .i64 (IntKind.wrap .i64 (IntKind.wrap .i64 (IntKind.wrap .i64 (IntKind.wrap .i64 (IntKind.wrap .i64 (0 + x0) + x1) + x2) + x3) + x4) + x5) := by
  have h : (discL [x0, x1, x2, x3, x4, x5]).getD 0 0 = IntKind.wrap .i64 (IntKind.wrap .i64 (IntKind.wrap .i64 (IntKind.wrap .i64 (IntKind.wrap .i64 (IntKind.wrap .i64 (0 + IntKind.wrap .i64 (x0 * 1)) + IntKind.wrap .i64 (x1 * 1)) + IntKind.wrap .i64 (x2 * 1)) + IntKind.wrap .i64 (x3 * 1)) + IntKind.wrap .i64 (x4 * 1)) + IntKind.wrap .i64 (x5 * 1)) := by kernel_rfl
  rw [h]
  simp only [Int.mul_one]
  simp only [wrap_addR]
theorem c71_6 (x0 x1 x2 x3 x4 x5 : Int) (c nl : Bool) : PureOK Tryd.prog 71 [ls [x0, x1, x2, x3, x4, x5] c nl] (bD (turnsB [x0, x1, x2, x3, x4, x5])) := by
  have h : pureE aeC (ev72 (okS (sh72 t72)) t72) 30 71 Tryd.f71 [.sl [iD x0, iD x1, iD x2, iD x3, iD x4, iD x5] 6 1 c nl] = bif okS (sh72 t72) 72 [.sl [iD x0, iD x1, iD x2, iD x3, iD x4, iD x5] 6 1 c nl] then (bif decide (IntKind.wrap .i64 (IntKind.wrap .i64 (IntKind.wrap .i64 (IntKind.wrap .i64 (IntKind.wrap .i64 (IntKind.wrap .i64 (0 + x0) + x1) + x2) + x3) + x4) + x5) = 0) then some (bD true) else some (bD (decide (t72 [.sl [iD x0, iD x1, iD x2, iD x3, iD x4, iD x5] 6 1 c nl] 5 = 0)))) else none := by kernel_rfl
  refine walk (fs := [72, 73]) (shape := sh72 t72) (by kernel_rfl : tget aeF 71 = some Tryd.f71) (h.trans ?_)
  refine (cond_is (g72 (c72_6 x0 x1 x2 x3 x4 x5 c nl) (by kernel_rfl))).trans ?_
  rw [show turnsB [x0, x1, x2, x3, x4, x5] = (decide ((discL [x0, x1, x2, x3, x4, x5]).getD 0 0 = 0) || decide (t72 [.sl [iD x0, iD x1, iD x2, iD x3, iD x4, iD x5] 6 1 c nl] 5 = 0)) from rfl, sum_6]
  cases decide (IntKind.wrap .i64 (IntKind.wrap .i64 (IntKind.wrap .i64 (IntKind.wrap .i64 (IntKind.wrap .i64 (IntKind.wrap .i64 (0 + x0) + x1) + x2) + x3) + x4) + x5) = 0) <;> rfl

theorem c71 : ∀ (a : List Int) (c nl : Bool), 1 ≤ a.length → a.length ≤ 6 → PureOK Tryd.prog 71 [ls a c nl] (bD (turnsB a))
  | [x0], c, nl, _, _ => c71_1 x0 c nl
  | [x0, x1], c, nl, _, _ => c71_2 x0 x1 c nl
  | [x0, x1, x2], c, nl, _, _ => c71_3 x0 x1 x2 c nl
  | [x0, x1, x2, x3], c, nl, _, _ => c71_4 x0 x1 x2 x3 c nl
  | [x0, x1, x2, x3, x4], c, nl, _, _ => c71_5 x0 x1 x2 x3 x4 c nl
  | [x0, x1, x2, x3, x4, x5], c, nl, _, _ => c71_6 x0 x1 x2 x3 x4 x5 c nl
  | [], _, _, h, _ => absurd h (by simp)
  | _ :: _ :: _ :: _ :: _ :: _ :: _ :: _, _, _, _, h => absurd h (by simp)
end Go.Proofs.YtiicbenhhdbnoaaDoor

/- Chapter 09: lists compared; halves, turned ones; polynomials that are made of any numbers. Written by wip/tools/genC4.py. -/
namespace Go.Proofs.YtiicbenhhdbnoaaDoor
open Go Go.AE
set_option maxRecDepth 100000

noncomputable def s26 (a b : List Int) (c nl c2 nl2 : Bool) (i : Int) : St := ⟨[(0, .d (.sl (ints a) a.length 1 c nl)), (1, .d (.sl (ints b) b.length 1 c2 nl2)), (5, .d (iD i))], [], []⟩
theorem r26h (a b : List Int) (c nl c2 nl2 : Bool) : startS aeC Ev.nil 26 0 Tryd.f26 none ⟨envOf 0 [.d (.sl (ints a) a.length 1 c nl), .d (.sl (ints b) b.length 1 c2 nl2)], [], []⟩ (heldD aeC 26 0) =
  bif !decide ((↑(List.length a) : Int) = (↑(List.length b) : Int)) then
    none
  else
    some (0, ⟨[(0, .d (DV.sl (ints a) (List.length a) 1 c nl)), (1, .d (DV.sl (ints b) (List.length b) 1 c2 nl2)), (5, .d (iD 0))], [], []⟩) := by kernel_rfl

theorem r26d (a b : List Int) (c nl c2 nl2 : Bool) : startS aeC Ev.nil 26 0 Tryd.f26 none ⟨envOf 0 [.d (.sl (ints a) a.length 1 c nl), .d (.sl (ints b) b.length 1 c2 nl2)], [], []⟩ (doneE aeC Tryd.f26 0 fun v h => freezeV h 4 v) =
  bif !decide ((↑(List.length a) : Int) = (↑(List.length b) : Int)) then
    some (bD false)
  else
    none := by kernel_rfl

theorem r26_0 (a b : List Int) (c nl c2 nl2 : Bool) (i : Int) : startS aeC Ev.nil 26 0 Tryd.f26 (some 0) (s26 a b c nl c2 nl2 i) (roundD aeC 26 0 0) =
  bif decide (i < (↑(List.length a) : Int)) then
    bif inRange i (List.length a) then
      getI (nth (ints a) (Int.toNat i * 1)) fun x0 =>
      bif inRange i (List.length b) then
        getI (nth (ints b) (Int.toNat i * 1)) fun x1 =>
        bif !decide (x0 = x1) then
          some (Ex.ret, ⟨[(4, .d (bD false))], [], []⟩)
        else
          some (Ex.norm, ⟨[(0, .d (DV.sl (ints a) (List.length a) 1 c nl)), (1, .d (DV.sl (ints b) (List.length b) 1 c2 nl2)), (5, .d (iD (IntKind.wrap IntKind.i64 (i + 1))))], [], []⟩)
      else
        none
    else
      none
  else
    some (Ex.exit 0, ⟨[], [], []⟩) := by kernel_rfl

theorem r26_x (z : Bool) : nextS aeC Ev.nil 26 0 Tryd.f26 none 0 (.exit 0) ⟨[], [], []⟩ (doneE aeC Tryd.f26 0 fun v h => freezeV h 4 v) =
  some (bD true) := by kernel_rfl

theorem r26_z (b : Bool) : nextS aeC Ev.nil 26 0 Tryd.f26 none 0 .ret ⟨[(4, .d (bD b))], [], []⟩ (doneE aeC Tryd.f26 0 fun v h => freezeV h 4 v) =
  some (bD b) := by kernel_rfl

theorem k26 : OkSeg Tryd.f26 none [0] := ⟨by kernel_rfl, by kernel_rfl, by decide⟩
theorem k26_0 : OkSeg Tryd.f26 (some 0) [] := ⟨by kernel_rfl, by kernel_rfl, by decide⟩
theorem l26 (a b : List Int) (c nl c2 nl2 : Bool) (hl : a.length = b.length) (hb : a.length < 1000) : ∀ (r s : List Int) (i : Nat), i ≤ a.length → a.drop i = r → b.drop i = s →
    LoopAt aeC Ev.nil 26 0 Tryd.f26 0 (s26 a b c nl c2 nl2 i) (if r = s then .exit 0 else .ret) (if r = s then ⟨[], [], []⟩ else ⟨[(4, .d (bD false))], [], []⟩)
  | [], s, i, hi, hr, hs => by
    have q1 := drop_nil_o hr
    have : s = [] := by rw [← hs]; exact List.drop_eq_nil_of_le (by omega)
    subst this
    refine .out k26_0 (by simp) ((r26_0 ..).trans ?_)
    rw [cnd_neg (by omega)]
    simp
  | x :: r, [], i, hi, hr, hs => by
    have q1 := (drop_cons_o (d := 0) hr).1
    have := drop_nil_o hs
    omega
  | x :: r, y :: s, i, hi, hr, hs => by
    obtain ⟨q1, q2, q3⟩ := drop_cons_o (d := 0) hr
    obtain ⟨p1, p2, p3⟩ := drop_cons_o (d := 0) hs
    have res := r26_0 a b c nl c2 nl2 i
    by_cases e : x = y
    · subst e
      revert res
      simp (disch := omega) only [cnd_pos, cnd_neg, inR_pos, ble_pos, blt_pos, beq_pos, cond_and, cond_or, Bool.cond_not, cond_true, cond_false, Bool.and_true, Bool.true_and, getI_some, getB_some, nth_ints_o, nth_bools_o, wrap64_o, len_ints, len_bools, lenOf_1, Int.toNat_natCast, Nat.mul_one, Nat.zero_add, setNth_bools_o, setNth_ints_o, len_set_i, len_set_b, Option.bind_some, List.length_append, List.length_cons, List.length_nil, unI_ints, unB_bools, ints_app1, bools_app1, nth_pr1, nth_pr2, len_prs, abs_if, Nat.add_zero, cond_same, q2, p2, Bool.not_true, decide_true]
      intro res
      have ih := l26 a b c nl c2 nl2 hl hb r s (i + 1) q1 q3 p3
      have : (x :: r = x :: s) ↔ r = s := by simp
      simp only [this]
      exact .next k26_0 res ih
    · have e2 : ¬ (x :: r = y :: s) := by simp [e]
      rw [if_neg e2, if_neg e2]
      revert res
      simp (disch := omega) only [cnd_pos, cnd_neg, inR_pos, ble_pos, blt_pos, beq_pos, cond_and, cond_or, Bool.cond_not, cond_true, cond_false, Bool.and_true, Bool.true_and, getI_some, getB_some, nth_ints_o, nth_bools_o, wrap64_o, len_ints, len_bools, lenOf_1, Int.toNat_natCast, Nat.mul_one, Nat.zero_add, setNth_bools_o, setNth_ints_o, len_set_i, len_set_b, Option.bind_some, List.length_append, List.length_cons, List.length_nil, unI_ints, unB_bools, ints_app1, bools_app1, nth_pr1, nth_pr2, len_prs, abs_if, Nat.add_zero, cond_same, q2, p2]
      intro res
      exact .out k26_0 (by simp) res

theorem c26 (a b : List Int) (c nl c2 nl2 : Bool) (hb : a.length < 1000) : PureOK Tryd.prog 26 [ls a c nl, ls b c2 nl2] (bD (decide (a = b))) := by
  refine ae_pure EvOK.nil (fn := Tryd.f26) k26 (by kernel_rfl) (by kernel_rfl) ?_
  by_cases hl : a.length = b.length
  · have h0 := r26h a b c nl c2 nl2
    rw [decide_eq_true (p := ((a.length : Int) = (b.length : Int))) (by omega)] at h0
    refine Eq.trans (startF_seg k26 h0 (l26 a b c nl c2 nl2 hl hb a b 0 (by omega) rfl rfl)) ?_
    by_cases e : a = b
    · rw [if_pos e, if_pos e, decide_eq_true e]
      exact nextF_done k26 done_plain (r26_x false)
    · rw [if_neg e, if_neg e, decide_eq_false e]
      exact nextF_done k26 done_plain (r26_z false)
  · refine startF_done k26 done_plain ((r26d ..).trans ?_)
    rw [decide_eq_false (p := ((a.length : Int) = (b.length : Int))) (by omega), decide_eq_false (p := a = b) (by rintro rfl; exact hl rfl)]
    rfl

end Go.Proofs.YtiicbenhhdbnoaaDoor

/- Chapter 09: halves and turned ones. Written by wip/tools/genC4.py. -/
namespace Go.Proofs.YtiicbenhhdbnoaaDoor
open Go Go.AE
set_option maxRecDepth 100000
/-! ### Halves -/
end Go.Proofs.YtiicbenhhdbnoaaDoor

/- Chapter 09: polynomials that are made of any numbers. Written by wip/tools/genC4.py. -/
namespace Go.Proofs.YtiicbenhhdbnoaaDoor
open Go Go.AE
set_option maxRecDepth 100000
/-! ### Made of any numbers -/
def tv (x : Int) : Int := IntKind.wrap .i64 (IntKind.wrap .i64 (Int.tmod (IntKind.wrap .u64 x) 61) - 30)
theorem tv_b (x : Int) : -30 ≤ tv x ∧ tv x ≤ 30 := by
  unfold tv
  have h0 : 0 ≤ IntKind.wrap .u64 x := by rw [wrapU_eq]; omega
  have h1 : Int.tmod (IntKind.wrap .u64 x) 61 = (IntKind.wrap .u64 x) % 61 := Int.tmod_eq_emod_of_nonneg h0
  rw [h1, wrap64_o (n := IntKind.wrap .u64 x % 61) (by omega) (by omega), wrap64_o (by omega) (by omega)]
  omega
theorem polyB_mk {a : List Int} (h1 : 1 ≤ a.length) (h6 : a.length ≤ 6) (hw : ∀ x ∈ a, -30 ≤ x ∧ x ≤ 30) (hl : lastI a ≠ 0) : polyB a = true := by
  unfold polyB withinB
  simp only [decide_eq_true h1, decide_eq_true h6, decide_eq_false hl, Bool.true_and, Bool.not_false, Bool.and_true, List.all_eq_true, Bool.and_eq_true, decide_eq_true_eq]
  exact hw
theorem polyB_at {a : List Int} (h : polyB a = true) : 1 ≤ a.length ∧ a.length ≤ 6 ∧ (∀ x ∈ a, -30 ≤ x ∧ x ≤ 30) ∧ lastI a ≠ 0 := by
  unfold polyB withinB at h
  simp only [Bool.and_eq_true, decide_eq_true_eq, List.all_eq_true, Bool.not_eq_true', decide_eq_false_iff_not] at h
  exact ⟨h.1, h.2.1, h.2.2.1, h.2.2.2⟩

end Go.Proofs.YtiicbenhhdbnoaaDoor
