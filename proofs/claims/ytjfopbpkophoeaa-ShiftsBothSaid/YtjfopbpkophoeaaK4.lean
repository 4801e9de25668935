/- Part 4 of what the law stands on: the abstract machine over the model, and what the functions answer. No condition. -/
import Derived.Test.YtjfopbpkophoeaaProg
import Derived.Test.YtjfopbpkophoeaaChecked
import Derived.Test.YtjfopbpkophoeaaK3
set_option linter.unusedSimpArgs false
set_option linter.unusedVariables false

/- The tables of the seat for the abstract machine, written by a program of this session (wip/tools/aectx.py). -/
namespace Go.Proofs.Ytjfopbpkophoeaa
open Go Go.AE

noncomputable def aeT : Tab TI :=
  (.node 65 (⟨(.array 2 22), 2, 48, [.sl [] 0 0 false true, .sl [] 0 0 false true]⟩) (.node 35 (⟨.other, 1, 8, [.nilf]⟩) (.node 20 (⟨.other, 1, 16, [.nili]⟩) (.node 9 (⟨.str, 1, 16, [.str ⟨#[]⟩]⟩) (.node 3 (⟨(.int .i64), 1, 8, [.int .i64 0]⟩) (.node 1 (⟨.other, 1, 8, [.nilf]⟩) (.node 0 (⟨.other, 1, 0, []⟩) .leaf .leaf) (.node 2 (⟨(.int .i64), 1, 8, [.int .i64 0]⟩) .leaf .leaf)) (.node 5 (⟨(.int .u8), 1, 1, [.int .u8 0]⟩) (.node 4 (⟨.bool, 1, 1, [.bool false]⟩) .leaf .leaf) (.node 6 (⟨(.int .u8), 1, 1, [.int .u8 0]⟩) .leaf .leaf))) (.node 15 (⟨(.ptr 116), 1, 8, [.nilp]⟩) (.node 11 (⟨.str, 1, 16, [.str ⟨#[]⟩]⟩) (.node 10 (⟨.str, 1, 16, [.str ⟨#[]⟩]⟩) .leaf .leaf) (.node 12 (⟨(.int .u64), 1, 8, [.int .u64 0]⟩) .leaf .leaf)) (.node 17 (⟨(.ptr 129), 1, 8, [.nilp]⟩) (.node 16 (⟨(.ptr 119), 1, 8, [.nilp]⟩) .leaf .leaf) .leaf))) (.node 28 (⟨(.int .u64), 1, 8, [.int .u64 0]⟩) (.node 24 (⟨(.int .i64), 1, 8, [.int .i64 0]⟩) (.node 22 (⟨(.slice 46), 1, 24, [.sl [] 0 0 false true]⟩) (.node 21 (⟨(.int .i32), 1, 4, [.int .i32 0]⟩) .leaf .leaf) (.node 23 (⟨.other, 1, 8, [.nilf]⟩) .leaf .leaf)) (.node 26 (⟨.other, 1, 8, [.nilf]⟩) (.node 25 (⟨.other, 1, 0, []⟩) .leaf .leaf) (.node 27 (⟨.other, 1, 8, [.nilf]⟩) .leaf .leaf))) (.node 32 (⟨.other, 1, 0, []⟩) (.node 30 (⟨.other, 1, 8, [.nilf]⟩) (.node 29 (⟨.other, 1, 8, [.nilf]⟩) .leaf .leaf) (.node 31 (⟨(.slice 2), 1, 24, [.sl [] 0 0 false true]⟩) .leaf .leaf)) (.node 34 (⟨.other, 1, 0, []⟩) (.node 33 (⟨.other, 1, 8, [.nilf]⟩) .leaf .leaf) .leaf)))) (.node 50 (⟨.other, 1, 8, [.nilf]⟩) (.node 43 (⟨.other, 1, 0, []⟩) (.node 39 (⟨.other, 1, 8, [.nilf]⟩) (.node 37 (⟨.other, 1, 8, [.nilf]⟩) (.node 36 (⟨.other, 1, 8, [.nilf]⟩) .leaf .leaf) (.node 38 (⟨.other, 1, 8, [.nilf]⟩) .leaf .leaf)) (.node 41 (⟨.other, 1, 0, []⟩) (.node 40 (⟨(.array 11 2), 11, 88, (List.replicate 11 (.int .i64 0))⟩) .leaf .leaf) (.node 42 (⟨.other, 1, 8, [.nilf]⟩) .leaf .leaf))) (.node 47 (⟨.other, 1, 0, []⟩) (.node 45 (⟨(.array 3 3), 3, 24, [.int .i64 0, .int .i64 0, .int .i64 0]⟩) (.node 44 (⟨.other, 1, 8, [.nilf]⟩) .leaf .leaf) (.node 46 (⟨(.slice 3), 1, 24, [.sl [] 0 0 false true]⟩) .leaf .leaf)) (.node 49 (⟨.other, 1, 8, [.nilf]⟩) (.node 48 (⟨.other, 1, 8, [.nilf]⟩) .leaf .leaf) .leaf))) (.node 58 (⟨.other, 1, 0, []⟩) (.node 54 (⟨.other, 1, 8, [.nilf]⟩) (.node 52 (⟨.other, 1, 8, [.nilf]⟩) (.node 51 (⟨.other, 1, 8, [.nilf]⟩) .leaf .leaf) (.node 53 (⟨.other, 1, 0, []⟩) .leaf .leaf)) (.node 56 (⟨.other, 1, 8, [.nilf]⟩) (.node 55 (⟨.other, 1, 8, [.nilf]⟩) .leaf .leaf) (.node 57 (⟨.other, 1, 8, [.nilf]⟩) .leaf .leaf))) (.node 62 (⟨.other, 1, 0, []⟩) (.node 60 (⟨.other, 1, 8, [.nilf]⟩) (.node 59 (⟨.other, 1, 8, [.nilf]⟩) .leaf .leaf) (.node 61 (⟨.other, 1, 8, [.nilf]⟩) .leaf .leaf)) (.node 64 (⟨.other, 1, 8, [.nilf]⟩) (.node 63 (⟨.other, 1, 8, [.nilf]⟩) .leaf .leaf) .leaf))))) (.node 95 (⟨.other, 1, 8, [.nilf]⟩) (.node 80 (⟨.other, 1, 8, [.nilf]⟩) (.node 73 (⟨.other, 1, 8, [.nilf]⟩) (.node 69 (⟨.other, 1, 8, [.nilf]⟩) (.node 67 (⟨.other, 1, 8, [.nilf]⟩) (.node 66 (⟨.other, 1, 0, []⟩) .leaf .leaf) (.node 68 (⟨.other, 1, 8, [.nilf]⟩) .leaf .leaf)) (.node 71 (⟨.other, 1, 8, [.nilf]⟩) (.node 70 (⟨.other, 1, 8, [.nilf]⟩) .leaf .leaf) (.node 72 (⟨.other, 1, 8, [.nilf]⟩) .leaf .leaf))) (.node 77 (⟨(.struct [(0, 3), (1, 75)]), 26, 208, (List.replicate 26 (.int .i64 0))⟩) (.node 75 (⟨(.array 5 74), 25, 200, (List.replicate 25 (.int .i64 0))⟩) (.node 74 (⟨(.array 5 2), 5, 40, [.int .i64 0, .int .i64 0, .int .i64 0, .int .i64 0, .int .i64 0]⟩) .leaf .leaf) (.node 76 (⟨(.struct [(0, 3), (1, 75)]), 26, 208, (List.replicate 26 (.int .i64 0))⟩) .leaf .leaf)) (.node 79 (⟨.other, 1, 8, [.nilf]⟩) (.node 78 (⟨.other, 1, 8, [.nilf]⟩) .leaf .leaf) .leaf))) (.node 88 (⟨.other, 1, 8, [.nilf]⟩) (.node 84 (⟨.other, 1, 8, [.nilf]⟩) (.node 82 (⟨.other, 1, 8, [.nilf]⟩) (.node 81 (⟨.other, 1, 0, []⟩) .leaf .leaf) (.node 83 (⟨(.map 3 2), 1, 8, [.nilm]⟩) .leaf .leaf)) (.node 86 (⟨.other, 1, 8, [.nilf]⟩) (.node 85 (⟨(.slice 31), 1, 24, [.sl [] 0 0 false true]⟩) .leaf .leaf) (.node 87 (⟨.other, 1, 8, [.nilf]⟩) .leaf .leaf))) (.node 92 (⟨.other, 1, 8, [.nilf]⟩) (.node 90 (⟨.other, 1, 8, [.nilf]⟩) (.node 89 (⟨.other, 1, 8, [.nilf]⟩) .leaf .leaf) (.node 91 (⟨.other, 1, 8, [.nilf]⟩) .leaf .leaf)) (.node 94 (⟨.other, 1, 8, [.nilf]⟩) (.node 93 (⟨.other, 1, 8, [.nilf]⟩) .leaf .leaf) .leaf)))) (.node 110 (⟨.other, 1, 8, [.nilf]⟩) (.node 103 (⟨.other, 1, 8, [.nilf]⟩) (.node 99 (⟨(.struct [(0, 3), (1, 74)]), 6, 48, [.int .i64 0, .int .i64 0, .int .i64 0, .int .i64 0, .int .i64 0, .int .i64 0]⟩) (.node 97 (⟨.other, 1, 8, [.nilf]⟩) (.node 96 (⟨.other, 1, 8, [.nilf]⟩) .leaf .leaf) (.node 98 (⟨.other, 1, 8, [.nilf]⟩) .leaf .leaf)) (.node 101 (⟨.other, 1, 8, [.nilf]⟩) (.node 100 (⟨(.struct [(0, 3), (1, 74)]), 6, 48, [.int .i64 0, .int .i64 0, .int .i64 0, .int .i64 0, .int .i64 0, .int .i64 0]⟩) .leaf .leaf) (.node 102 (⟨.other, 1, 8, [.nilf]⟩) .leaf .leaf))) (.node 107 (⟨(.array 2 3), 2, 16, [.int .i64 0, .int .i64 0]⟩) (.node 105 (⟨.other, 1, 8, [.nilf]⟩) (.node 104 (⟨.other, 1, 8, [.nilf]⟩) .leaf .leaf) (.node 106 (⟨(.ptr 77), 1, 8, [.nilp]⟩) .leaf .leaf)) (.node 109 (⟨.other, 1, 8, [.nilf]⟩) (.node 108 (⟨.other, 1, 8, [.nilf]⟩) .leaf .leaf) .leaf))) (.node 122 (⟨(.int .u8), 1, 1, [.int .u8 0]⟩) (.node 114 (⟨.other, 1, 8, [.nilf]⟩) (.node 112 (⟨.other, 1, 8, [.nilf]⟩) (.node 111 (⟨.other, 1, 8, [.nilf]⟩) .leaf .leaf) (.node 113 (⟨.other, 1, 8, [.nilf]⟩) .leaf .leaf)) (.node 121 (⟨(.int .u32), 1, 4, [.int .u32 0]⟩) (.node 120 (⟨.other, 1, 8, [.nilf]⟩) .leaf .leaf) .leaf)) (.node 126 (⟨(.int .i32), 1, 4, [.int .i32 0]⟩) (.node 124 (⟨.other, 1, 8, [.nilf]⟩) (.node 123 (⟨(.int .u8), 1, 1, [.int .u8 0]⟩) .leaf .leaf) (.node 125 (⟨(.ptr 5), 1, 8, [.nilp]⟩) .leaf .leaf)) (.node 130 (⟨.other, 1, 8, []⟩) (.node 127 (⟨(.int .i32), 1, 4, [.int .i32 0]⟩) .leaf .leaf) .leaf))))))

noncomputable def aeRets : Tab (List Nat) :=
  (.node 55 [22] (.node 27 [31] (.node 13 [4] (.node 6 [4] (.node 3 [4] (.node 1 [] (.node 0 [] .leaf .leaf) (.node 2 [] .leaf .leaf)) (.node 5 [4] (.node 4 [4] .leaf .leaf) .leaf)) (.node 10 [4] (.node 8 [4] (.node 7 [4] .leaf .leaf) (.node 9 [4] .leaf .leaf)) (.node 12 [4] (.node 11 [4] .leaf .leaf) .leaf))) (.node 20 [2] (.node 17 [2, 24] (.node 15 [2, 24] (.node 14 [22] .leaf .leaf) (.node 16 [2, 24] .leaf .leaf)) (.node 19 [2] (.node 18 [2] .leaf .leaf) .leaf)) (.node 24 [3, 24] (.node 22 [31, 24] (.node 21 [4] .leaf .leaf) (.node 23 [31, 24] .leaf .leaf)) (.node 26 [31] (.node 25 [4] .leaf .leaf) .leaf)))) (.node 41 [4] (.node 34 [3] (.node 31 [3, 4, 24] (.node 29 [4, 24] (.node 28 [3] .leaf .leaf) (.node 30 [3, 24] .leaf .leaf)) (.node 33 [4] (.node 32 [3] .leaf .leaf) .leaf)) (.node 38 [46] (.node 36 [46] (.node 35 [46, 4, 24] .leaf .leaf) (.node 37 [4] .leaf .leaf)) (.node 40 [4] (.node 39 [22, 24] .leaf .leaf) .leaf))) (.node 48 [65, 24] (.node 45 [4] (.node 43 [46, 4] (.node 42 [22] .leaf .leaf) (.node 44 [22, 24] .leaf .leaf)) (.node 47 [22] (.node 46 [22, 4] .leaf .leaf) .leaf)) (.node 52 [22] (.node 50 [22] (.node 49 [4] .leaf .leaf) (.node 51 [4] .leaf .leaf)) (.node 54 [22, 24] (.node 53 [24] .leaf .leaf) .leaf))))) (.node 83 [4] (.node 69 [2] (.node 62 [77] (.node 59 [2] (.node 57 [2, 24] (.node 56 [4] .leaf .leaf) (.node 58 [2] .leaf .leaf)) (.node 61 [77, 24] (.node 60 [2] .leaf .leaf) .leaf)) (.node 66 [77] (.node 64 [22] (.node 63 [85] .leaf .leaf) (.node 65 [31] .leaf .leaf)) (.node 68 [3] (.node 67 [2] .leaf .leaf) .leaf))) (.node 76 [3] (.node 73 [4] (.node 71 [2] (.node 70 [85] .leaf .leaf) (.node 72 [2] .leaf .leaf)) (.node 75 [77] (.node 74 [96] .leaf .leaf) .leaf)) (.node 80 [46] (.node 78 [22] (.node 77 [4] .leaf .leaf) (.node 79 [77] .leaf .leaf)) (.node 82 [3] (.node 81 [22] .leaf .leaf) .leaf)))) (.node 97 [] (.node 90 [4] (.node 87 [] (.node 85 [77] (.node 84 [22, 4] .leaf .leaf) (.node 86 [2] .leaf .leaf)) (.node 89 [4] (.node 88 [77] .leaf .leaf) .leaf)) (.node 94 [9] (.node 92 [3] (.node 91 [3] .leaf .leaf) (.node 93 [3] .leaf .leaf)) (.node 96 [9] (.node 95 [] .leaf .leaf) .leaf))) (.node 104 [9] (.node 101 [] (.node 99 [] (.node 98 [9] .leaf .leaf) (.node 100 [9] .leaf .leaf)) (.node 103 [] (.node 102 [9] .leaf .leaf) .leaf)) (.node 107 [9] (.node 106 [3] (.node 105 [] .leaf .leaf) .leaf) (.node 109 [9] (.node 108 [] .leaf .leaf) .leaf))))))

noncomputable def aeIsoT : Tab Bool :=
  (.node 44 true (.node 23 true (.node 12 true (.node 7 true (.node 4 true (.node 3 true (.node 2 true .leaf .leaf) .leaf) (.node 6 true (.node 5 true .leaf .leaf) .leaf)) (.node 10 true (.node 9 true (.node 8 true .leaf .leaf) .leaf) (.node 11 true .leaf .leaf))) (.node 18 true (.node 15 true (.node 14 true (.node 13 true .leaf .leaf) .leaf) (.node 17 true (.node 16 true .leaf .leaf) .leaf)) (.node 21 true (.node 20 true (.node 19 true .leaf .leaf) .leaf) (.node 22 true .leaf .leaf)))) (.node 34 true (.node 29 true (.node 26 true (.node 25 true (.node 24 true .leaf .leaf) .leaf) (.node 28 true (.node 27 true .leaf .leaf) .leaf)) (.node 32 true (.node 31 true (.node 30 true .leaf .leaf) .leaf) (.node 33 true .leaf .leaf))) (.node 39 true (.node 37 true (.node 36 true (.node 35 true .leaf .leaf) .leaf) (.node 38 true .leaf .leaf)) (.node 42 true (.node 41 true (.node 40 true .leaf .leaf) .leaf) (.node 43 true .leaf .leaf))))) (.node 68 true (.node 55 true (.node 50 true (.node 47 true (.node 46 true (.node 45 true .leaf .leaf) .leaf) (.node 49 true (.node 48 true .leaf .leaf) .leaf)) (.node 53 true (.node 52 true (.node 51 true .leaf .leaf) .leaf) (.node 54 true .leaf .leaf))) (.node 62 true (.node 59 true (.node 57 true (.node 56 true .leaf .leaf) .leaf) (.node 61 true (.node 60 true .leaf .leaf) .leaf)) (.node 65 true (.node 64 true (.node 63 true .leaf .leaf) .leaf) (.node 66 true .leaf .leaf)))) (.node 82 true (.node 74 true (.node 71 true (.node 70 true (.node 69 true .leaf .leaf) .leaf) (.node 73 true (.node 72 true .leaf .leaf) .leaf)) (.node 78 true (.node 76 true (.node 75 true .leaf .leaf) .leaf) (.node 79 true .leaf .leaf))) (.node 88 true (.node 85 true (.node 84 true (.node 83 true .leaf .leaf) .leaf) (.node 86 true .leaf .leaf)) (.node 92 true (.node 91 true (.node 89 true .leaf .leaf) .leaf) (.node 93 true .leaf .leaf))))))

noncomputable def aeIso (f : FuncId) : Bool := (tget aeIsoT f).isSome

noncomputable def aePolT : Tab (Tab Pol) :=
  (.node 49 (.node 2 ⟨[0, 1, 2, 7, 8], [], []⟩ (.node 0 ⟨[0, 1, 2, 7], [], []⟩ .leaf .leaf) .leaf) (.node 27 (.node 2 ⟨[3, 4, 5, 6, 7, 8, 9], [], []⟩ (.node 0 ⟨[3, 4, 5, 6, 7], [(5, 1)], []⟩ .leaf .leaf) (.node 4 ⟨[3, 4, 5, 6, 7, 8, 9, 10], [], []⟩ .leaf .leaf)) (.node 14 (.node 2 ⟨[0, 5, 6, 7, 8, 9], [], []⟩ (.node 0 ⟨[0, 5, 6, 7], [(6, 1)], []⟩ .leaf .leaf) .leaf) (.node 8 (.node 0 ⟨[1, 2, 7, 8, 9], [], []⟩ .leaf .leaf) (.node 5 (.node 6 ⟨[3, 4, 6, 7, 13, 14, 15, 16, 18], [], []⟩ (.node 2 ⟨[3, 4, 6, 7, 13], [], []⟩ (.node 0 ⟨[3, 4, 6, 7, 8], [], []⟩ .leaf .leaf) (.node 4 ⟨[3, 4, 6, 7, 13, 14, 15, 16, 17], [], []⟩ .leaf .leaf)) (.node 10 ⟨[4, 21, 23, 24, 25, 27], [], []⟩ (.node 8 ⟨[4, 19, 21, 23, 24, 25, 26], [], []⟩ .leaf .leaf) .leaf)) (.node 3 (.node 0 ⟨[1, 5, 6], [], []⟩ .leaf .leaf) .leaf .leaf) (.node 7 (.node 0 ⟨[5, 6, 7, 8, 9], [], []⟩ .leaf .leaf) .leaf .leaf)) (.node 10 (.node 3 ⟨[1, 2, 7, 8, 15], [], []⟩ (.node 0 ⟨[1, 2, 7, 8], [], []⟩ .leaf .leaf) .leaf) (.node 9 (.node 2 ⟨[3, 4, 9, 12, 13, 14, 15], [], []⟩ (.node 0 ⟨[3, 4, 9, 12, 13, 14], [], []⟩ .leaf .leaf) .leaf) .leaf .leaf) (.node 11 (.node 0 ⟨[0, 1, 5, 6, 7], [], []⟩ .leaf .leaf) .leaf .leaf))) (.node 20 (.node 0 ⟨[0, 1, 5, 6], [], []⟩ .leaf .leaf) (.node 18 (.node 2 ⟨[5, 6, 7, 8], [], []⟩ (.node 0 ⟨[5, 6, 7], [], []⟩ .leaf .leaf) .leaf) (.node 17 (.node 2 ⟨[1, 6, 8, 9, 10, 42], [], []⟩ (.node 0 ⟨[1, 6, 8, 9], [], []⟩ .leaf .leaf) .leaf) .leaf .leaf) (.node 19 (.node 0 ⟨[5, 6, 7], [], []⟩ .leaf .leaf) .leaf .leaf)) (.node 25 (.node 0 ⟨[0, 1, 5], [], []⟩ .leaf .leaf) (.node 23 (.node 2 ⟨[4, 6, 7, 24, 25, 29, 30], [], []⟩ (.node 0 ⟨[4, 6, 24, 25], [], []⟩ .leaf .leaf) (.node 4 ⟨[6, 9, 52, 53], [(9, 1)], []⟩ .leaf .leaf)) .leaf .leaf) (.node 26 (.node 4 ⟨[3, 4, 8, 9], [], []⟩ (.node 2 ⟨[0, 3, 4, 5, 6, 7], [(6, 1)], []⟩ (.node 0 ⟨[0, 3, 4, 5], [(4, 1)], []⟩ .leaf .leaf) .leaf) (.node 6 ⟨[3, 8], [], []⟩ .leaf .leaf)) .leaf .leaf)))) (.node 40 (.node 0 ⟨[0, 1, 2, 7, 8, 9], [], []⟩ .leaf .leaf) (.node 34 (.node 2 ⟨[0, 3, 4, 5], [], []⟩ (.node 0 ⟨[0, 3, 4], [], []⟩ .leaf .leaf) .leaf) (.node 32 (.node 2 ⟨[0, 3, 4, 5, 6], [], []⟩ (.node 0 ⟨[0, 3, 4, 5], [], []⟩ .leaf .leaf) .leaf) (.node 30 (.node 2 ⟨[6, 9], [], []⟩ .leaf .leaf) .leaf .leaf) (.node 33 (.node 2 ⟨[0, 3, 4, 5], [], []⟩ (.node 0 ⟨[0, 3], [], []⟩ .leaf .leaf) .leaf) .leaf .leaf)) (.node 37 (.node 0 ⟨[0, 1, 5], [], []⟩ .leaf .leaf) (.node 36 (.node 2 ⟨[0, 1, 2, 3, 9, 10], [], []⟩ (.node 0 ⟨[0, 1, 2, 3, 9], [(9, 1)], []⟩ .leaf .leaf) .leaf) .leaf .leaf) (.node 39 (.node 2 ⟨[1, 8, 10, 13, 88, 89], [], []⟩ (.node 0 ⟨[1, 8, 10, 41, 42, 43], [], []⟩ .leaf .leaf) (.node 4 ⟨[1, 8, 13, 120, 121], [], []⟩ .leaf .leaf)) .leaf .leaf))) (.node 44 (.node 2 ⟨[1, 2, 12, 71, 72, 73], [], []⟩ (.node 0 ⟨[1, 2, 8, 48, 49], [], []⟩ .leaf .leaf) .leaf) (.node 42 (.node 2 ⟨[0, 1, 2, 7, 8, 9, 10], [(9, 1)], []⟩ (.node 0 ⟨[0, 1, 2, 7, 8], [(7, 1)], []⟩ .leaf .leaf) .leaf) (.node 41 (.node 2 ⟨[0, 1, 5, 6], [], []⟩ (.node 0 ⟨[0, 1, 5], [], []⟩ .leaf .leaf) .leaf) .leaf .leaf) (.node 43 (.node 0 ⟨[0, 1, 2, 8, 9], [(8, 1)], []⟩ .leaf .leaf) .leaf .leaf)) (.node 46 (.node 2 ⟨[0, 1, 2, 8, 9, 10, 11], [(10, 1)], []⟩ (.node 0 ⟨[0, 1, 2, 8, 9], [(8, 1)], []⟩ .leaf .leaf) .leaf) (.node 45 (.node 0 ⟨[0, 1, 2, 7], [], []⟩ .leaf .leaf) .leaf .leaf) (.node 47 (.node 0 ⟨[0, 3, 4], [(3, 1)], []⟩ .leaf .leaf) .leaf .leaf))))) (.node 70 (.node 2 ⟨[0, 1, 5, 6, 7, 8], [(7, 1)], []⟩ (.node 0 ⟨[0, 1, 5, 6], [(5, 1)], []⟩ .leaf .leaf) .leaf) (.node 61 (.node 2 ⟨[2, 4, 5, 21, 22, 23, 34, 35, 36], [], []⟩ (.node 0 ⟨[2, 4, 21, 22, 23], [], []⟩ .leaf .leaf) .leaf) (.node 56 (.node 0 ⟨[0, 1, 5], [], []⟩ .leaf .leaf) (.node 52 (.node 2 ⟨[0, 1, 2, 7, 8, 9, 10], [], []⟩ (.node 0 ⟨[0, 1, 2, 7, 8], [(7, 1)], []⟩ .leaf .leaf) .leaf) (.node 50 (.node 2 ⟨[0, 1, 5, 6, 7, 8], [], []⟩ (.node 0 ⟨[0, 1, 5, 6], [(5, 1)], []⟩ .leaf .leaf) (.node 4 ⟨[0, 1, 5, 6, 7, 8, 9], [], []⟩ .leaf .leaf)) .leaf .leaf) (.node 55 (.node 2 ⟨[0, 3, 4, 5, 6], [(5, 1)], []⟩ (.node 0 ⟨[0, 3, 4], [(3, 1)], []⟩ .leaf .leaf) .leaf) .leaf .leaf)) (.node 59 (.node 0 ⟨[3, 6, 7, 8], [], []⟩ .leaf .leaf) (.node 58 (.node 0 ⟨[1, 3, 6, 7], [(3, 1)], []⟩ .leaf .leaf) .leaf .leaf) (.node 60 (.node 0 ⟨[1, 3, 6, 7], [(3, 1)], []⟩ .leaf .leaf) .leaf .leaf))) (.node 66 (.node 0 ⟨[2, 3, 7, 8], [], []⟩ .leaf .leaf) (.node 63 (.node 4 ⟨[0, 1, 5, 6, 8, 9, 10], [], []⟩ (.node 2 ⟨[0, 1, 5, 6, 8], [], []⟩ (.node 0 ⟨[0, 1, 5, 6, 7], [], []⟩ .leaf .leaf) .leaf) (.node 8 ⟨[0, 1, 5, 6, 8, 9, 10, 11, 12], [], []⟩ (.node 6 ⟨[0, 1, 5, 6, 8, 9, 10, 11], [], []⟩ .leaf .leaf) .leaf)) (.node 62 (.node 0 ⟨[4, 5, 6, 12, 13], [], []⟩ .leaf .leaf) .leaf .leaf) (.node 65 (.node 2 ⟨[1, 3, 4, 5, 14, 15], [], []⟩ (.node 0 ⟨[1, 3, 4], [(3, 1)], []⟩ .leaf .leaf) (.node 4 ⟨[3], [], []⟩ .leaf .leaf)) .leaf .leaf)) (.node 68 (.node 0 ⟨[0, 3, 4], [], []⟩ .leaf .leaf) (.node 67 (.node 10 ⟨[0, 1, 10, 11, 12, 13, 14], [], []⟩ (.node 4 ⟨[0, 1, 5, 6, 7], [], []⟩ (.node 2 ⟨[0, 1, 5, 6], [], []⟩ (.node 0 ⟨[0, 1], [], []⟩ .leaf .leaf) .leaf) (.node 8 ⟨[0, 1, 10, 11, 12], [], []⟩ (.node 6 ⟨[0, 1, 5, 105, 106], [], []⟩ .leaf .leaf) .leaf)) (.node 16 ⟨[0, 1, 10, 18, 19], [], []⟩ (.node 14 ⟨[0, 1, 10, 11, 15, 16, 17], [], []⟩ (.node 12 ⟨[0, 1, 10, 11, 15], [], []⟩ .leaf .leaf) .leaf) (.node 20 ⟨[0, 1, 18, 21], [], []⟩ (.node 18 ⟨[0, 1, 10, 18, 19, 20], [], []⟩ .leaf .leaf) .leaf))) .leaf .leaf) (.node 69 (.node 2 ⟨[0, 1, 2, 7, 8, 9, 10], [], []⟩ (.node 0 ⟨[0, 1, 2, 7], [], []⟩ .leaf .leaf) .leaf) .leaf .leaf)))) (.node 82 (.node 0 ⟨[0, 3, 4], [], []⟩ .leaf .leaf) (.node 76 (.node 2 ⟨[0, 2, 7, 8, 9, 10], [], []⟩ (.node 0 ⟨[0, 2, 7, 8], [], []⟩ .leaf .leaf) (.node 4 ⟨[0, 2, 7, 8, 9, 10, 11], [], []⟩ .leaf .leaf)) (.node 73 (.node 4 ⟨[1, 3, 5, 6, 22, 23, 27, 28], [], []⟩ (.node 2 ⟨[1, 3, 5, 22, 23], [], []⟩ .leaf .leaf) .leaf) (.node 71 (.node 0 ⟨[0, 1], [], []⟩ .leaf .leaf) .leaf .leaf) (.node 75 (.node 2 ⟨[0, 2, 3, 4, 8, 9, 12, 13], [], []⟩ (.node 0 ⟨[0, 2, 3, 8, 9], [], []⟩ .leaf .leaf) .leaf) .leaf .leaf)) (.node 78 (.node 2 ⟨[1, 3, 4, 5, 8, 9, 13, 14], [(5, 1)], []⟩ (.node 0 ⟨[1, 3, 8, 9], [(3, 1)], []⟩ .leaf .leaf) .leaf) (.node 77 (.node 0 ⟨[0, 2, 4, 6, 32, 33], [], []⟩ .leaf .leaf) .leaf .leaf) (.node 79 (.node 2 ⟨[1, 2, 3, 4, 10, 11, 15, 16], [], []⟩ (.node 0 ⟨[1, 2, 3, 10, 11], [], []⟩ .leaf .leaf) .leaf) .leaf .leaf))) (.node 88 (.node 2 ⟨[1, 2, 3, 6, 7, 11, 12], [], []⟩ (.node 0 ⟨[1, 2, 6, 7], [], []⟩ .leaf .leaf) .leaf) (.node 85 (.node 2 ⟨[2, 3, 4, 5, 6, 14, 15, 19, 20], [], []⟩ (.node 0 ⟨[2, 3, 4, 5, 14, 15], [], []⟩ .leaf .leaf) (.node 4 ⟨[2, 3, 4, 5, 6, 7, 8, 14, 15, 19, 20, 24, 25], [(8, 1)], []⟩ .leaf .leaf)) (.node 84 (.node 2 ⟨[1, 6, 7, 9, 10, 15, 16, 17, 24, 25], [(10, 1)], []⟩ (.node 0 ⟨[1, 6, 7, 15, 16, 17], [(6, 1)], []⟩ .leaf .leaf) (.node 4 ⟨[1, 6, 7, 9, 10, 11, 12, 15, 16, 17, 24, 25, 28, 29, 30], [(12, 1)], []⟩ .leaf .leaf)) .leaf .leaf) (.node 87 (.node 0 ⟨[0, 1, 3, 4], [], []⟩ .leaf .leaf) .leaf .leaf)) (.node 92 (.node 0 ⟨[3, 6, 7, 8], [], []⟩ .leaf .leaf) (.node 91 (.node 0 ⟨[0, 3, 4], [], []⟩ .leaf .leaf) .leaf .leaf) (.node 93 (.node 0 ⟨[0, 1, 7, 8], [], []⟩ .leaf .leaf) .leaf .leaf))))))

noncomputable def aePol (f b : Nat) : Option Pol := match tget aePolT f with
  | some t => tget t b
  | none => none

noncomputable def aeXPolT : Tab (Tab Pol) :=
  (.node 49 (.node 2 ⟨[0, 1, 2, 7], [], []⟩ (.node 0 ⟨[0, 1], [], []⟩ .leaf .leaf) .leaf) (.node 30 (.node 2 ⟨[], [], []⟩ (.node 0 ⟨[6], [], []⟩ .leaf .leaf) .leaf) (.node 17 (.node 1 ⟨[1, 6, 8, 9], [], []⟩ (.node 0 ⟨[1, 8], [], []⟩ .leaf .leaf) (.node 2 ⟨[1, 6, 8, 9, 10], [], []⟩ .leaf .leaf)) (.node 9 (.node 2 ⟨[3, 4, 9, 12, 13, 14], [], []⟩ (.node 0 ⟨[12, 13], [], []⟩ .leaf .leaf) .leaf) (.node 7 (.node 0 ⟨[], [], []⟩ .leaf .leaf) (.node 5 (.node 6 ⟨[3, 4, 6, 7, 13, 14, 15, 16], [], []⟩ (.node 2 ⟨[3, 4], [], []⟩ (.node 0 ⟨[3, 4, 6, 7], [], []⟩ .leaf .leaf) (.node 4 ⟨[3, 4, 6, 7, 13, 14, 15, 16], [], []⟩ .leaf .leaf)) (.node 10 ⟨[21, 23, 24, 25], [], []⟩ (.node 8 ⟨[4, 21, 23, 24, 25], [], []⟩ .leaf .leaf) .leaf)) (.node 3 (.node 0 ⟨[], [], []⟩ .leaf .leaf) .leaf .leaf) .leaf) (.node 8 (.node 0 ⟨[], [], []⟩ .leaf .leaf) .leaf .leaf)) (.node 11 (.node 0 ⟨[], [], []⟩ .leaf .leaf) (.node 10 (.node 3 ⟨[1, 2, 7, 8], [], []⟩ (.node 0 ⟨[], [], []⟩ .leaf .leaf) .leaf) .leaf .leaf) (.node 14 (.node 2 ⟨[0, 5, 6, 7, 8], [], []⟩ (.node 0 ⟨[6], [], []⟩ .leaf .leaf) .leaf) .leaf .leaf))) (.node 23 (.node 2 ⟨[4, 6, 24, 25], [], []⟩ (.node 0 ⟨[4, 6], [], []⟩ .leaf .leaf) (.node 4 ⟨[9], [], []⟩ .leaf .leaf)) (.node 19 (.node 0 ⟨[6], [], []⟩ .leaf .leaf) (.node 18 (.node 2 ⟨[5, 6, 7], [], []⟩ (.node 0 ⟨[6], [], []⟩ .leaf .leaf) .leaf) .leaf .leaf) (.node 20 (.node 0 ⟨[1, 5], [], []⟩ .leaf .leaf) .leaf .leaf)) (.node 26 (.node 4 ⟨[3, 8], [], []⟩ (.node 2 ⟨[0, 3, 4, 5, 6], [], []⟩ (.node 0 ⟨[3, 4], [], []⟩ .leaf .leaf) .leaf) (.node 6 ⟨[3, 8], [], []⟩ .leaf .leaf)) (.node 25 (.node 0 ⟨[], [], []⟩ .leaf .leaf) .leaf .leaf) (.node 27 (.node 2 ⟨[3, 4, 5, 6, 7, 8], [], []⟩ (.node 0 ⟨[5], [], []⟩ .leaf .leaf) (.node 4 ⟨[3, 4, 5, 6, 7, 8, 9], [], []⟩ .leaf .leaf)) .leaf .leaf)))) (.node 40 (.node 0 ⟨[7, 8], [], []⟩ .leaf .leaf) (.node 34 (.node 2 ⟨[0, 3, 4], [], []⟩ (.node 0 ⟨[3], [], []⟩ .leaf .leaf) .leaf) (.node 32 (.node 2 ⟨[0, 3, 5], [], []⟩ (.node 0 ⟨[4], [], []⟩ .leaf .leaf) .leaf) (.node 31 (.node 0 ⟨[8, 9], [], []⟩ .leaf .leaf) .leaf .leaf) (.node 33 (.node 2 ⟨[0, 3, 4], [], []⟩ (.node 0 ⟨[], [], []⟩ .leaf .leaf) .leaf) .leaf .leaf)) (.node 37 (.node 0 ⟨[], [], []⟩ .leaf .leaf) (.node 36 (.node 2 ⟨[0, 1, 2, 3, 9], [], []⟩ (.node 0 ⟨[9], [], []⟩ .leaf .leaf) .leaf) .leaf .leaf) (.node 39 (.node 2 ⟨[1, 8, 13], [], []⟩ (.node 0 ⟨[1, 8, 10], [], []⟩ .leaf .leaf) (.node 4 ⟨[13], [], []⟩ .leaf .leaf)) .leaf .leaf))) (.node 44 (.node 2 ⟨[1, 2, 12], [], []⟩ (.node 0 ⟨[1, 2, 8], [], []⟩ .leaf .leaf) .leaf) (.node 42 (.node 2 ⟨[0, 1, 2, 7, 8, 9], [], []⟩ (.node 0 ⟨[7], [], []⟩ .leaf .leaf) .leaf) (.node 41 (.node 2 ⟨[0, 1, 5], [], []⟩ (.node 0 ⟨[], [], []⟩ .leaf .leaf) .leaf) .leaf .leaf) (.node 43 (.node 0 ⟨[0, 1, 8], [], []⟩ .leaf .leaf) .leaf .leaf)) (.node 46 (.node 2 ⟨[0, 1, 2, 8, 9, 10], [], []⟩ (.node 1 ⟨[0, 1, 2, 8, 9], [], []⟩ (.node 0 ⟨[8], [], []⟩ .leaf .leaf) .leaf) (.node 3 ⟨[0, 1, 2, 8, 9, 10, 11], [], []⟩ .leaf .leaf)) (.node 45 (.node 0 ⟨[], [], []⟩ .leaf .leaf) .leaf .leaf) (.node 47 (.node 0 ⟨[3], [], []⟩ .leaf .leaf) .leaf .leaf))))) (.node 70 (.node 2 ⟨[0, 1, 5, 6, 7], [], []⟩ (.node 0 ⟨[5], [], []⟩ .leaf .leaf) .leaf) (.node 61 (.node 2 ⟨[2, 4, 21, 22, 23], [], []⟩ (.node 0 ⟨[2, 4], [], []⟩ .leaf .leaf) .leaf) (.node 56 (.node 0 ⟨[0, 1], [], []⟩ .leaf .leaf) (.node 52 (.node 2 ⟨[0, 1, 2, 7, 8, 9], [], []⟩ (.node 0 ⟨[7], [], []⟩ .leaf .leaf) .leaf) (.node 50 (.node 2 ⟨[0, 1, 5, 6, 7], [], []⟩ (.node 0 ⟨[5], [], []⟩ .leaf .leaf) (.node 4 ⟨[0, 1, 5, 6, 7, 8], [], []⟩ .leaf .leaf)) .leaf .leaf) (.node 55 (.node 2 ⟨[0, 3, 4, 5], [], []⟩ (.node 0 ⟨[3], [], []⟩ .leaf .leaf) .leaf) .leaf .leaf)) (.node 59 (.node 0 ⟨[3], [], []⟩ .leaf .leaf) (.node 58 (.node 0 ⟨[3], [], []⟩ .leaf .leaf) .leaf .leaf) (.node 60 (.node 0 ⟨[3], [], []⟩ .leaf .leaf) .leaf .leaf))) (.node 66 (.node 0 ⟨[2, 3], [], []⟩ .leaf .leaf) (.node 63 (.node 4 ⟨[0, 1, 5, 8, 9], [], []⟩ (.node 2 ⟨[6], [], []⟩ (.node 0 ⟨[0, 1, 5, 6], [], []⟩ .leaf .leaf) .leaf) (.node 8 ⟨[0, 1, 5, 6, 8, 9, 10, 11], [], []⟩ (.node 6 ⟨[0, 1, 5, 6, 8, 9, 10], [], []⟩ .leaf .leaf) .leaf)) (.node 62 (.node 0 ⟨[4, 5], [], []⟩ .leaf .leaf) .leaf .leaf) (.node 65 (.node 2 ⟨[1, 3, 4, 5], [], []⟩ (.node 0 ⟨[3], [], []⟩ .leaf .leaf) (.node 4 ⟨[3], [], []⟩ .leaf .leaf)) .leaf .leaf)) (.node 68 (.node 0 ⟨[3], [], []⟩ .leaf .leaf) (.node 67 (.node 10 ⟨[0, 1, 10, 11, 12], [], []⟩ (.node 4 ⟨[0, 1, 5, 6], [], []⟩ (.node 2 ⟨[0, 1, 5], [], []⟩ (.node 1 ⟨[0, 1], [], []⟩ .leaf .leaf) .leaf) (.node 8 ⟨[0, 1, 10, 11], [], []⟩ (.node 6 ⟨[0, 1], [], []⟩ .leaf .leaf) .leaf)) (.node 16 ⟨[0, 1, 10, 18], [], []⟩ (.node 14 ⟨[0, 1, 10, 11, 15], [], []⟩ (.node 12 ⟨[0, 1, 10, 11], [], []⟩ .leaf .leaf) .leaf) (.node 20 ⟨[0, 1], [], []⟩ (.node 18 ⟨[0, 1, 10, 18, 19], [], []⟩ .leaf .leaf) .leaf))) .leaf .leaf) (.node 69 (.node 2 ⟨[8], [], []⟩ (.node 0 ⟨[0, 1, 2, 7], [], []⟩ .leaf .leaf) .leaf) .leaf .leaf)))) (.node 82 (.node 0 ⟨[3], [], []⟩ .leaf .leaf) (.node 76 (.node 2 ⟨[0, 2, 8, 9], [], []⟩ (.node 0 ⟨[7], [], []⟩ .leaf .leaf) (.node 4 ⟨[0, 2, 7, 8, 9, 10], [], []⟩ .leaf .leaf)) (.node 73 (.node 2 ⟨[], [], []⟩ (.node 1 ⟨[], [], []⟩ (.node 0 ⟨[1, 3], [], []⟩ .leaf .leaf) .leaf) (.node 4 ⟨[1, 3, 5, 22, 23], [], []⟩ .leaf .leaf)) (.node 71 (.node 0 ⟨[0], [], []⟩ .leaf .leaf) .leaf .leaf) (.node 75 (.node 2 ⟨[0, 2, 3, 8, 9], [], []⟩ (.node 0 ⟨[2, 3], [], []⟩ .leaf .leaf) .leaf) .leaf .leaf)) (.node 78 (.node 2 ⟨[1, 3, 5, 8, 9], [], []⟩ (.node 0 ⟨[3], [], []⟩ .leaf .leaf) .leaf) (.node 77 (.node 1 ⟨[0, 2, 4, 6, 32, 33], [], []⟩ (.node 0 ⟨[], [], []⟩ .leaf .leaf) .leaf) .leaf .leaf) (.node 79 (.node 2 ⟨[1, 2, 3, 10, 11], [], []⟩ (.node 0 ⟨[2, 3], [], []⟩ .leaf .leaf) .leaf) .leaf .leaf))) (.node 88 (.node 2 ⟨[1, 2, 6, 7], [], []⟩ (.node 0 ⟨[1, 2], [], []⟩ .leaf .leaf) .leaf) (.node 85 (.node 2 ⟨[2, 3, 4, 5, 14, 15], [], []⟩ (.node 0 ⟨[4, 5], [], []⟩ .leaf .leaf) (.node 4 ⟨[2, 3, 4, 5, 6, 7, 8, 14, 15, 19, 20], [], []⟩ .leaf .leaf)) (.node 84 (.node 2 ⟨[1, 6, 7, 10, 15, 16, 17], [], []⟩ (.node 0 ⟨[6, 7], [], []⟩ .leaf .leaf) (.node 4 ⟨[1, 6, 7, 9, 10, 11, 12, 15, 16, 17, 24, 25], [], []⟩ .leaf .leaf)) .leaf .leaf) (.node 87 (.node 0 ⟨[], [], []⟩ .leaf .leaf) .leaf .leaf)) (.node 92 (.node 0 ⟨[3], [], []⟩ .leaf .leaf) (.node 91 (.node 0 ⟨[3], [], []⟩ .leaf .leaf) .leaf .leaf) (.node 93 (.node 0 ⟨[], [], []⟩ .leaf .leaf) .leaf .leaf))))))

noncomputable def aeXPol (f b : Nat) : Option Pol := match tget aeXPolT f with
  | some t => tget t b
  | none => none

noncomputable def aePlanT : Tab (Tab Plan) :=
  (.node 44 (.node 12 ⟨[⟨0, false, [], false, none⟩, ⟨1, false, [], false, none⟩, ⟨2, false, [], false, none⟩, ⟨3, false, [], false, none⟩, ⟨4, false, [], false, none⟩, ⟨5, false, [], false, none⟩, ⟨6, false, [], false, none⟩, ⟨7, false, [], false, none⟩, ⟨8, false, [], false, none⟩, ⟨9, false, [], false, none⟩, ⟨10, false, [], false, none⟩, ⟨11, false, [], false, none⟩, ⟨12, false, [], false, none⟩, ⟨13, false, [], false, none⟩, ⟨14, false, [], false, none⟩, ⟨15, false, [], false, none⟩, ⟨16, true, [], false, none⟩], [[], [], [], [0, 2], [0, 1, 2, 3], [0, 1, 2, 3, 4], [], [], [], [6, 8], [6, 7, 8, 9], [6, 7, 8, 9, 10], [0, 1, 2, 3, 4, 5, 6, 7, 8, 9, 10, 11], [], [0, 13], [0, 1, 2, 3, 4, 5, 6, 7, 8, 9, 10, 11, 12, 13, 14], [0, 1, 2, 3, 4, 5, 6, 7, 8, 9, 10, 11, 12, 13, 14, 15]]⟩ (.node 7 ⟨[⟨0, false, [], false, none⟩, ⟨1, false, [], false, none⟩, ⟨2, false, [], false, none⟩, ⟨3, false, [], false, none⟩, ⟨4, false, [], false, none⟩, ⟨5, false, [], false, none⟩, ⟨6, false, [], false, none⟩, ⟨7, false, [], false, none⟩, ⟨8, false, [], false, none⟩], [[], [], [0, 1], [0, 1, 2], [], [], [4, 5], [4, 5, 6], [0, 1, 2, 3, 4, 5, 6, 7]]⟩ .leaf .leaf) .leaf) (.node 31 (.node 10 ⟨[⟨0, false, [], false, none⟩, ⟨1, false, [], false, none⟩, ⟨2, false, [], false, none⟩, ⟨3, false, [], false, none⟩, ⟨4, false, [], false, none⟩, ⟨5, false, [], false, none⟩], [[], [], [1], [1, 2], [0, 1, 2, 3], [0, 1, 2, 3, 4]]⟩ .leaf .leaf) (.node 23 (.node 11 ⟨[⟨0, false, [], false, none⟩, ⟨1, false, [], false, none⟩, ⟨2, false, [], false, none⟩, ⟨3, false, [], false, none⟩, ⟨4, false, [], false, none⟩, ⟨5, false, [], false, none⟩, ⟨6, false, [], false, none⟩, ⟨7, false, [], false, none⟩, ⟨8, false, [], false, none⟩, ⟨9, false, [], false, none⟩, ⟨10, false, [], false, none⟩, ⟨11, false, [], false, none⟩, ⟨12, false, [], false, none⟩, ⟨13, false, [], false, none⟩, ⟨14, false, [], false, none⟩, ⟨15, false, [], false, none⟩, ⟨16, true, [], false, none⟩], [[], [], [], [0, 2], [0, 1, 2, 3], [0, 1, 2, 3, 4], [], [], [], [6, 8], [6, 7, 8, 9], [6, 7, 8, 9, 10], [0, 1, 2, 3, 4, 5, 6, 7, 8, 9, 10, 11], [], [0, 13], [0, 1, 2, 3, 4, 5, 6, 7, 8, 9, 10, 11, 12, 13, 14], [0, 1, 2, 3, 4, 5, 6, 7, 8, 9, 10, 11, 12, 13, 14, 15]]⟩ .leaf .leaf) (.node 7 (.node 2 ⟨[⟨0, false, [], false, none⟩, ⟨1, false, [], false, none⟩, ⟨2, false, [], false, none⟩, ⟨3, false, [], false, none⟩, ⟨4, false, [], false, none⟩, ⟨5, false, [], false, none⟩, ⟨6, false, [], false, none⟩, ⟨7, false, [], false, none⟩, ⟨8, false, [], false, none⟩], [[], [0], [], [2], [], [4], [0, 1], [0, 1, 2, 3, 6], [0, 1, 2, 3, 4, 5, 6, 7]]⟩ .leaf .leaf) (.node 5 (.node 25 ⟨[⟨0, false, [], false, none⟩, ⟨1, false, [], false, none⟩, ⟨2, false, [], false, none⟩, ⟨3, false, [], false, none⟩, ⟨4, false, [], false, none⟩, ⟨5, false, [], false, none⟩, ⟨6, false, [], false, none⟩, ⟨7, false, [], false, none⟩, ⟨8, false, [], false, none⟩, ⟨9, false, [], false, none⟩, ⟨10, false, [], false, none⟩, ⟨11, false, [], false, none⟩, ⟨12, false, [], false, none⟩], [[], [], [], [1, 2], [1, 2, 3], [], [], [5, 6], [5, 6, 7], [5, 6, 7, 8], [1, 2, 3, 4, 5, 6, 7, 8, 9], [0, 1, 2, 3, 4, 5, 6, 7, 8, 9, 10], [0, 1, 2, 3, 4, 5, 6, 7, 8, 9, 10, 11]]⟩ .leaf .leaf) .leaf .leaf) (.node 10 (.node 24 ⟨[⟨0, false, [], false, none⟩, ⟨1, false, [], false, none⟩, ⟨2, false, [], false, none⟩, ⟨3, false, [], false, none⟩, ⟨4, false, [], false, none⟩, ⟨5, false, [], false, none⟩, ⟨6, false, [], false, none⟩, ⟨7, false, [], false, none⟩, ⟨8, false, [], false, none⟩, ⟨9, false, [], false, none⟩, ⟨10, false, [], false, none⟩, ⟨11, false, [], false, none⟩, ⟨12, false, [], false, none⟩, ⟨13, true, [], false, none⟩], [[], [], [0, 1], [0, 1, 2], [], [], [], [5, 6], [5, 6, 7], [], [5, 6, 7, 8, 9], [5, 6, 7, 8, 9, 10], [0, 1, 2, 3, 4, 5, 6, 7, 8, 9, 10, 11], [0, 1, 2, 3, 4, 5, 6, 7, 8, 9, 10, 11, 12]]⟩ .leaf .leaf) .leaf .leaf)) (.node 26 (.node 17 ⟨[⟨0, false, [], false, none⟩, ⟨1, false, [], false, none⟩, ⟨2, false, [], false, none⟩, ⟨3, false, [], false, none⟩, ⟨4, false, [], false, none⟩, ⟨5, false, [], false, none⟩, ⟨6, false, [], false, none⟩, ⟨7, false, [], false, none⟩, ⟨8, false, [], false, none⟩, ⟨9, false, [], false, none⟩, ⟨10, false, [], false, none⟩, ⟨11, false, [], false, none⟩, ⟨12, true, [], false, none⟩], [[], [], [], [], [2, 3], [2, 3, 4], [], [], [], [6, 7, 8], [2, 3, 4, 5, 6, 7, 8, 9], [0, 1, 2, 3, 4, 5, 6, 7, 8, 9, 10], [0, 1, 2, 3, 4, 5, 6, 7, 8, 9, 10, 11]]⟩ .leaf .leaf) (.node 25 (.node 6 ⟨[⟨0, false, [], false, none⟩, ⟨1, false, [], false, none⟩, ⟨2, false, [], false, none⟩, ⟨3, false, [], false, none⟩, ⟨4, false, [], false, none⟩, ⟨5, false, [], false, none⟩, ⟨6, false, [], false, none⟩, ⟨7, false, [], false, none⟩, ⟨8, false, [], false, none⟩], [[], [], [0, 1], [0, 1, 2], [], [], [4, 5], [4, 5, 6], [0, 1, 2, 3, 4, 5, 6, 7]]⟩ .leaf .leaf) .leaf .leaf) (.node 30 (.node 14 ⟨[⟨0, false, [], false, none⟩, ⟨1, false, [], false, none⟩, ⟨4, true, [], false, none⟩, ⟨2, false, [4], false, none⟩, ⟨3, false, [4], false, none⟩, ⟨5, false, [], false, none⟩], [[], [], [], [1, 2], [0, 1], [0, 1, 2, 3, 4]]⟩ .leaf .leaf) .leaf .leaf))) (.node 40 (.node 10 ⟨[⟨0, false, [], false, none⟩, ⟨1, false, [], false, none⟩, ⟨2, false, [], false, none⟩, ⟨3, false, [], false, none⟩, ⟨4, false, [], false, none⟩, ⟨5, false, [], false, none⟩, ⟨6, false, [], false, none⟩, ⟨7, false, [], false, none⟩, ⟨8, false, [], false, none⟩, ⟨9, false, [], false, none⟩, ⟨10, false, [], false, none⟩, ⟨11, false, [], false, none⟩, ⟨12, false, [], false, none⟩, ⟨13, false, [], false, none⟩, ⟨14, false, [], false, none⟩, ⟨15, false, [], false, none⟩], [[], [0], [0, 1], [0, 1], [0, 1, 2, 3], [0, 1, 2, 3, 4], [0, 1], [0, 1], [0, 1, 6, 7], [0, 1, 6, 7, 8], [0, 1], [0, 1, 6, 7, 8, 9, 10], [0, 1, 6, 7, 8, 9, 10, 11], [0, 1, 2, 3, 4, 5, 6, 7, 8, 9, 10, 11, 12], [0, 1, 2, 3, 4, 5, 6, 7, 8, 9, 10, 11, 12, 13], [0, 1, 2, 3, 4, 5, 6, 7, 8, 9, 10, 11, 12, 13, 14]]⟩ (.node 7 ⟨[⟨0, false, [], false, none⟩, ⟨1, false, [], false, none⟩, ⟨2, false, [], false, none⟩, ⟨3, false, [], false, none⟩, ⟨4, false, [], false, none⟩, ⟨5, false, [], false, none⟩, ⟨6, false, [], false, none⟩, ⟨7, false, [], false, none⟩, ⟨8, false, [], false, none⟩, ⟨9, false, [], false, none⟩, ⟨10, false, [], false, none⟩, ⟨11, false, [], false, none⟩, ⟨12, false, [], false, none⟩, ⟨13, false, [], false, none⟩, ⟨14, false, [], false, none⟩, ⟨15, false, [], false, none⟩, ⟨16, false, [], false, none⟩, ⟨17, false, [], false, none⟩, ⟨18, false, [], false, none⟩], [[], [], [0, 1], [0, 1, 2], [0, 1, 2, 3], [0, 1, 2, 3, 4], [0, 1, 2, 3, 4, 5], [0, 1, 2, 3, 4, 5], [0, 1, 2, 3, 4, 5, 6, 7], [0, 1, 2, 3, 4, 5, 6, 7, 8], [0, 1, 2, 3, 4, 5], [0, 1, 2, 3, 4, 5], [0, 1, 2, 3, 4, 5, 10, 11], [0, 1, 2, 3, 4, 5, 10, 11, 12], [0, 1, 2, 3, 4, 5], [0, 1, 2, 3, 4, 5, 10, 11, 12, 13, 14], [0, 1, 2, 3, 4, 5, 10, 11, 12, 13, 14, 15], [0, 1, 2, 3, 4, 5, 6, 7, 8, 9, 10, 11, 12, 13, 14, 15, 16], [0, 1, 2, 3, 4, 5, 6, 7, 8, 9, 10, 11, 12, 13, 14, 15, 16, 17]]⟩ .leaf .leaf) .leaf) (.node 37 (.node 6 ⟨[⟨0, false, [], false, none⟩, ⟨1, false, [], false, none⟩, ⟨2, false, [], false, none⟩, ⟨3, false, [], false, none⟩, ⟨4, false, [], false, none⟩, ⟨5, false, [], false, none⟩, ⟨6, false, [], false, none⟩, ⟨7, false, [], false, none⟩, ⟨8, false, [], false, none⟩], [[], [], [0, 1], [0, 1, 2], [], [], [4, 5], [4, 5, 6], [0, 1, 2, 3, 4, 5, 6, 7]]⟩ .leaf .leaf) (.node 32 (.node 9 ⟨[⟨0, false, [], false, none⟩, ⟨1, false, [], false, none⟩, ⟨2, false, [], false, none⟩, ⟨3, false, [], false, none⟩, ⟨4, false, [], false, none⟩, ⟨5, false, [], false, none⟩, ⟨6, false, [], false, none⟩, ⟨7, false, [], false, none⟩], [[], [], [], [0, 1, 2], [], [4], [4, 5], [0, 1, 2, 3, 4, 5, 6]]⟩ .leaf .leaf) .leaf .leaf) (.node 39 (.node 23 ⟨[⟨0, false, [], false, none⟩, ⟨1, false, [], false, none⟩, ⟨5, false, [], false, none⟩, ⟨6, false, [], false, none⟩, ⟨7, false, [], false, none⟩, ⟨8, false, [], false, none⟩, ⟨20, false, [], false, none⟩, ⟨21, false, [], false, none⟩, ⟨22, false, [], false, none⟩, ⟨23, true, [], false, none⟩, ⟨2, false, [23], false, none⟩, ⟨3, false, [23], false, none⟩, ⟨4, false, [23], false, none⟩, ⟨9, false, [23], false, none⟩, ⟨10, false, [23], false, none⟩, ⟨11, false, [23], false, none⟩, ⟨12, false, [23], false, none⟩, ⟨13, false, [23], false, none⟩, ⟨14, false, [23], false, none⟩, ⟨15, false, [23], false, none⟩, ⟨16, false, [23], false, none⟩, ⟨17, false, [23], false, none⟩, ⟨18, false, [23], false, none⟩, ⟨19, false, [23], false, none⟩, ⟨24, false, [23], false, none⟩, ⟨25, false, [23], false, none⟩, ⟨26, false, [], false, none⟩, ⟨27, true, [], false, none⟩], [[], [], [], [2], [], [], [], [5, 6], [5, 6, 7], [], [], [], [9, 11], [9, 10, 11, 12], [9, 10, 11, 12, 13], [], [], [15, 16], [15, 16, 17], [9, 10, 11, 12, 13, 14, 15, 16, 17, 18], [], [0, 20], [0, 1, 5, 6, 7, 8, 20, 21], [0, 1, 5, 6, 7, 8, 20, 21, 22], [], [2, 3, 24], [0, 1, 2, 3, 4, 5, 6, 7, 8, 9, 10, 11, 12, 13, 14, 15, 16, 17, 18, 19, 20, 21, 22, 23, 24, 25], [0, 1, 2, 3, 4, 5, 6, 7, 8, 9, 10, 11, 12, 13, 14, 15, 16, 17, 18, 19, 20, 21, 22, 23, 24, 25, 26]]⟩ (.node 14 ⟨[⟨0, false, [], false, none⟩, ⟨1, false, [], false, none⟩, ⟨2, false, [], false, none⟩, ⟨3, false, [], false, none⟩, ⟨4, false, [], false, none⟩, ⟨5, false, [], false, none⟩, ⟨6, false, [], false, none⟩, ⟨7, false, [], false, none⟩, ⟨8, false, [], false, none⟩, ⟨9, false, [], false, none⟩, ⟨10, false, [], false, none⟩, ⟨11, false, [], false, none⟩, ⟨12, false, [], false, none⟩, ⟨13, false, [], false, none⟩], [[], [], [1], [0, 1, 2], [0, 1, 2, 3], [0, 1, 2, 3, 4], [0, 1, 2, 3, 4], [0, 1, 2, 3, 4], [0, 1, 2, 3, 4], [0, 1, 2, 3, 4, 7, 8], [0, 1, 2, 3, 4, 7, 8, 9], [0, 1, 2, 3, 4, 6, 7, 8, 9, 10], [0, 1, 2, 3, 4, 5, 6, 7, 8, 9, 10, 11], [0, 1, 2, 3, 4, 5, 6, 7, 8, 9, 10, 11, 12]]⟩ .leaf .leaf) (.node 28 ⟨[⟨0, false, [], false, none⟩, ⟨1, false, [], false, none⟩, ⟨2, false, [], false, none⟩, ⟨3, false, [], false, none⟩, ⟨4, false, [], false, none⟩, ⟨5, false, [], false, none⟩, ⟨6, false, [], false, none⟩, ⟨7, false, [], false, none⟩, ⟨8, false, [], false, none⟩, ⟨9, false, [], false, none⟩, ⟨10, false, [], false, none⟩, ⟨11, false, [], false, none⟩, ⟨12, true, [], false, none⟩], [[], [], [1], [], [], [], [3, 5], [3, 4, 5, 6], [3, 4, 5, 6, 7], [], [0, 9], [0, 1, 2, 3, 4, 5, 6, 7, 8, 9, 10], [0, 1, 2, 3, 4, 5, 6, 7, 8, 9, 10, 11]]⟩ .leaf .leaf)) .leaf .leaf)) (.node 42 (.node 13 ⟨[⟨0, false, [], false, none⟩, ⟨1, false, [], false, none⟩, ⟨2, false, [], false, none⟩, ⟨3, false, [], false, none⟩, ⟨4, false, [], false, none⟩, ⟨5, false, [], false, none⟩, ⟨6, false, [], false, none⟩, ⟨7, false, [], false, none⟩, ⟨8, false, [], false, none⟩, ⟨9, false, [], false, none⟩, ⟨10, false, [], false, none⟩, ⟨11, false, [], false, none⟩, ⟨12, false, [], false, none⟩, ⟨13, false, [], false, none⟩, ⟨14, true, [], false, none⟩, ⟨15, false, [], false, none⟩], [[], [], [], [1, 2], [1, 2, 3], [], [1, 2, 3, 4, 5], [1, 2, 3, 4, 5, 6], [], [], [8, 9], [8, 9, 10], [1, 2, 3, 4, 5, 6, 7, 8, 9, 10, 11], [1, 2, 3, 4, 5, 6, 7, 8, 9, 10, 11, 12], [0, 1, 2, 3, 4, 5, 6, 7, 8, 9, 10, 11, 12, 13], [0, 1, 2, 3, 4, 5, 6, 7, 8, 9, 10, 11, 12, 13, 14]]⟩ .leaf .leaf) (.node 41 (.node 11 ⟨[⟨0, false, [], false, none⟩, ⟨1, false, [], false, none⟩, ⟨2, false, [], false, none⟩, ⟨3, false, [], false, none⟩, ⟨4, false, [], false, none⟩, ⟨5, false, [], false, none⟩, ⟨6, false, [], false, none⟩, ⟨7, false, [], false, none⟩, ⟨8, false, [], false, none⟩, ⟨9, false, [], false, none⟩, ⟨10, false, [], false, none⟩, ⟨11, false, [], false, none⟩, ⟨12, false, [], false, none⟩, ⟨13, false, [], false, none⟩, ⟨14, false, [], false, none⟩], [[], [], [0, 1], [0, 1, 2], [], [0, 1, 2, 3, 4], [0, 1, 2, 3, 4, 5], [], [], [7, 8], [7, 8, 9], [], [7, 8, 9, 10, 11], [7, 8, 9, 10, 11, 12], [0, 1, 2, 3, 4, 5, 6, 7, 8, 9, 10, 11, 12, 13]]⟩ (.node 6 ⟨[⟨0, false, [], false, none⟩, ⟨1, false, [], false, none⟩, ⟨2, false, [], false, none⟩, ⟨3, false, [], false, none⟩, ⟨4, false, [], false, none⟩, ⟨5, false, [], false, none⟩, ⟨6, false, [], false, none⟩, ⟨7, false, [], false, none⟩, ⟨8, false, [], false, none⟩, ⟨9, false, [], false, none⟩, ⟨10, false, [], false, none⟩], [[], [], [0, 1], [0, 1, 2], [0, 1, 2, 3], [], [], [5, 6], [5, 6, 7], [5, 6, 7, 8], [0, 1, 2, 3, 4, 5, 6, 7, 8, 9]]⟩ .leaf .leaf) .leaf) .leaf .leaf) (.node 43 (.node 7 ⟨[⟨0, false, [], false, none⟩, ⟨1, false, [], false, none⟩, ⟨2, false, [], false, none⟩, ⟨3, false, [], false, none⟩, ⟨4, false, [], false, none⟩, ⟨5, false, [], false, none⟩, ⟨6, false, [], false, none⟩, ⟨7, false, [], false, none⟩, ⟨8, false, [], false, none⟩, ⟨9, false, [], false, none⟩, ⟨10, false, [], false, none⟩, ⟨11, false, [], false, none⟩, ⟨12, false, [], false, none⟩, ⟨13, false, [], false, none⟩, ⟨14, false, [], false, none⟩, ⟨15, false, [], false, none⟩, ⟨16, false, [], false, none⟩], [[], [], [0, 1], [0, 1, 2], [0, 1, 2, 3], [], [], [5, 6], [5, 6, 7], [], [5, 6, 7, 8, 9], [5, 6, 7, 8, 9, 10], [5, 6, 7, 8, 9, 10, 11], [5, 6, 7, 8, 9, 10, 11, 12], [0, 1, 2, 3, 4, 5, 6, 7, 8, 9, 10, 11, 12, 13], [0, 1, 2, 3, 4, 5, 6, 7, 8, 9, 10, 11, 12, 13, 14], [0, 1, 2, 3, 4, 5, 6, 7, 8, 9, 10, 11, 12, 13, 14, 15]]⟩ .leaf .leaf) .leaf .leaf)))) (.node 72 (.node 1 ⟨[⟨0, false, [], false, none⟩, ⟨1, false, [], false, none⟩, ⟨2, false, [], false, none⟩, ⟨3, false, [], false, none⟩, ⟨4, false, [], false, none⟩, ⟨5, false, [], false, none⟩, ⟨6, false, [], false, none⟩, ⟨7, false, [], false, none⟩, ⟨8, false, [], false, none⟩, ⟨9, false, [], false, none⟩, ⟨10, false, [], false, none⟩, ⟨11, false, [], false, none⟩], [[], [0], [], [2], [2, 3], [2, 3, 4], [], [6], [6, 7], [6, 7, 8], [0, 1, 2, 3, 4, 5, 6, 7, 8, 9], [0, 1, 2, 3, 4, 5, 6, 7, 8, 9, 10]]⟩ .leaf .leaf) (.node 65 (.node 9 ⟨[⟨0, false, [], false, none⟩, ⟨1, false, [], false, none⟩, ⟨2, false, [], false, none⟩, ⟨3, false, [], false, none⟩, ⟨4, false, [], false, none⟩, ⟨5, false, [], false, none⟩, ⟨6, false, [], false, none⟩, ⟨7, false, [], false, none⟩, ⟨8, false, [], false, none⟩, ⟨9, false, [], false, none⟩, ⟨10, false, [], false, none⟩, ⟨11, false, [], false, none⟩, ⟨12, false, [], false, none⟩, ⟨13, false, [], false, none⟩], [[], [], [], [1, 2], [1, 2, 3], [], [], [], [6, 7], [5, 6, 7, 8], [5, 6, 7, 8, 9], [1, 2, 3, 4, 5, 6, 7, 8, 9, 10], [0, 1, 2, 3, 4, 5, 6, 7, 8, 9, 10, 11], [0, 1, 2, 3, 4, 5, 6, 7, 8, 9, 10, 11, 12]]⟩ .leaf .leaf) (.node 50 (.node 12 ⟨[⟨0, false, [], false, none⟩, ⟨1, false, [], false, none⟩, ⟨2, false, [], false, none⟩, ⟨3, false, [], false, none⟩, ⟨4, false, [], false, none⟩, ⟨5, false, [], false, none⟩, ⟨6, false, [], false, none⟩, ⟨7, false, [], false, none⟩, ⟨8, false, [], false, none⟩, ⟨9, false, [], false, none⟩, ⟨10, false, [], false, none⟩, ⟨11, false, [], false, none⟩, ⟨12, false, [], false, none⟩, ⟨13, false, [], false, none⟩, ⟨14, false, [], false, none⟩, ⟨15, false, [], false, none⟩, ⟨16, false, [], false, none⟩, ⟨17, false, [], false, none⟩, ⟨18, false, [], false, none⟩, ⟨19, false, [], false, none⟩, ⟨20, false, [], false, none⟩, ⟨21, false, [], false, none⟩, ⟨22, false, [], false, none⟩, ⟨23, true, [], false, none⟩], [[], [], [], [], [2, 3], [2, 3, 4], [], [], [6, 7], [6, 7, 8], [], [6, 7, 8, 9, 10], [6, 7, 8, 9, 10, 11], [], [], [13, 14], [13, 14, 15], [], [13, 14, 15, 16, 17], [13, 14, 15, 16, 17, 18], [6, 7, 8, 9, 10, 11, 12, 13, 14, 15, 16, 17, 18, 19], [2, 3, 4, 5, 6, 7, 8, 9, 10, 11, 12, 13, 14, 15, 16, 17, 18, 19, 20], [0, 1, 2, 3, 4, 5, 6, 7, 8, 9, 10, 11, 12, 13, 14, 15, 16, 17, 18, 19, 20, 21], [0, 1, 2, 3, 4, 5, 6, 7, 8, 9, 10, 11, 12, 13, 14, 15, 16, 17, 18, 19, 20, 21, 22]]⟩ .leaf .leaf) (.node 45 (.node 4 ⟨[⟨0, false, [], false, none⟩, ⟨1, false, [], false, none⟩, ⟨2, false, [], false, none⟩, ⟨3, false, [], false, none⟩, ⟨4, false, [], false, none⟩, ⟨5, false, [], false, none⟩, ⟨6, false, [], false, none⟩, ⟨7, false, [], false, none⟩, ⟨8, false, [], false, none⟩, ⟨9, false, [], false, none⟩, ⟨10, false, [], false, none⟩, ⟨11, false, [], false, none⟩, ⟨12, false, [], false, none⟩, ⟨13, false, [], false, none⟩, ⟨14, false, [], false, none⟩], [[], [], [0, 1], [0, 1, 2], [], [0, 1, 2, 3, 4], [0, 1, 2, 3, 4, 5], [], [], [7, 8], [7, 8, 9], [], [7, 8, 9, 10, 11], [7, 8, 9, 10, 11, 12], [0, 1, 2, 3, 4, 5, 6, 7, 8, 9, 10, 11, 12, 13]]⟩ .leaf .leaf) .leaf .leaf) (.node 63 (.node 22 ⟨[⟨0, false, [], false, none⟩, ⟨1, false, [], false, none⟩, ⟨2, false, [], false, none⟩, ⟨3, false, [], false, none⟩, ⟨4, false, [], false, none⟩, ⟨5, false, [], false, none⟩, ⟨6, false, [], false, none⟩, ⟨7, false, [], false, none⟩, ⟨8, false, [], false, none⟩, ⟨9, false, [], false, none⟩, ⟨10, false, [], false, none⟩, ⟨11, false, [], false, none⟩, ⟨12, false, [], false, none⟩, ⟨13, false, [], false, none⟩, ⟨14, false, [], false, none⟩, ⟨15, false, [], false, none⟩, ⟨16, false, [], false, none⟩, ⟨17, false, [], false, none⟩, ⟨18, false, [], false, none⟩, ⟨19, false, [], false, none⟩, ⟨20, false, [], false, none⟩, ⟨21, false, [], false, none⟩, ⟨22, false, [], false, none⟩, ⟨23, false, [], false, none⟩, ⟨24, false, [], false, none⟩, ⟨25, false, [], false, none⟩, ⟨26, false, [], false, none⟩, ⟨27, false, [], false, none⟩, ⟨28, false, [], false, none⟩, ⟨29, true, [], false, none⟩], [[], [], [0, 1], [0, 1, 2], [], [], [], [5, 6], [5, 6, 7], [], [5, 6, 7, 8, 9], [5, 6, 7, 8, 9, 10], [], [], [12, 13], [12, 13, 14], [], [12, 13, 14, 15, 16], [12, 13, 14, 15, 16, 17], [], [], [19, 20], [19, 20, 21], [], [19, 20, 21, 22, 23], [19, 20, 21, 22, 23, 24], [12, 13, 14, 15, 16, 17, 18, 19, 20, 21, 22, 23, 24, 25], [5, 6, 7, 8, 9, 10, 11, 12, 13, 14, 15, 16, 17, 18, 19, 20, 21, 22, 23, 24, 25, 26], [0, 1, 2, 3, 4, 5, 6, 7, 8, 9, 10, 11, 12, 13, 14, 15, 16, 17, 18, 19, 20, 21, 22, 23, 24, 25, 26, 27], [0, 1, 2, 3, 4, 5, 6, 7, 8, 9, 10, 11, 12, 13, 14, 15, 16, 17, 18, 19, 20, 21, 22, 23, 24, 25, 26, 27, 28]]⟩ .leaf .leaf) .leaf .leaf)) (.node 69 (.node 11 ⟨[⟨0, false, [], false, none⟩, ⟨1, false, [], false, none⟩, ⟨2, false, [], false, none⟩, ⟨3, false, [], false, none⟩, ⟨4, false, [], false, none⟩, ⟨5, false, [], false, none⟩, ⟨6, false, [], false, none⟩, ⟨7, false, [], false, none⟩, ⟨8, false, [], false, none⟩, ⟨9, false, [], false, none⟩, ⟨10, false, [], false, none⟩, ⟨11, false, [], false, none⟩, ⟨12, false, [], false, none⟩, ⟨13, false, [], false, none⟩, ⟨14, false, [], false, none⟩, ⟨15, false, [], false, none⟩, ⟨16, false, [], false, none⟩, ⟨17, false, [], false, none⟩, ⟨18, false, [], false, none⟩, ⟨19, false, [], false, none⟩, ⟨20, false, [], false, none⟩, ⟨21, false, [], false, none⟩, ⟨22, false, [], false, none⟩], [[], [], [], [], [2, 3], [2, 3, 4], [], [2, 3, 4, 5, 6], [2, 3, 4, 5, 6, 7], [1, 2, 3, 4, 5, 6, 7, 8], [], [], [], [12], [11, 12, 13], [], [], [16], [15, 16, 17], [10, 11, 12, 13, 14, 15, 16, 17, 18], [1, 2, 3, 4, 5, 6, 7, 8, 9, 10, 11, 12, 13, 14, 15, 16, 17, 18, 19], [0, 1, 2, 3, 4, 5, 6, 7, 8, 9, 10, 11, 12, 13, 14, 15, 16, 17, 18, 19, 20], [0, 1, 2, 3, 4, 5, 6, 7, 8, 9, 10, 11, 12, 13, 14, 15, 16, 17, 18, 19, 20, 21]]⟩ .leaf .leaf) (.node 67 (.node 28 ⟨[⟨0, false, [], false, none⟩, ⟨1, false, [], false, none⟩, ⟨2, false, [], false, none⟩, ⟨3, false, [], false, none⟩, ⟨4, false, [], false, none⟩, ⟨5, false, [], false, none⟩, ⟨6, false, [], false, none⟩, ⟨7, false, [], false, none⟩, ⟨8, false, [], false, none⟩, ⟨9, false, [], false, none⟩, ⟨10, false, [], false, none⟩, ⟨11, false, [], false, none⟩, ⟨12, false, [], false, none⟩, ⟨13, false, [], false, none⟩, ⟨14, false, [], false, none⟩, ⟨15, false, [], false, none⟩, ⟨16, false, [], false, none⟩, ⟨17, false, [], false, none⟩, ⟨18, false, [], false, none⟩, ⟨19, false, [], false, none⟩, ⟨20, false, [], false, none⟩, ⟨21, false, [], false, none⟩, ⟨22, false, [], false, none⟩, ⟨23, true, [], false, none⟩], [[], [], [], [0], [0, 3], [0, 1, 3, 4], [0, 1, 2, 3, 4, 5], [0, 1, 2, 3, 4, 5, 6], [], [], [], [], [9], [9, 12], [9, 10, 12, 13], [9, 10, 11, 12, 13, 14], [9, 10, 11, 12, 13, 14, 15], [8, 9, 10, 11, 12, 13, 14, 15, 16], [0, 1, 2, 3, 4, 5, 6, 7, 8, 9, 10, 11, 12, 13, 14, 15, 16, 17], [0], [0, 19], [0, 1, 19, 20], [0, 1, 2, 3, 4, 5, 6, 7, 8, 9, 10, 11, 12, 13, 14, 15, 16, 17, 18, 19, 20, 21], [0, 1, 2, 3, 4, 5, 6, 7, 8, 9, 10, 11, 12, 13, 14, 15, 16, 17, 18, 19, 20, 21, 22]]⟩ (.node 13 ⟨[⟨0, false, [], false, none⟩, ⟨1, false, [], false, none⟩, ⟨5, false, [], false, none⟩, ⟨6, false, [], false, none⟩, ⟨7, false, [], false, none⟩, ⟨8, false, [], false, none⟩, ⟨9, false, [], false, none⟩, ⟨10, false, [], false, none⟩, ⟨11, false, [], false, none⟩, ⟨12, false, [], false, none⟩, ⟨13, false, [], false, none⟩, ⟨14, false, [], false, none⟩, ⟨15, false, [], false, none⟩, ⟨16, false, [], false, none⟩, ⟨17, false, [], false, none⟩, ⟨18, false, [], false, none⟩, ⟨19, false, [], false, none⟩, ⟨20, false, [], false, none⟩, ⟨21, true, [], false, none⟩, ⟨2, false, [21], false, none⟩, ⟨3, false, [21], false, none⟩, ⟨4, false, [21], false, none⟩, ⟨22, false, [21], false, none⟩, ⟨23, false, [21], false, none⟩, ⟨24, false, [], false, none⟩, ⟨25, true, [], false, none⟩], [[], [], [], [], [3], [], [], [6], [5], [5, 8], [5, 6, 7, 8, 9], [5, 6, 7, 8, 9, 10], [], [], [12], [12, 14], [12, 13, 14, 15], [12, 13, 14, 15, 16], [0], [0, 18], [0, 1, 5, 6, 7, 8, 9, 10, 11, 12, 13, 14, 15, 16, 17, 18, 19], [0, 1, 5, 6, 7, 8, 9, 10, 11, 12, 13, 14, 15, 16, 17, 18, 19, 20], [2], [2, 22], [0, 1, 2, 3, 4, 5, 6, 7, 8, 9, 10, 11, 12, 13, 14, 15, 16, 17, 18, 19, 20, 21, 22, 23], [0, 1, 2, 3, 4, 5, 6, 7, 8, 9, 10, 11, 12, 13, 14, 15, 16, 17, 18, 19, 20, 21, 22, 23, 24]]⟩ (.node 9 ⟨[⟨0, false, [], false, none⟩, ⟨1, false, [], false, none⟩, ⟨2, false, [], false, none⟩, ⟨3, false, [], false, none⟩, ⟨4, false, [], false, none⟩, ⟨5, false, [], false, none⟩, ⟨6, false, [], false, none⟩, ⟨7, false, [], false, none⟩, ⟨8, false, [], false, none⟩, ⟨9, false, [], false, none⟩, ⟨10, false, [], false, none⟩, ⟨11, false, [], false, none⟩, ⟨12, false, [], false, none⟩, ⟨13, false, [], false, none⟩, ⟨14, false, [], false, none⟩, ⟨15, false, [], false, none⟩, ⟨16, false, [], false, none⟩, ⟨17, false, [], false, none⟩, ⟨18, false, [], false, none⟩, ⟨19, false, [], false, none⟩, ⟨20, false, [], false, none⟩, ⟨21, false, [], false, none⟩, ⟨22, false, [], false, none⟩], [[], [0], [0, 1], [0, 1, 2], [0, 1, 2, 3], [0, 1, 2, 3, 4], [0, 1, 2, 3, 4, 5], [0, 1, 2, 3, 4, 5, 6], [0, 1, 2, 3, 4, 5, 6, 7], [0, 1, 2, 3, 4, 5, 6], [0, 1, 2, 3, 4, 5, 6], [0, 1, 2, 3, 4, 5, 6, 10], [0, 1, 2, 3, 4, 5, 6], [0, 1, 2, 3, 4, 5, 6, 12], [0, 1, 2, 3, 4, 5, 6, 9], [0, 1, 2, 3, 4, 5, 6, 9, 14], [0, 1, 2, 3, 4, 5, 6, 9, 10, 11, 14, 15], [0, 1, 2, 3, 4, 5, 6, 9, 10, 11, 12, 13, 14, 15, 16], [0, 1, 2, 3, 4, 5, 6, 9, 10, 11, 12, 13, 14, 15, 16, 17], [0, 1, 2, 3, 4, 5, 6, 7, 8, 9, 10, 11, 12, 13, 14, 15, 16, 17, 18], [0, 1, 2, 3, 4, 5, 6, 7, 8, 9, 10, 11, 12, 13, 14, 15, 16, 17, 18, 19], [0, 1, 2, 3, 4, 5, 6, 7, 8, 9, 10, 11, 12, 13, 14, 15, 16, 17, 18, 19, 20], [0, 1, 2, 3, 4, 5, 6, 7, 8, 9, 10, 11, 12, 13, 14, 15, 16, 17, 18, 19, 20, 21]]⟩ .leaf .leaf) (.node 17 ⟨[⟨0, false, [], false, none⟩, ⟨1, false, [], false, none⟩, ⟨2, false, [], false, none⟩, ⟨7, false, [], false, none⟩, ⟨8, false, [], false, none⟩, ⟨9, false, [], false, none⟩, ⟨10, false, [], false, none⟩, ⟨11, false, [], false, none⟩, ⟨12, false, [], false, none⟩, ⟨13, false, [], false, none⟩, ⟨14, false, [], false, none⟩, ⟨15, false, [], false, none⟩, ⟨16, false, [], false, none⟩, ⟨17, false, [], false, none⟩, ⟨18, false, [], false, none⟩, ⟨19, false, [], false, none⟩, ⟨20, false, [], false, none⟩, ⟨21, false, [], false, none⟩, ⟨22, false, [], false, none⟩, ⟨23, false, [], false, none⟩, ⟨24, false, [], false, none⟩, ⟨25, false, [], false, none⟩, ⟨26, false, [], false, none⟩, ⟨27, false, [], false, none⟩, ⟨28, true, [], false, none⟩, ⟨3, false, [28], false, none⟩, ⟨4, false, [28], false, none⟩, ⟨5, false, [28], false, none⟩, ⟨6, false, [28], false, none⟩, ⟨29, false, [28], false, none⟩, ⟨30, false, [28], false, none⟩, ⟨31, false, [28], false, none⟩, ⟨32, false, [], false, none⟩, ⟨33, true, [], false, none⟩], [[], [], [], [], [], [], [5], [], [], [], [9], [7], [7, 11], [7, 8, 11, 12], [7, 8, 9, 10, 11, 12, 13], [7, 8, 9, 10, 11, 12, 13, 14], [], [], [], [16], [16, 19], [16, 17, 19, 20], [16, 17, 18, 19, 20, 21], [16, 17, 18, 19, 20, 21, 22], [0], [0, 24], [0, 1, 24, 25], [0, 1, 2, 7, 8, 9, 10, 11, 12, 13, 14, 15, 16, 17, 18, 19, 20, 21, 22, 23, 24, 25, 26], [0, 1, 2, 7, 8, 9, 10, 11, 12, 13, 14, 15, 16, 17, 18, 19, 20, 21, 22, 23, 24, 25, 26, 27], [3], [3, 29], [3, 4, 29, 30], [0, 1, 2, 3, 4, 5, 6, 7, 8, 9, 10, 11, 12, 13, 14, 15, 16, 17, 18, 19, 20, 21, 22, 23, 24, 25, 26, 27, 28, 29, 30, 31], [0, 1, 2, 3, 4, 5, 6, 7, 8, 9, 10, 11, 12, 13, 14, 15, 16, 17, 18, 19, 20, 21, 22, 23, 24, 25, 26, 27, 28, 29, 30, 31, 32]]⟩ .leaf .leaf)) (.node 54 ⟨[⟨0, false, [], false, none⟩, ⟨1, false, [], false, none⟩, ⟨2, false, [], false, none⟩, ⟨3, false, [], false, none⟩, ⟨4, false, [], false, none⟩, ⟨5, false, [], false, none⟩, ⟨6, false, [], false, none⟩, ⟨7, false, [], false, none⟩, ⟨8, false, [], false, none⟩, ⟨9, false, [], false, none⟩, ⟨10, false, [], false, none⟩, ⟨11, false, [], false, none⟩, ⟨12, false, [], false, none⟩, ⟨13, false, [], false, none⟩, ⟨14, false, [], false, none⟩, ⟨15, false, [], false, none⟩, ⟨16, false, [], false, none⟩, ⟨17, false, [], false, none⟩, ⟨18, false, [], false, none⟩, ⟨19, false, [], false, none⟩, ⟨20, false, [], false, none⟩, ⟨21, true, [], false, none⟩], [[], [], [], [0], [0, 3], [0, 1, 3, 4], [0, 1, 2, 3, 4, 5], [0, 1, 2, 3, 4, 5, 6], [], [], [], [8], [8, 11], [8, 9, 11, 12], [8, 9, 10, 11, 12, 13], [8, 9, 10, 11, 12, 13, 14], [0, 1, 2, 3, 4, 5, 6, 7, 8, 9, 10, 11, 12, 13, 14, 15], [0], [0, 17], [0, 1, 17, 18], [0, 1, 2, 3, 4, 5, 6, 7, 8, 9, 10, 11, 12, 13, 14, 15, 16, 17, 18, 19], [0, 1, 2, 3, 4, 5, 6, 7, 8, 9, 10, 11, 12, 13, 14, 15, 16, 17, 18, 19, 20]]⟩ (.node 37 ⟨[⟨0, false, [], false, none⟩, ⟨1, false, [], false, none⟩, ⟨2, false, [], false, none⟩, ⟨3, false, [], false, none⟩, ⟨4, false, [], false, none⟩, ⟨5, false, [], false, none⟩, ⟨6, false, [], false, none⟩, ⟨7, false, [], false, none⟩, ⟨8, false, [], false, none⟩, ⟨9, false, [], false, none⟩, ⟨10, false, [], false, none⟩, ⟨11, false, [], false, none⟩, ⟨12, false, [], false, none⟩, ⟨13, false, [], false, none⟩, ⟨14, false, [], false, none⟩, ⟨15, false, [], false, none⟩, ⟨16, false, [], false, none⟩, ⟨17, false, [], false, none⟩, ⟨18, false, [], false, none⟩, ⟨19, false, [], false, none⟩, ⟨20, false, [], false, none⟩, ⟨21, false, [], false, none⟩, ⟨22, false, [], false, none⟩, ⟨23, true, [], false, none⟩], [[], [], [], [0], [0, 3], [0, 1, 3, 4], [0, 1, 2, 3, 4, 5], [0, 1, 2, 3, 4, 5, 6], [], [], [], [], [9], [9, 12], [9, 10, 12, 13], [9, 10, 11, 12, 13, 14], [9, 10, 11, 12, 13, 14, 15], [8, 9, 10, 11, 12, 13, 14, 15, 16], [0, 1, 2, 3, 4, 5, 6, 7, 8, 9, 10, 11, 12, 13, 14, 15, 16, 17], [0], [0, 19], [0, 1, 19, 20], [0, 1, 2, 3, 4, 5, 6, 7, 8, 9, 10, 11, 12, 13, 14, 15, 16, 17, 18, 19, 20, 21], [0, 1, 2, 3, 4, 5, 6, 7, 8, 9, 10, 11, 12, 13, 14, 15, 16, 17, 18, 19, 20, 21, 22]]⟩ .leaf .leaf) .leaf)) .leaf .leaf) (.node 71 (.node 2 ⟨[⟨0, false, [], false, none⟩, ⟨1, false, [], false, none⟩, ⟨2, false, [], false, none⟩, ⟨3, false, [], false, none⟩, ⟨4, false, [], false, none⟩, ⟨5, false, [], false, none⟩], [[], [], [], [1, 2], [0, 1], [0, 1, 2, 3, 4]]⟩ .leaf .leaf) .leaf .leaf))) (.node 80 (.node 5 ⟨[⟨0, false, [], false, none⟩, ⟨1, false, [], false, none⟩, ⟨2, false, [], false, none⟩, ⟨3, false, [], false, none⟩, ⟨4, false, [], false, none⟩, ⟨5, false, [], false, none⟩, ⟨6, true, [], false, none⟩, ⟨7, false, [], false, none⟩], [[], [], [0, 1], [], [], [3, 4], [0, 1, 2, 3, 4, 5], [0, 1, 2, 3, 4, 5, 6]]⟩ .leaf .leaf) (.node 77 (.node 3 ⟨[⟨0, false, [], false, none⟩, ⟨1, false, [], false, none⟩, ⟨2, false, [], false, none⟩, ⟨3, false, [], false, none⟩, ⟨4, false, [], false, none⟩, ⟨5, false, [], false, none⟩, ⟨6, false, [], false, none⟩, ⟨7, false, [], false, none⟩, ⟨8, false, [], false, none⟩], [[], [], [0, 1], [0, 1, 2], [], [0, 1, 2, 3, 4], [], [0, 1, 2, 3, 4, 5, 6], [0, 1, 2, 3, 4, 5, 6, 7]]⟩ .leaf .leaf) (.node 73 (.node 16 ⟨[⟨0, false, [], false, none⟩, ⟨1, false, [], false, none⟩, ⟨2, false, [], false, none⟩, ⟨3, false, [], false, none⟩, ⟨4, false, [], false, none⟩, ⟨5, false, [], false, none⟩], [[], [], [1], [1, 2], [0, 1, 2, 3], [0, 1, 2, 3, 4]]⟩ (.node 13 ⟨[⟨0, false, [], false, none⟩, ⟨1, false, [], false, none⟩, ⟨2, false, [], false, none⟩, ⟨3, false, [], false, none⟩, ⟨4, false, [], false, none⟩, ⟨5, false, [], false, none⟩, ⟨6, false, [], false, none⟩, ⟨7, false, [], false, none⟩, ⟨8, false, [], false, none⟩, ⟨9, false, [], false, none⟩, ⟨10, false, [], false, none⟩, ⟨11, false, [], false, none⟩, ⟨12, false, [], false, none⟩, ⟨13, false, [], false, none⟩, ⟨14, false, [], false, none⟩, ⟨15, false, [], false, none⟩, ⟨16, true, [], false, none⟩], [[], [], [], [0, 2], [0, 1, 2, 3], [0, 1, 2, 3, 4], [], [], [], [6, 8], [6, 7, 8, 9], [6, 7, 8, 9, 10], [0, 1, 2, 3, 4, 5, 6, 7, 8, 9, 10, 11], [], [0, 13], [0, 1, 2, 3, 4, 5, 6, 7, 8, 9, 10, 11, 12, 13, 14], [0, 1, 2, 3, 4, 5, 6, 7, 8, 9, 10, 11, 12, 13, 14, 15]]⟩ .leaf .leaf) .leaf) .leaf .leaf) (.node 79 (.node 8 ⟨[⟨0, false, [], false, none⟩, ⟨1, false, [], false, none⟩, ⟨2, false, [], false, none⟩, ⟨3, false, [], false, none⟩, ⟨4, false, [], false, none⟩, ⟨5, false, [], false, none⟩, ⟨6, false, [], false, none⟩, ⟨7, false, [], false, none⟩, ⟨8, false, [], false, none⟩, ⟨9, false, [], false, none⟩, ⟨10, false, [], false, none⟩, ⟨11, true, [], false, none⟩], [[], [], [], [], [], [2, 4], [2, 3, 4, 5], [2, 3, 4, 5, 6], [], [0, 8], [0, 1, 2, 3, 4, 5, 6, 7, 8, 9], [0, 1, 2, 3, 4, 5, 6, 7, 8, 9, 10]]⟩ .leaf .leaf) .leaf .leaf)) (.node 85 (.node 14 ⟨[⟨0, false, [], false, none⟩, ⟨1, false, [], false, none⟩, ⟨2, false, [], false, none⟩, ⟨3, false, [], false, none⟩, ⟨4, false, [], false, none⟩, ⟨5, false, [], false, none⟩, ⟨6, false, [], false, none⟩, ⟨7, true, [], false, none⟩], [[], [], [], [2], [], [0, 4], [0, 1, 2, 3, 4, 5], [0, 1, 2, 3, 4, 5, 6]]⟩ (.node 12 ⟨[⟨0, false, [], false, none⟩, ⟨1, false, [], false, none⟩, ⟨2, false, [], false, none⟩, ⟨3, false, [], false, none⟩, ⟨4, false, [], false, none⟩, ⟨5, false, [], false, none⟩, ⟨6, false, [], false, none⟩, ⟨7, false, [], false, none⟩, ⟨8, false, [], false, none⟩, ⟨9, false, [], false, none⟩, ⟨10, false, [], false, none⟩, ⟨11, false, [], false, none⟩, ⟨12, false, [], false, none⟩, ⟨13, false, [], false, none⟩, ⟨14, false, [], false, none⟩, ⟨15, true, [], false, none⟩, ⟨16, false, [], false, none⟩], [[], [], [], [], [1, 3], [1, 2, 3, 4], [1, 2, 3, 4, 5], [], [], [], [7, 9], [7, 8, 9, 10], [7, 8, 9, 10, 11], [1, 2, 3, 4, 5, 6, 7, 8, 9, 10, 11, 12], [1, 2, 3, 4, 5, 6, 7, 8, 9, 10, 11, 12, 13], [0, 1, 2, 3, 4, 5, 6, 7, 8, 9, 10, 11, 12, 13, 14], [0, 1, 2, 3, 4, 5, 6, 7, 8, 9, 10, 11, 12, 13, 14, 15]]⟩ .leaf .leaf) .leaf) (.node 81 (.node 5 ⟨[⟨0, false, [], false, none⟩, ⟨1, false, [], false, none⟩, ⟨2, false, [], false, none⟩, ⟨3, false, [], false, none⟩, ⟨4, false, [], false, none⟩, ⟨5, false, [], false, none⟩, ⟨6, true, [], false, none⟩, ⟨7, false, [], false, none⟩], [[], [], [0, 1], [], [], [3, 4], [0, 1, 2, 3, 4, 5], [0, 1, 2, 3, 4, 5, 6]]⟩ .leaf .leaf) .leaf .leaf) (.node 88 (.node 7 ⟨[⟨0, false, [], false, none⟩, ⟨1, false, [], false, none⟩, ⟨2, false, [], false, none⟩, ⟨3, false, [], false, none⟩, ⟨4, false, [], false, none⟩, ⟨5, false, [], false, none⟩, ⟨6, false, [], false, none⟩, ⟨7, false, [], false, none⟩, ⟨8, false, [], false, none⟩, ⟨9, false, [], false, none⟩, ⟨10, false, [], false, none⟩, ⟨11, false, [], false, none⟩, ⟨12, true, [], false, none⟩], [[], [], [], [], [], [2, 4], [2, 3, 4, 5], [2, 3, 4, 5, 6], [2, 3, 4, 5, 6, 7], [], [0, 9], [0, 1, 2, 3, 4, 5, 6, 7, 8, 9, 10], [0, 1, 2, 3, 4, 5, 6, 7, 8, 9, 10, 11]]⟩ .leaf .leaf) .leaf .leaf)))))

noncomputable def aePlan (f b : Nat) : Option Plan := match tget aePlanT f with
  | some t => tget t b
  | none => none

noncomputable def aeC : Ctx := ⟨aeT, aeRets, aeIso, aePol, aeXPol, aePlan⟩

noncomputable def aeF : Tab Func :=
  (.node 55 Try.f55 (.node 27 Try.f27 (.node 13 Try.f13 (.node 6 Try.f6 (.node 3 Try.f3 (.node 1 Try.f1 (.node 0 Try.f0 .leaf .leaf) (.node 2 Try.f2 .leaf .leaf)) (.node 5 Try.f5 (.node 4 Try.f4 .leaf .leaf) .leaf)) (.node 10 Try.f10 (.node 8 Try.f8 (.node 7 Try.f7 .leaf .leaf) (.node 9 Try.f9 .leaf .leaf)) (.node 12 Try.f12 (.node 11 Try.f11 .leaf .leaf) .leaf))) (.node 20 Try.f20 (.node 17 Try.f17 (.node 15 Try.f15 (.node 14 Try.f14 .leaf .leaf) (.node 16 Try.f16 .leaf .leaf)) (.node 19 Try.f19 (.node 18 Try.f18 .leaf .leaf) .leaf)) (.node 24 Try.f24 (.node 22 Try.f22 (.node 21 Try.f21 .leaf .leaf) (.node 23 Try.f23 .leaf .leaf)) (.node 26 Try.f26 (.node 25 Try.f25 .leaf .leaf) .leaf)))) (.node 41 Try.f41 (.node 34 Try.f34 (.node 31 Try.f31 (.node 29 Try.f29 (.node 28 Try.f28 .leaf .leaf) (.node 30 Try.f30 .leaf .leaf)) (.node 33 Try.f33 (.node 32 Try.f32 .leaf .leaf) .leaf)) (.node 38 Try.f38 (.node 36 Try.f36 (.node 35 Try.f35 .leaf .leaf) (.node 37 Try.f37 .leaf .leaf)) (.node 40 Try.f40 (.node 39 Try.f39 .leaf .leaf) .leaf))) (.node 48 Try.f48 (.node 45 Try.f45 (.node 43 Try.f43 (.node 42 Try.f42 .leaf .leaf) (.node 44 Try.f44 .leaf .leaf)) (.node 47 Try.f47 (.node 46 Try.f46 .leaf .leaf) .leaf)) (.node 52 Try.f52 (.node 50 Try.f50 (.node 49 Try.f49 .leaf .leaf) (.node 51 Try.f51 .leaf .leaf)) (.node 54 Try.f54 (.node 53 Try.f53 .leaf .leaf) .leaf))))) (.node 83 Try.f83 (.node 69 Try.f69 (.node 62 Try.f62 (.node 59 Try.f59 (.node 57 Try.f57 (.node 56 Try.f56 .leaf .leaf) (.node 58 Try.f58 .leaf .leaf)) (.node 61 Try.f61 (.node 60 Try.f60 .leaf .leaf) .leaf)) (.node 66 Try.f66 (.node 64 Try.f64 (.node 63 Try.f63 .leaf .leaf) (.node 65 Try.f65 .leaf .leaf)) (.node 68 Try.f68 (.node 67 Try.f67 .leaf .leaf) .leaf))) (.node 76 Try.f76 (.node 73 Try.f73 (.node 71 Try.f71 (.node 70 Try.f70 .leaf .leaf) (.node 72 Try.f72 .leaf .leaf)) (.node 75 Try.f75 (.node 74 Try.f74 .leaf .leaf) .leaf)) (.node 80 Try.f80 (.node 78 Try.f78 (.node 77 Try.f77 .leaf .leaf) (.node 79 Try.f79 .leaf .leaf)) (.node 82 Try.f82 (.node 81 Try.f81 .leaf .leaf) .leaf)))) (.node 97 Try.f97 (.node 90 Try.f90 (.node 87 Try.f87 (.node 85 Try.f85 (.node 84 Try.f84 .leaf .leaf) (.node 86 Try.f86 .leaf .leaf)) (.node 89 Try.f89 (.node 88 Try.f88 .leaf .leaf) .leaf)) (.node 94 Try.f94 (.node 92 Try.f92 (.node 91 Try.f91 .leaf .leaf) (.node 93 Try.f93 .leaf .leaf)) (.node 96 Try.f96 (.node 95 Try.f95 .leaf .leaf) .leaf))) (.node 104 Try.f104 (.node 101 Try.f101 (.node 99 Try.f99 (.node 98 Try.f98 .leaf .leaf) (.node 100 Try.f100 .leaf .leaf)) (.node 103 Try.f103 (.node 102 Try.f102 .leaf .leaf) .leaf)) (.node 107 Try.f107 (.node 106 Try.f106 (.node 105 Try.f105 .leaf .leaf) .leaf) (.node 109 Try.f109 (.node 108 Try.f108 .leaf .leaf) .leaf))))))

end Go.Proofs.Ytjfopbpkophoeaa

/- The abstract machine of the seat is sound: written by a program of this session (wip/tools/aectx.py). -/
namespace Go.Proofs.Ytjfopbpkophoeaa
open Go Go.AE
set_option maxRecDepth 100000
theorem aeT_ok : tableOK Try.prog aeT = true := by decide +kernel
theorem aeE_ok : eqTab Try.prog aeT = true := by decide +kernel
theorem aeCode_ok : aeF.all (fun f fn => match fn.body with | some c => okCode aeC f fn.ntmps c | none => true) = true := by decide +kernel
theorem aeName_ok : aeF.all (fun _ fn => !(fn.name == "runtime.NumGoroutine")) = true := by decide +kernel
theorem aeAt_ok : aeF.All (fun f fn => Try.prog.funcs[f]? = some fn) :=
  ⟨rfl, ⟨rfl, ⟨rfl, ⟨rfl, ⟨rfl, ⟨rfl, ⟨rfl, trivial, trivial⟩, ⟨rfl, trivial, trivial⟩⟩, ⟨rfl, ⟨rfl, trivial, trivial⟩, trivial⟩⟩, ⟨rfl, ⟨rfl, ⟨rfl, trivial, trivial⟩, ⟨rfl, trivial, trivial⟩⟩, ⟨rfl, ⟨rfl, trivial, trivial⟩, trivial⟩⟩⟩, ⟨rfl, ⟨rfl, ⟨rfl, ⟨rfl, trivial, trivial⟩, ⟨rfl, trivial, trivial⟩⟩, ⟨rfl, ⟨rfl, trivial, trivial⟩, trivial⟩⟩, ⟨rfl, ⟨rfl, ⟨rfl, trivial, trivial⟩, ⟨rfl, trivial, trivial⟩⟩, ⟨rfl, ⟨rfl, trivial, trivial⟩, trivial⟩⟩⟩⟩, ⟨rfl, ⟨rfl, ⟨rfl, ⟨rfl, ⟨rfl, trivial, trivial⟩, ⟨rfl, trivial, trivial⟩⟩, ⟨rfl, ⟨rfl, trivial, trivial⟩, trivial⟩⟩, ⟨rfl, ⟨rfl, ⟨rfl, trivial, trivial⟩, ⟨rfl, trivial, trivial⟩⟩, ⟨rfl, ⟨rfl, trivial, trivial⟩, trivial⟩⟩⟩, ⟨rfl, ⟨rfl, ⟨rfl, ⟨rfl, trivial, trivial⟩, ⟨rfl, trivial, trivial⟩⟩, ⟨rfl, ⟨rfl, trivial, trivial⟩, trivial⟩⟩, ⟨rfl, ⟨rfl, ⟨rfl, trivial, trivial⟩, ⟨rfl, trivial, trivial⟩⟩, ⟨rfl, ⟨rfl, trivial, trivial⟩, trivial⟩⟩⟩⟩⟩, ⟨rfl, ⟨rfl, ⟨rfl, ⟨rfl, ⟨rfl, ⟨rfl, trivial, trivial⟩, ⟨rfl, trivial, trivial⟩⟩, ⟨rfl, ⟨rfl, trivial, trivial⟩, trivial⟩⟩, ⟨rfl, ⟨rfl, ⟨rfl, trivial, trivial⟩, ⟨rfl, trivial, trivial⟩⟩, ⟨rfl, ⟨rfl, trivial, trivial⟩, trivial⟩⟩⟩, ⟨rfl, ⟨rfl, ⟨rfl, ⟨rfl, trivial, trivial⟩, ⟨rfl, trivial, trivial⟩⟩, ⟨rfl, ⟨rfl, trivial, trivial⟩, trivial⟩⟩, ⟨rfl, ⟨rfl, ⟨rfl, trivial, trivial⟩, ⟨rfl, trivial, trivial⟩⟩, ⟨rfl, ⟨rfl, trivial, trivial⟩, trivial⟩⟩⟩⟩, ⟨rfl, ⟨rfl, ⟨rfl, ⟨rfl, ⟨rfl, trivial, trivial⟩, ⟨rfl, trivial, trivial⟩⟩, ⟨rfl, ⟨rfl, trivial, trivial⟩, trivial⟩⟩, ⟨rfl, ⟨rfl, ⟨rfl, trivial, trivial⟩, ⟨rfl, trivial, trivial⟩⟩, ⟨rfl, ⟨rfl, trivial, trivial⟩, trivial⟩⟩⟩, ⟨rfl, ⟨rfl, ⟨rfl, ⟨rfl, trivial, trivial⟩, ⟨rfl, trivial, trivial⟩⟩, ⟨rfl, ⟨rfl, trivial, trivial⟩, trivial⟩⟩, ⟨rfl, ⟨rfl, ⟨rfl, trivial, trivial⟩, trivial⟩, ⟨rfl, ⟨rfl, trivial, trivial⟩, trivial⟩⟩⟩⟩⟩⟩
theorem ae_mixed : Try.prog.follows .mixedOrders = true := Checked.mixed Try.checked
theorem ae_T : TOK Try.prog aeC.T := TOK.of_check aeT_ok
theorem ae_Q : EqOK Try.prog aeC.T := EqOK.of_check ae_T aeE_ok
theorem ae_fn {f : FuncId} {fn : Func} (h : tget aeF f = some fn) : FnOK Try.prog aeC f fn := by
  refine ⟨Tab.get_All aeAt_ok f fn h, ?_, fun c hc => ?_⟩
  · simpa using Tab.get_all aeName_ok f fn h
  · have := Tab.get_all aeCode_ok f fn h
    rw [hc] at this; exact this
theorem ae_direct {E : Ev} (hE : EvOK Try.prog E) (k : Nat) {f : FuncId} {fn : Func} {ds : List DV} {d : DV} (h : tget aeF f = some fn) (e : pureE aeC E k f fn ds = some d) : PureOK Try.prog f ds d := pureE_ok ae_T ae_Q ae_mixed hE (ae_fn h) e
theorem ae_pure {E : Ev} (hE : EvOK Try.prog E) {f : FuncId} {fn : Func} {ids : List Nat} {ds : List DV} {d : DV} (ok : OkSeg fn none ids) (h : tget aeF f = some fn) (hb : (fn.body.isSome && Nat.ble ds.length fn.ntmps) = true)
    (e : startF aeC E f 0 fn none ⟨envOf 0 (ds.map .d), [], []⟩ (doneE aeC fn 0 fun v h => freezeV h 4 v) = some d) (hfr : freshF f = false := by rfl) : PureOK Try.prog f ds d :=
  pure_of_go ae_T ae_Q ae_mixed hE (ae_fn h) ok hb e hfr
end Go.Proofs.Ytjfopbpkophoeaa

/- Chapter 06: calls whose answers are told by tables; matrices as data. -/
namespace Go.Proofs.Ytjfopbpkophoeaa
open Go Go.AE

/-- Calls are answered by a table of shapes, where 'ok' says so. -/
def evT (ok : Nat → List DV → Bool) (shape : Nat → List DV → DV) : Ev := { Ev.nil with pure := fun f ds => .node (ok f ds) (.leaf (shape f ds)) .fail }
/-- All others are walked. -/
noncomputable def evW (fs : List Nat) (ok : Nat → List DV → Bool) (shape : Nat → List DV → DV) : Ev := evO aeC aeF (evT ok shape) fs [] 30 40
open Classical in
noncomputable def okS (shape : Nat → List DV → DV) : Nat → List DV → Bool := fun f ds => isP (PureOK Try.prog f ds (shape f ds))

theorem evT_ok (shape : Nat → List DV → DV) : EvOK Try.prog (evT (okS shape) shape) := by
  refine ⟨fun f ds d e => ?_, (by intro f xs h v h' e; simp [evT, Ev.nil, Tr.val] at e), (by intro f xs h v h' e; simp [evT, Ev.nil, Tr.val] at e), (by intro l xs h v h' e; simp [evT, Ev.nil, Tr.val] at e)⟩
  simp only [evT, Tr.val] at e
  obtain ⟨h1, h2⟩ := cond_none e
  cases h2
  exact isP_iff.1 h1

theorem evW_ok (fs : List Nat) (shape : Nat → List DV → DV) : EvOK Try.prog (evW fs (okS shape) shape) :=
  evO_ok ae_T ae_Q ae_mixed (fun _ _ h => ae_fn h) (evT_ok shape) fs [] 30 40

theorem okS_is {shape : Nat → List DV → DV} {f : Nat} {ds : List DV} (h : PureOK Try.prog f ds (shape f ds)) : okS shape f ds = true := isP_iff.2 h
theorem cond_is' {R : Type} {b : Bool} {x y : R} (h : b = true) : (bif b then x else y) = x := by rw [h]; rfl

/-- A call by its walk. -/
theorem walk {fs : List Nat} {shape : Nat → List DV → DV} {f : FuncId} {fn : Func} {ds : List DV} {d : DV} (h : tget aeF f = some fn) (e : pureE aeC (evW fs (okS shape) shape) 30 f fn ds = some d) : PureOK Try.prog f ds d :=
  ae_direct (evW_ok fs shape) 30 h e

def noS : Nat → List DV → DV := fun _ _ => .nilp

/-- Numbers as a list that is handed on. -/
abbrev ls (l : List Int) (c nl : Bool) : DV := .sl (ints l) l.length 1 c nl
end Go.Proofs.Ytjfopbpkophoeaa

/- Chapter 06: matrices as data; what makes them of any rows. Written by wip/tools/gen6a.py. -/
namespace Go.Proofs.Ytjfopbpkophoeaa
open Go Go.AE
set_option maxRecDepth 100000
noncomputable def evA : Ev := evW [] (okS noS) noS
theorem walkA {f : FuncId} {fn : Func} {ds : List DV} {d : DV} (h : tget aeF f = some fn) (e : pureE aeC evA 30 f fn ds = some d) : PureOK Try.prog f ds d := walk h e
theorem awake_ok : PureOK Try.prog 21 [] (bD true) := walkA (by kernel_rfl : tget aeF 21 = some Try.f21) (by kernel_rfl)
def rowD (r : List Int) : DV := .sl (ints r) r.length 1 false false
/-- A matrix as data. -/
def matD (M : List (List Int)) : DV := .sl (M.map rowD) M.length 1 false false
/-- Rows that are handed in. -/
def rowsD (X : List (List Int × Bool)) : List DV := X.map fun r => .sl (ints r.1) r.1.length 1 false r.2
theorem nth_rows {X : List (List Int × Bool)} {i : Nat} (h : i < X.length) : nth (rowsD X) i = some (.sl (ints (X.getD i ([], false)).1) (X.getD i ([], false)).1.length 1 false (X.getD i ([], false)).2) := by
  unfold rowsD; rw [nth_map, nth_eq]; simp [h]
/-! ### tame -/
theorem flat_rep : ∀ k : Nat, (List.replicate k [iD 0]).flatten = List.replicate k (iD 0)
  | 0 => rfl
  | k + 1 => by rw [List.replicate_succ, List.flatten_cons, flat_rep k]; rfl
end Go.Proofs.Ytjfopbpkophoeaa

/- Chapter 06: the first ones of a list, tables that are the same, what is opened. Written by wip/tools/gen6b.py. -/
namespace Go.Proofs.Ytjfopbpkophoeaa
open Go Go.AE
set_option maxRecDepth 100000

theorem u38 (X : List DV) (n : Nat) (c nl : Bool) (k : Int) : pureE aeC evA 30 38 Try.f38 [.sl X n 1 c nl, iD k] =
  bif nl || true then
    bif decide (0 ≤ if k < (n : Int) then k else (n : Int)) && decide ((if k < (n : Int) then k else (n : Int)) ≤ (n : Int)) then
      bif nl || true then
        bif Nat.ble (Int.toNat (if k < (n : Int) then k else (n : Int)) - 0) 1048576 then
          some (DV.sl (sub X 0 ((Int.toNat (if k < (n : Int) then k else (n : Int)) - 0) * 1)) (lenOf 1 (List.length (sub X 0 ((Int.toNat (if k < (n : Int) then k else (n : Int)) - 0) * 1)))) 1 false (true && Nat.beq (List.length (sub X 0 ((Int.toNat (if k < (n : Int) then k else (n : Int)) - 0) * 1))) 0))
        else
          none
      else
        none
    else
      none
  else
    none := by kernel_rfl
theorem sub_take (l : List Int) (j : Nat) : sub (ints l) 0 (j * 1) = ints (l.take j) := by
  unfold sub ints
  rw [Nat.mul_one, List.drop_zero, List.map_take]
theorem c38 (l : List Int) (c nl : Bool) (k : Nat) (hk : k ≤ 1000) : PureOK Try.prog 38 [ls l c nl, iD (k : Int)] (ls (l.take k) false (l.take k).isEmpty) := by
  refine walkA (by kernel_rfl : tget aeF 38 = some Try.f38) ((u38 (ints l) l.length c nl k).trans ?_)
  have e : (if (k : Int) < (l.length : Int) then (k : Int) else (l.length : Int)) = ((min k l.length : Nat) : Int) := by split <;> omega
  have h1 : (Nat.ble (min k l.length) 1048576) = true := Nat.ble_eq_true_of_le (by omega)
  rw [e]
  simp only [Int.toNat_natCast, Nat.sub_zero, Bool.or_true, cond_true, sub_take, h1, Bool.true_and, len_ints, Go.AE.lenOf_1]
  rw [decide_eq_true (p := (0 : Int) ≤ ((min k l.length : Nat) : Int)) (by omega), decide_eq_true (p := ((min k l.length : Nat) : Int) ≤ (l.length : Int)) (by omega)]
  simp only [Bool.and_self, cond_true]
  have e2 : l.take (min k l.length) = l.take k := by
    rcases Nat.le_total k l.length with h | h
    · rw [Nat.min_eq_left h]
    · rw [Nat.min_eq_right h, List.take_of_length_le (Nat.le_refl _), List.take_of_length_le h]
  rw [e2]
  have e3 : Nat.beq (l.take k).length 0 = (l.take k).isEmpty := by cases l.take k <;> rfl
  rw [e3]
/-! ### Tables that are the same -/
def s41 (A B : DV) (i : Int) : St := ⟨[(0, .d A), (1, .d B), (5, .d (iD i))], [], []⟩
def s412 (A B : DV) (i j : Int) : St := ⟨[(0, .d A), (1, .d B), (5, .d (iD i)), (6, .d (iD j))], [], []⟩
theorem t41_h (A B : List DV) (n m : Nat) (c z c2 z2 : Bool) : startS aeC Ev.nil 41 0 Try.f41 none ⟨envOf 0 [.d (.sl A n 1 c z), .d (.sl B m 1 c2 z2)], [], []⟩ (heldD aeC 41 0) = bif !decide ((n : Int) = (m : Int)) then none else some (0, s41 (.sl A n 1 c z) (.sl B m 1 c2 z2) 0) := by kernel_rfl
theorem t41_0 (A B : List DV) (n m i : Nat) (c z c2 z2 : Bool) : startS aeC Ev.nil 41 0 Try.f41 (some 0) (s41 (.sl A n 1 c z) (.sl B m 1 c2 z2) i) (heldD aeC 41 0) =
  bif decide ((i : Int) < (n : Int)) then (bif inRange (i : Int) n then (getS (nth A (Int.toNat (i : Int) * 1)) fun cs0 n0 sz0 c0 nl0 => bif nl0 || Nat.beq sz0 1 then (bif inRange (i : Int) m then (getS (nth B (Int.toNat (i : Int) * 1)) fun cs1 n1 sz1 c1 nl1 => bif nl1 || Nat.beq sz1 1 then
    (bif !decide ((n0 : Int) = (n1 : Int)) then none else some (2, s412 (.sl A n 1 c z) (.sl B m 1 c2 z2) i 0)) else none) else none) else none) else none) else none := by kernel_rfl
theorem t41_0x (A B : List DV) (n m i : Nat) (c z c2 z2 : Bool) : startS aeC Ev.nil 41 0 Try.f41 (some 0) (s41 (.sl A n 1 c z) (.sl B m 1 c2 z2) i) (roundD aeC 41 0 0) =
  bif decide ((i : Int) < (n : Int)) then (bif inRange (i : Int) n then (getS (nth A (Int.toNat (i : Int) * 1)) fun cs0 n0 sz0 c0 nl0 => bif nl0 || Nat.beq sz0 1 then (bif inRange (i : Int) m then (getS (nth B (Int.toNat (i : Int) * 1)) fun cs1 n1 sz1 c1 nl1 => bif nl1 || Nat.beq sz1 1 then
    (bif !decide ((n0 : Int) = (n1 : Int)) then some (Ex.ret, (⟨[(4, .d (bD false))], [], []⟩ : St)) else none) else none) else none) else none) else none) else some (Ex.exit 0, ⟨[], [], []⟩) := by kernel_rfl
theorem t41_2 (A B : List DV) (n m i j : Nat) (c z c2 z2 : Bool) : startS aeC Ev.nil 41 0 Try.f41 (some 2) (s412 (.sl A n 1 c z) (.sl B m 1 c2 z2) i j) (roundD aeC 41 0 2) =
  bif inRange (i : Int) n then (getS (nth A (Int.toNat (i : Int) * 1)) fun cs0 n0 sz0 c0 nl0 => bif nl0 || Nat.beq sz0 1 then (bif decide ((j : Int) < (n0 : Int)) then
    (bif inRange (i : Int) n then (getS (nth A (Int.toNat (i : Int) * 1)) fun cs1 n1 sz1 c1 nl1 => bif nl1 || Nat.beq sz1 1 then (bif inRange (j : Int) n1 then (getI (nth cs1 (Int.toNat (j : Int) * 1)) fun x2 =>
      bif inRange (i : Int) m then (getS (nth B (Int.toNat (i : Int) * 1)) fun cs3 n3 sz3 c3 nl3 => bif nl3 || Nat.beq sz3 1 then (bif inRange (j : Int) n3 then (getI (nth cs3 (Int.toNat (j : Int) * 1)) fun x4 =>
        bif !decide (x2 = x4) then some (Ex.ret, (⟨[(4, .d (bD false))], [], []⟩ : St)) else some (Ex.norm, s412 (.sl A n 1 c z) (.sl B m 1 c2 z2) i (IntKind.wrap IntKind.i64 ((j : Int) + 1)))) else none) else none) else none) else none) else none) else none)
    else some (Ex.exit 2, s41 (.sl A n 1 c z) (.sl B m 1 c2 z2) i)) else none) else none := by kernel_rfl
theorem t41_x (A B : DV) (i : Nat) : nextS aeC Ev.nil 41 0 Try.f41 (some 0) 2 (.exit 2) (s41 A B i) (roundD aeC 41 0 0) = some (Ex.norm, s41 A B (IntKind.wrap IntKind.i64 ((i : Int) + 1))) := by kernel_rfl
theorem t41_e : nextS aeC Ev.nil 41 0 Try.f41 none 0 (.exit 0) ⟨[], [], []⟩ (doneE aeC Try.f41 0 fun v h => freezeV h 4 v) = some (bD true) := by kernel_rfl
theorem k41 : OkSeg Try.f41 none [0] := ⟨by kernel_rfl, by kernel_rfl, by decide⟩
theorem k41_0 : OkSeg Try.f41 (some 0) [2] := ⟨by kernel_rfl, by kernel_rfl, by decide⟩
theorem k41_2 : OkSeg Try.f41 (some 2) [] := ⟨by kernel_rfl, by kernel_rfl, by decide⟩
theorem nth_mat {M : List (List Int)} {i : Nat} (h : i < M.length) : nth (M.map rowD) i = some (rowD (M.getD i [])) := by
  rw [nth_map, nth_eq]; simp [h]
section
variable {M : List (List Int)} {c z c2 z2 : Bool}
theorem loop412 {i : Nat} (hi : i < M.length) (hm : M.length ≤ 100) (hr : (M.getD i []).length ≤ 100) : ∀ (t j : Nat), j + t = (M.getD i []).length →
    LoopAt aeC Ev.nil 41 0 Try.f41 2 (s412 (.sl (M.map rowD) M.length 1 c z) (.sl (M.map rowD) M.length 1 c2 z2) i j) (.exit 2) (s41 (.sl (M.map rowD) M.length 1 c z) (.sl (M.map rowD) M.length 1 c2 z2) i)
  | t, j, hj => by
    have e1 : Int.toNat (i : Int) * 1 = i := by simp
    have e2 : Int.toNat (j : Int) * 1 = j := by simp
    have ha := t41_2 (M.map rowD) (M.map rowD) M.length M.length i j c z c2 z2
    rw [e1, nth_mat hi, e2] at ha
    unfold rowD at ha
    simp only [getS_some, Nat.beq_refl, Bool.or_true, cond_true] at ha
    rw [show M.map (fun r => DV.sl (ints r) r.length 1 false false) = M.map rowD from rfl] at ha
    cases t with
    | zero => exact .out k41_2 (by simp) (ha.trans ((inR_pos (by omega) (by omega)).trans (cnd_neg (by omega))))
    | succ t =>
      have hw : IntKind.wrap .i64 ((j : Int) + 1) = ((j + 1 : Nat) : Int) := by rw [wrap64_o (by omega) (by omega)]; rfl
      rw [nth_ints_o (l := M.getD i []) (i := j) (by omega), getI_some, getI_some, hw, decide_eq_true (p := (M.getD i []).getD j 0 = (M.getD i []).getD j 0) rfl] at ha
      refine .next k41_2 (ha.trans ?_) (loop412 hi hm hr t (j + 1) (by omega))
      exact (inR_pos (by omega) (by omega)).trans ((cnd_pos (by omega)).trans ((inR_pos (by omega) (by omega)).trans ((inR_pos (by omega) (by omega)).trans ((inR_pos (by omega) (by omega)).trans ((inR_pos (by omega) (by omega)).trans rfl)))))
theorem loop410 (hm : M.length ≤ 100) (hr : ∀ r ∈ M, r.length ≤ 100) : ∀ (t i : Nat), i + t = M.length →
    LoopAt aeC Ev.nil 41 0 Try.f41 0 (s41 (.sl (M.map rowD) M.length 1 c z) (.sl (M.map rowD) M.length 1 c2 z2) i) (.exit 0) ⟨[], [], []⟩
  | 0, i, hi => .out k41_0 (by simp) ((t41_0x ..).trans (cnd_neg (by omega)))
  | t + 1, i, hi => by
    have hlt : i < M.length := by omega
    have e1 : Int.toNat (i : Int) * 1 = i := by simp
    have ha := t41_0 (M.map rowD) (M.map rowD) M.length M.length i c z c2 z2
    rw [e1, nth_mat hlt] at ha
    unfold rowD at ha
    simp only [getS_some, Nat.beq_refl, Bool.or_true, cond_true] at ha
    rw [show M.map (fun r => DV.sl (ints r) r.length 1 false false) = M.map rowD from rfl] at ha
    have hw : IntKind.wrap .i64 ((i : Int) + 1) = ((i + 1 : Nat) : Int) := by rw [wrap64_o (by omega) (by omega)]; rfl
    have hx := t41_x (.sl (M.map rowD) M.length 1 c z) (.sl (M.map rowD) M.length 1 c2 z2) i
    rw [hw] at hx
    have hl : (M.getD i []).length ≤ 100 := hr _ (by rw [List.getD_eq_getElem?_getD, List.getElem?_eq_getElem hlt]; exact List.getElem_mem _)
    refine .nextF k41_0 ((startF_seg k41_0 (ha.trans ?_) (loop412 hlt hm hl (M.getD i []).length 0 (by omega))).trans (nextF_done k41_0 roundD_plain hx)) (loop410 hm hr t (i + 1) (by omega))
    exact (cnd_pos (by omega)).trans ((inR_pos (by omega) (by omega)).trans ((inR_pos (by omega) (by omega)).trans rfl))
theorem c41 (hm : M.length ≤ 100) (hr : ∀ r ∈ M, r.length ≤ 100) : PureOK Try.prog 41 [.sl (M.map rowD) M.length 1 c z, .sl (M.map rowD) M.length 1 c2 z2] (bD true) :=
  ae_pure EvOK.nil (fn := Try.f41) k41 (by kernel_rfl) (by kernel_rfl) ((startF_seg k41 ((t41_h ..).trans (by rw [decide_eq_true (p := (M.length : Int) = (M.length : Int)) rfl]; rfl)) (loop410 hm hr M.length 0 (by omega))).trans (nextF_done k41 done_plain t41_e))
end
/-! ### What is opened -/
end Go.Proofs.Ytjfopbpkophoeaa

/- Chapter 06: tables of any rows: rows 47, R.Table 49, R.Check 51. -/
namespace Go.Proofs.Ytjfopbpkophoeaa
open Go Go.AE
set_option maxRecDepth 100000
/-- A row of so many numbers from 0 to m. -/
def inM (m : Int) (r : List Int) : Bool := r.all fun x => decide (0 ≤ x) && decide (x ≤ m)
def rowB (k m : Int) (r : List Int) : Bool := decide ((r.length : Int) = k) && inM m r
def tabB (X : List (List Int × Bool)) (k m : Int) : Bool := X.all (fun r => rowB k m r.1) && (decide (1 ≤ (X.length : Int)) && (decide ((X.length : Int) ≤ 5) && (decide (1 ≤ k) && decide (k ≤ 5))))
/-- Rows of bounded length, not too many. -/
def smallX (X : List (List Int × Bool)) : Prop := X.length ≤ 100 ∧ ∀ r ∈ X, r.1.length ≤ 100
def s49 (A : List DV) (n : Nat) (c z : Bool) (k m i : Int) : St := ⟨[(0, .d (DV.sl A n 1 c z)), (1, .d (iD k)), (2, .d (iD m)), (7, .d (iD i))], [], []⟩
def s492 (A : List DV) (n : Nat) (c z : Bool) (k m i j : Int) : St := ⟨[(0, .d (DV.sl A n 1 c z)), (1, .d (iD k)), (2, .d (iD m)), (7, .d (iD i)), (8, .d (iD j))], [], []⟩
def no49 : St := ⟨[(6, .d (bD false))], [], []⟩
theorem t49_h (A : List DV) (n : Nat) (c z : Bool) (k m : Int) : startS aeC Ev.nil 49 0 Try.f49 none ⟨envOf 0 [.d (.sl A n 1 c z), .d (iD k), .d (iD m)], [], []⟩ (heldD aeC 49 0) = some (0, s49 A n c z k m 0) := by kernel_rfl
theorem t49_0 (A : List DV) (n i : Nat) (c z : Bool) (k m : Int) : startS aeC Ev.nil 49 0 Try.f49 (some 0) (s49 A n c z k m i) (heldD aeC 49 0) =
  bif decide ((i : Int) < (n : Int)) then bif inRange (i : Int) n then (getS (nth A (Int.toNat (i : Int) * 1)) fun cs0 n0 sz0 c0 nl0 => bif nl0 || Nat.beq sz0 1 then (bif !decide ((n0 : Int) = k) then none else some (2, s492 A n c z k m i 0)) else none) else none else none := by kernel_rfl
theorem t49_0x (A : List DV) (n i : Nat) (c z : Bool) (k m : Int) : startS aeC Ev.nil 49 0 Try.f49 (some 0) (s49 A n c z k m i) (roundD aeC 49 0 0) =
  bif decide ((i : Int) < (n : Int)) then bif inRange (i : Int) n then (getS (nth A (Int.toNat (i : Int) * 1)) fun cs0 n0 sz0 c0 nl0 => bif nl0 || Nat.beq sz0 1 then (bif !decide ((n0 : Int) = k) then some (Ex.ret, no49) else none) else none) else none
  else some (Ex.exit 0, (⟨[(0, .d (DV.sl A n 1 c z)), (1, .d (iD k))], [], []⟩ : St)) := by kernel_rfl
theorem t49_2 (A : List DV) (n i j : Nat) (c z : Bool) (k m : Int) : startS aeC Ev.nil 49 0 Try.f49 (some 2) (s492 A n c z k m i j) (roundD aeC 49 0 2) =
  bif decide ((j : Int) < k) then
    bif inRange (i : Int) n then
      getS (nth A (Int.toNat (i : Int) * 1)) fun cs0 n0 sz0 c0 nl0 =>
      bif nl0 || Nat.beq sz0 1 then
        bif inRange (j : Int) n0 then
          getI (nth cs0 (Int.toNat (j : Int) * 1)) fun x1 =>
          bif decide (x1 < 0) then some (Ex.ret, no49)
          else
            bif inRange (i : Int) n then
              getS (nth A (Int.toNat (i : Int) * 1)) fun cs2 n2 sz2 c2 nl2 =>
              bif nl2 || Nat.beq sz2 1 then
                bif inRange (j : Int) n2 then
                  getI (nth cs2 (Int.toNat (j : Int) * 1)) fun x3 =>
                  bif decide (m < x3) then some (Ex.ret, no49)
                  else some (Ex.norm, s492 A n c z k m i (IntKind.wrap IntKind.i64 ((j : Int) + 1)))
                else none
              else none
            else none
        else none
      else none
    else none
  else
    some (Ex.exit 2, s49 A n c z k m i) := by kernel_rfl
theorem t49_x (A : List DV) (n i : Nat) (c z : Bool) (k m : Int) : nextS aeC Ev.nil 49 0 Try.f49 (some 0) 2 (.exit 2) (s49 A n c z k m i) (roundD aeC 49 0 0) = some (Ex.norm, s49 A n c z k m (IntKind.wrap IntKind.i64 ((i : Int) + 1))) := by kernel_rfl
theorem t49_xr : nextS aeC Ev.nil 49 0 Try.f49 (some 0) 2 .ret no49 (roundD aeC 49 0 0) = some (Ex.ret, no49) := by kernel_rfl
theorem t49_e (A : List DV) (n : Nat) (c z : Bool) (k : Int) : nextS aeC Ev.nil 49 0 Try.f49 none 0 (.exit 0) ⟨[(0, .d (DV.sl A n 1 c z)), (1, .d (iD k))], [], []⟩ (doneE aeC Try.f49 0 fun v h => freezeV h 4 v) =
  bif decide (1 ≤ (n : Int)) then bif decide ((n : Int) ≤ 5) then bif decide (1 ≤ k) then some (bD (decide (k ≤ 5))) else some (bD false) else some (bD false) else some (bD false) := by kernel_rfl
theorem t49_g : nextS aeC Ev.nil 49 0 Try.f49 none 0 .ret no49 (doneE aeC Try.f49 0 fun v h => freezeV h 4 v) = some (bD false) := by kernel_rfl
theorem k49 : OkSeg Try.f49 none [0] := ⟨by kernel_rfl, by kernel_rfl, by decide⟩
theorem k49_0 : OkSeg Try.f49 (some 0) [2] := ⟨by kernel_rfl, by kernel_rfl, by decide⟩
theorem k49_2 : OkSeg Try.f49 (some 2) [] := ⟨by kernel_rfl, by kernel_rfl, by decide⟩
section
variable {X : List (List Int × Bool)} {c z : Bool} {k m : Int}
theorem t49_2r {i j : Nat} {r : List Int} {w : Bool} (hX : X.length ≤ 100) (hi : i < X.length) (hr : X.getD i ([], false) = (r, w)) (hl : r.length ≤ 100) (hk : (r.length : Int) = k) (hj : j < r.length) :
    startS aeC Ev.nil 49 0 Try.f49 (some 2) (s492 (rowsD X) X.length c z k m i j) (roundD aeC 49 0 2) =
    bif decide (r.getD j 0 < 0) then some (Ex.ret, no49) else bif decide (m < r.getD j 0) then some (Ex.ret, no49) else some (Ex.norm, s492 (rowsD X) X.length c z k m i ((j + 1 : Nat) : Int)) := by
  have e1 : Int.toNat (i : Int) * 1 = i := by simp
  have e2 : Int.toNat (j : Int) * 1 = j := by simp
  have hw : IntKind.wrap .i64 ((j : Int) + 1) = ((j + 1 : Nat) : Int) := by rw [wrap64_o (by omega) (by omega)]; rfl
  rw [t49_2, e1, e2, hw, nth_rows hi, hr]
  simp only [getS_some, Nat.beq_refl, Bool.or_true, cond_true]
  rw [nth_ints_o hj]
  simp only [getI_some]
  rw [cnd_pos (p := (j : Int) < k) (by omega)]
  simp only [show inRange (i : Int) X.length = true by simp [inRange]; omega, show inRange (j : Int) r.length = true by simp [inRange]; omega, cond_true]
theorem loop492 {i : Nat} {r : List Int} {w : Bool} (hX : X.length ≤ 100) (hi : i < X.length) (hr : X.getD i ([], false) = (r, w)) (hl : r.length ≤ 100) (hk : (r.length : Int) = k) : ∀ (xs : List Int) (j : Nat), r.drop j = xs →
    (inM m xs = false → LoopAt aeC Ev.nil 49 0 Try.f49 2 (s492 (rowsD X) X.length c z k m i j) .ret no49) ∧ (inM m xs = true → LoopAt aeC Ev.nil 49 0 Try.f49 2 (s492 (rowsD X) X.length c z k m i j) (.exit 2) (s49 (rowsD X) X.length c z k m i))
  | [], j, h => by
    have hj := drop_nil_o h
    exact ⟨fun e => by simp [inM] at e, fun _ => .out k49_2 (by simp) ((t49_2 ..).trans (cnd_neg (by omega)))⟩
  | x :: xs, j, h => by
    obtain ⟨g1, g2, g3⟩ := drop_cons_o (d := 0) h
    have hh := t49_2r (c := c) (z := z) (m := m) hX hi hr hl hk g1
    rw [g2] at hh
    obtain ⟨i1, i2⟩ := loop492 hX hi hr hl hk xs (j + 1) g3
    simp only [inM, List.all_cons]
    by_cases a1 : x < 0
    · rw [decide_eq_false (p := 0 ≤ x) (by omega)]
      exact ⟨fun _ => .out k49_2 (by simp) (hh.trans (cnd_pos a1)), fun e => by simp at e⟩
    · rw [cnd_neg a1] at hh
      by_cases a2 : m < x
      · rw [decide_eq_false (p := x ≤ m) (by omega), Bool.and_false]
        exact ⟨fun _ => .out k49_2 (by simp) (hh.trans (cnd_pos a2)), fun e => by simp at e⟩
      · rw [cnd_neg a2] at hh
        rw [decide_eq_true (p := 0 ≤ x) (by omega), decide_eq_true (p := x ≤ m) (by omega)]
        exact ⟨fun e => .next k49_2 hh (i1 e), fun e => .next k49_2 hh (i2 e)⟩
theorem loop490 (hX : smallX X) : ∀ (ys : List (List Int × Bool)) (i : Nat), X.drop i = ys →
    (ys.all (fun r => rowB k m r.1) = false → LoopAt aeC Ev.nil 49 0 Try.f49 0 (s49 (rowsD X) X.length c z k m i) .ret no49) ∧
    (ys.all (fun r => rowB k m r.1) = true → LoopAt aeC Ev.nil 49 0 Try.f49 0 (s49 (rowsD X) X.length c z k m i) (.exit 0) ⟨[(0, .d (DV.sl (rowsD X) X.length 1 c z)), (1, .d (iD k))], [], []⟩)
  | [], i, h => by
    have hj := drop_nil_o h
    exact ⟨fun e => by simp at e, fun _ => .out k49_0 (by simp) ((t49_0x ..).trans (cnd_neg (by omega)))⟩
  | (r, w) :: ys, i, h => by
    obtain ⟨g1, g2, g3⟩ := drop_cons_o (d := ([], false)) h
    have hl : r.length ≤ 100 := hX.2 (r, w) (List.mem_of_mem_drop (h ▸ List.mem_cons_self ..))
    have h1 := hX.1
    have e1 : Int.toNat (i : Int) * 1 = i := by simp
    have ha := t49_0 (rowsD X) X.length i c z k m
    have hb := t49_0x (rowsD X) X.length i c z k m
    rw [e1, nth_rows g1, g2, cnd_pos (p := (i : Int) < (X.length : Int)) (by omega)] at ha hb
    simp only [getS_some, Nat.beq_refl, Bool.or_true, cond_true, show inRange (i : Int) X.length = true by simp [inRange]; omega] at ha hb
    have hw : IntKind.wrap .i64 ((i : Int) + 1) = ((i + 1 : Nat) : Int) := by rw [wrap64_o (by omega) (by omega)]; rfl
    obtain ⟨i1, i2⟩ := loop490 hX ys (i + 1) g3
    simp only [List.all_cons, rowB]
    by_cases hk : (r.length : Int) = k
    · rw [decide_eq_true (p := (r.length : Int) = k) hk]
      rw [decide_eq_true (p := (r.length : Int) = k) hk] at ha
      obtain ⟨l1, l2⟩ := loop492 (c := c) (z := z) (m := m) h1 g1 g2 hl hk r 0 rfl
      cases hm : inM m r with
      | false => exact ⟨fun _ => .outF k49_0 (by simp) ((startF_seg k49_0 ha (l1 hm)).trans (nextF_done k49_0 roundD_plain t49_xr)), fun e => by simp at e⟩
      | true =>
        have hx := t49_x (rowsD X) X.length i c z k m
        rw [hw] at hx
        have hn := (startF_seg k49_0 ha (l2 hm)).trans (nextF_done k49_0 roundD_plain hx)
        exact ⟨fun e => .nextF k49_0 hn (i1 e), fun e => .nextF k49_0 hn (i2 e)⟩
    · rw [decide_eq_false (p := (r.length : Int) = k) hk] at hb ⊢
      exact ⟨fun _ => .out k49_0 (by simp) hb, fun e => by simp at e⟩
theorem c49 (hX : smallX X) : PureOK Try.prog 49 [.sl (rowsD X) X.length 1 c z, iD k, iD m] (bD (tabB X k m)) := by
  obtain ⟨l1, l2⟩ := loop490 (c := c) (z := z) (k := k) (m := m) hX X 0 rfl
  refine ae_pure EvOK.nil (fn := Try.f49) k49 (by kernel_rfl) (by kernel_rfl) ?_
  unfold tabB
  cases h : X.all (fun r => rowB k m r.1) with
  | false => exact (startF_seg k49 (t49_h ..) (l1 h)).trans (nextF_done k49 done_plain t49_g)
  | true =>
    refine (startF_seg k49 (t49_h ..) (l2 h)).trans (nextF_done k49 done_plain ((t49_e ..).trans ?_))
    cases decide (1 ≤ (X.length : Int)) <;> cases decide ((X.length : Int) ≤ 5) <;> cases decide (1 ≤ k) <;> rfl
end
end Go.Proofs.Ytjfopbpkophoeaa

/- Chapter 06: rows 47; isFactor 83. -/
namespace Go.Proofs.Ytjfopbpkophoeaa
open Go Go.AE
set_option maxRecDepth 100000
/-! ### Rows -/
structure TbF where
  P : List DV → List DV
  pn : List DV → Nat
  pz : List DV → Bool
def iF (T : TbF) (ds : List DV) : DV := .sl (T.P ds) (T.pn ds) 1 false (T.pz ds)
def s47 (A : List DV) (n : Nat) (c z : Bool) (H : List DV) (i : Int) : St := ⟨[(0, .d (DV.sl A n 1 c z)), (3, AV.grow 0 1 false), (4, .d (iD i))], [.dc H], []⟩
noncomputable def evF (ok : Nat → List DV → Bool) (T : TbF) : Ev := evT ok fun _ ds => iF T ds
theorem t47_h (ok : Nat → List DV → Bool) (T : TbF) (A : List DV) (n : Nat) (c z : Bool) : startS aeC (evF ok T) 47 0 Try.f47 none ⟨envOf 0 [.d (.sl A n 1 c z)], [], []⟩ (heldD aeC 47 0) = some (0, s47 A n c z [] 0) := by kernel_rfl
theorem t47_0 (ok : Nat → List DV → Bool) (T : TbF) (A : List DV) (n i : Nat) (c z : Bool) (H : List DV) : startS aeC (evF ok T) 47 0 Try.f47 (some 0) (s47 A n c z H i) (roundD aeC 47 0 0) =
  bif decide ((i : Int) < (n : Int)) then
    bif decide ((i : Int) < 8) then
      bif inRange (i : Int) n then
        getS (nth A (Int.toNat (i : Int) * 1)) fun cs0 n0 sz0 c0 nl0 =>
        bif nl0 || Nat.beq sz0 1 then
          bif ok 38 [DV.sl cs0 n0 1 false nl0, iD 8] then
            bif TbF.pz T [DV.sl cs0 n0 1 false nl0, iD 8] || true then
              bif Nat.ble (lenOf 1 (List.length H) + 1) 1048576 then
                some (Ex.norm, s47 A n c z (H ++ [DV.sl (TbF.P T [DV.sl cs0 n0 1 false nl0, iD 8]) (TbF.pn T [DV.sl cs0 n0 1 false nl0, iD 8]) 1 false (TbF.pz T [DV.sl cs0 n0 1 false nl0, iD 8])]) (IntKind.wrap IntKind.i64 ((i : Int) + 1)))
              else none
            else none
          else none
        else none
      else none
    else
      some (Ex.exit 0, (⟨[(3, AV.grow 0 1 false)], [.dc H], []⟩ : St))
  else
    some (Ex.exit 0, ⟨[(3, AV.grow 0 1 false)], [.dc H], []⟩) := by kernel_rfl
theorem t47_e (ok : Nat → List DV → Bool) (T : TbF) (H : List DV) : nextS aeC (evF ok T) 47 0 Try.f47 none 0 (.exit 0) ⟨[(3, AV.grow 0 1 false)], [.dc H], []⟩ (doneE aeC Try.f47 0 fun v h => freezeV h 4 v) = some (DV.sl H (lenOf 1 (List.length H)) 1 false (true && Nat.beq (List.length H) 0)) := by kernel_rfl
theorem k47 : OkSeg Try.f47 none [0] := ⟨by kernel_rfl, by kernel_rfl, by decide⟩
theorem k47_0 : OkSeg Try.f47 (some 0) [] := ⟨by kernel_rfl, by kernel_rfl, by decide⟩
def argL : List DV → List Int
  | .sl cs _ _ _ _ :: _ => unI cs
  | _ => []
theorem argL_ls (l : List Int) (n sz : Nat) (c z : Bool) (r : List DV) : argL (.sl (ints l) n sz c z :: r) = l := unI_ints l
def tbF : TbF := ⟨fun ds => ints ((argL ds).take 8), fun ds => ((argL ds).take 8).length, fun ds => ((argL ds).take 8).isEmpty⟩
theorem g38 (l : List Int) (c z : Bool) : okS (fun _ ds => iF tbF ds) 38 [ls l c z, iD 8] = true := okS_is (by
  show PureOK Try.prog 38 _ (.sl (ints ((argL (ls l c z :: [iD 8])).take 8)) ((argL (ls l c z :: [iD 8])).take 8).length 1 false ((argL (ls l c z :: [iD 8])).take 8).isEmpty)
  rw [argL_ls]
  exact c38 l c z 8 (by omega))
def cut8 (r : List Int × Bool) : List Int × Bool := (r.1.take 8, (r.1.take 8).isEmpty)
/-- What is taken of any rows. -/
def rows8 (Y : List (List Int × Bool)) : List (List Int × Bool) := (Y.take 8).map cut8
theorem rowsD_app (a b : List (List Int × Bool)) : rowsD (a ++ b) = rowsD a ++ rowsD b := by simp [rowsD]
theorem rowsD_len (a : List (List Int × Bool)) : (rowsD a).length = a.length := by simp [rowsD]
theorem take_one {Y : List (List Int × Bool)} {i : Nat} (h : i < Y.length) : Y.take (i + 1) = Y.take i ++ [Y.getD i ([], false)] := by
  rw [List.take_add_one, List.getD_eq_getElem?_getD, List.getElem?_eq_getElem h]; rfl
theorem beq_emp {α : Type} (l : List α) : (true && Nat.beq l.length 0) = l.isEmpty := by cases l <;> rfl
theorem loop47 {Y : List (List Int × Bool)} {c z : Bool} : ∀ (t i : Nat), i + t = min 8 Y.length →
    LoopAt aeC (evF (okS fun _ ds => iF tbF ds) tbF) 47 0 Try.f47 0 (s47 (rowsD Y) Y.length c z (rowsD ((Y.take i).map cut8)) i) (.exit 0) ⟨[(3, AV.grow 0 1 false)], [.dc (rowsD (rows8 Y))], []⟩
  | 0, i, hi => by
    have h := t47_0 (okS fun _ ds => iF tbF ds) tbF (rowsD Y) Y.length i c z (rowsD ((Y.take i).map cut8))
    have e : (Y.take i).map cut8 = rows8 Y := by
      unfold rows8
      rcases Nat.le_total 8 Y.length with hl | hl
      · rw [show i = 8 by omega]
      · rw [List.take_of_length_le (by omega), List.take_of_length_le hl]
    rw [e] at h ⊢
    refine .out k47_0 (by simp) (h.trans ?_)
    by_cases h1 : (i : Int) < (Y.length : Int)
    · rw [cnd_pos h1, cnd_neg (by omega)]
    · rw [cnd_neg h1]
  | t + 1, i, hi => by
    have h := t47_0 (okS fun _ ds => iF tbF ds) tbF (rowsD Y) Y.length i c z (rowsD ((Y.take i).map cut8))
    have e1 : Int.toNat (i : Int) * 1 = i := by simp
    have hw : IntKind.wrap .i64 ((i : Int) + 1) = ((i + 1 : Nat) : Int) := by rw [wrap64_o (by omega) (by omega)]; rfl
    have hlt : i < Y.length := by omega
    have hlen : Nat.ble (lenOf 1 (rowsD ((Y.take i).map cut8)).length + 1) 1048576 = true := by
      rw [rowsD_len, List.length_map, List.length_take]; exact Nat.ble_eq_true_of_le (by show min i Y.length + 1 ≤ _; omega)
    rw [e1, hw, nth_rows hlt, hlen, cnd_pos (p := (i : Int) < (Y.length : Int)) (by omega), cnd_pos (p := (i : Int) < 8) (by omega)] at h
    generalize hr : Y.getD i ([], false) = r at h
    obtain ⟨r, w⟩ := r
    simp only [getS_some, Nat.beq_refl, Bool.or_true, cond_true, show inRange (i : Int) Y.length = true by simp [inRange]; omega] at h
    rw [cond_is' (g38 r false w)] at h
    refine .next k47_0 (h.trans ?_) (loop47 (c := c) (z := z) t (i + 1) (by omega))
    rw [take_one hlt, hr, List.map_append, rowsD_app]
    show some (Ex.norm, s47 (rowsD Y) Y.length c z (rowsD ((Y.take i).map cut8) ++ [DV.sl (ints ((argL (ls r false w :: [iD 8])).take 8)) ((argL (ls r false w :: [iD 8])).take 8).length 1 false ((argL (ls r false w :: [iD 8])).take 8).isEmpty]) ((i + 1 : Nat) : Int)) = _
    rw [argL_ls]
    rfl
theorem c47 (Y : List (List Int × Bool)) (c z : Bool) : PureOK Try.prog 47 [.sl (rowsD Y) Y.length 1 c z] (.sl (rowsD (rows8 Y)) (rows8 Y).length 1 false (rows8 Y).isEmpty) := by
  refine ae_pure (evT_ok fun _ ds => iF tbF ds) (fn := Try.f47) k47 (by kernel_rfl) (by kernel_rfl) ((startF_seg k47 (t47_h _ _ _ _ _ _) (loop47 (min 8 Y.length) 0 (by omega))).trans (nextF_done k47 done_plain ((t47_e ..).trans ?_)))
  rw [rowsD_len, beq_emp, Go.AE.lenOf_1]
theorem rows8_small (Y : List (List Int × Bool)) : smallX (rows8 Y) := by
  refine ⟨by simp [rows8]; omega, fun r hr => ?_⟩
  obtain ⟨q, _, rfl⟩ := List.mem_map.1 hr
  simp [cut8]; omega
/-! ### The least and the greatest -/
def mnL : List Int → Int
  | [] => 0
  | x :: r => r.foldl (fun a b => if b < a then b else a) x
def mxL : List Int → Int
  | [] => 0
  | x :: r => r.foldl (fun a b => if b > a then b else a) x
theorem mn_mx : ∀ (r : List Int) (a b : Int), (¬ r.foldl (fun a b => if b < a then b else a) a < 0 ∧ ¬ 4 < r.foldl (fun a b => if b > a then b else a) b) ↔ (0 ≤ a ∧ b ≤ 4 ∧ inM 4 r = true)
  | [], a, b => by simp [inM]
  | x :: r, a, b => by
    simp only [List.foldl_cons]
    rw [mn_mx r]
    simp only [inM, List.all_cons, Bool.and_eq_true, decide_eq_true_eq]
    constructor
    · rintro ⟨h1, h2, h3⟩
      refine ⟨?_, ?_, ⟨?_, ?_⟩, h3⟩ <;> (split at h1 <;> split at h2 <;> omega)
    · rintro ⟨h1, h2, ⟨h3, h4⟩, h5⟩
      refine ⟨?_, ?_, h5⟩ <;> split <;> omega
theorem mn_mx_in {r : List Int} (h : 1 ≤ r.length) : (¬ mnL r < 0 ∧ ¬ 4 < mxL r) ↔ inM 4 r = true := by
  match r, h with
  | x :: r, _ =>
    unfold mnL mxL
    rw [mn_mx r x x]
    simp only [inM, List.all_cons, Bool.and_eq_true, decide_eq_true_eq]
    constructor
    · rintro ⟨h1, h2, h3⟩; exact ⟨⟨h1, h2⟩, h3⟩
    · rintro ⟨⟨h1, h2⟩, h3⟩; exact ⟨h1, h2, h3⟩
theorem u91_1 (x0 : Int) (c z : Bool) : pureE aeC evA 30 91 Try.f91 [ls [x0] c z] = some (iD (mnL [x0])) := by kernel_rfl
theorem u82_1 (x0 : Int) (c z : Bool) : pureE aeC evA 30 82 Try.f82 [ls [x0] c z] = some (iD (mxL [x0])) := by kernel_rfl
theorem u91_2 (x0 x1 : Int) (c z : Bool) : pureE aeC evA 30 91 Try.f91 [ls [x0, x1] c z] = some (iD (mnL [x0, x1])) := by kernel_rfl
theorem u82_2 (x0 x1 : Int) (c z : Bool) : pureE aeC evA 30 82 Try.f82 [ls [x0, x1] c z] = some (iD (mxL [x0, x1])) := by kernel_rfl
theorem u91_3 (x0 x1 x2 : Int) (c z : Bool) : pureE aeC evA 30 91 Try.f91 [ls [x0, x1, x2] c z] = some (iD (mnL [x0, x1, x2])) := by kernel_rfl
theorem u82_3 (x0 x1 x2 : Int) (c z : Bool) : pureE aeC evA 30 82 Try.f82 [ls [x0, x1, x2] c z] = some (iD (mxL [x0, x1, x2])) := by kernel_rfl
theorem u91_4 (x0 x1 x2 x3 : Int) (c z : Bool) : pureE aeC evA 30 91 Try.f91 [ls [x0, x1, x2, x3] c z] = some (iD (mnL [x0, x1, x2, x3])) := by kernel_rfl
theorem u82_4 (x0 x1 x2 x3 : Int) (c z : Bool) : pureE aeC evA 30 82 Try.f82 [ls [x0, x1, x2, x3] c z] = some (iD (mxL [x0, x1, x2, x3])) := by kernel_rfl
theorem u91_5 (x0 x1 x2 x3 x4 : Int) (c z : Bool) : pureE aeC evA 30 91 Try.f91 [ls [x0, x1, x2, x3, x4] c z] = some (iD (mnL [x0, x1, x2, x3, x4])) := by kernel_rfl
theorem u82_5 (x0 x1 x2 x3 x4 : Int) (c z : Bool) : pureE aeC evA 30 82 Try.f82 [ls [x0, x1, x2, x3, x4] c z] = some (iD (mxL [x0, x1, x2, x3, x4])) := by kernel_rfl
theorem c91 {r : List Int} (h1 : 1 ≤ r.length) (h5 : r.length ≤ 5) (c z : Bool) : PureOK Try.prog 91 [ls r c z] (iD (mnL r)) := by
  match r, h1, h5 with
  | [x0], _, _ => exact walkA (by kernel_rfl : tget aeF 91 = some Try.f91) (u91_1 x0 c z)
  | [x0, x1], _, _ => exact walkA (by kernel_rfl : tget aeF 91 = some Try.f91) (u91_2 x0 x1 c z)
  | [x0, x1, x2], _, _ => exact walkA (by kernel_rfl : tget aeF 91 = some Try.f91) (u91_3 x0 x1 x2 c z)
  | [x0, x1, x2, x3], _, _ => exact walkA (by kernel_rfl : tget aeF 91 = some Try.f91) (u91_4 x0 x1 x2 x3 c z)
  | [x0, x1, x2, x3, x4], _, _ => exact walkA (by kernel_rfl : tget aeF 91 = some Try.f91) (u91_5 x0 x1 x2 x3 x4 c z)
theorem c82 {r : List Int} (h1 : 1 ≤ r.length) (h5 : r.length ≤ 5) (c z : Bool) : PureOK Try.prog 82 [ls r c z] (iD (mxL r)) := by
  match r, h1, h5 with
  | [x0], _, _ => exact walkA (by kernel_rfl : tget aeF 82 = some Try.f82) (u82_1 x0 c z)
  | [x0, x1], _, _ => exact walkA (by kernel_rfl : tget aeF 82 = some Try.f82) (u82_2 x0 x1 c z)
  | [x0, x1, x2], _, _ => exact walkA (by kernel_rfl : tget aeF 82 = some Try.f82) (u82_3 x0 x1 x2 c z)
  | [x0, x1, x2, x3], _, _ => exact walkA (by kernel_rfl : tget aeF 82 = some Try.f82) (u82_4 x0 x1 x2 x3 c z)
  | [x0, x1, x2, x3, x4], _, _ => exact walkA (by kernel_rfl : tget aeF 82 = some Try.f82) (u82_5 x0 x1 x2 x3 x4 c z)
/-! ### The rows of a factor -/
structure TbM where
  S : List DV → Int
  T : List DV → Int
def iM (T : TbM) (f : Nat) (ds : List DV) : DV := match f with
  | 91 => iD (T.S ds)
  | _ => iD (T.T ds)
noncomputable def evM (ok : Nat → List DV → Bool) (T : TbM) : Ev := evW [91, 82] ok (iM T)
def s93 (A : List DV) (n : Nat) (c z : Bool) (k i : Int) : St := ⟨[(0, .d (.sl A n 1 c z)), (1, .d (DV.fn 90 [] [DV.ptr [iD k] 0])), (7, .d (iD n)), (8, .d (iD i))], [], []⟩
theorem t93_h (ok : Nat → List DV → Bool) (T : TbM) (A : List DV) (n : Nat) (c z : Bool) (k : Int) : startS aeC (evM ok T) 93 0 Try.f93 none ⟨envOf 0 [.d (.sl A n 1 c z), .d (DV.fn 90 [] [DV.ptr [iD k] 0])], [], []⟩ (heldD aeC 93 0) = some (0, s93 A n c z k 0) := by kernel_rfl
theorem t93_0 (ok : Nat → List DV → Bool) (T : TbM) (A : List DV) (n i : Nat) (c z : Bool) (k : Int) : startS aeC (evM ok T) 93 0 Try.f93 (some 0) (s93 A n c z k i) (roundD aeC 93 0 0) =
  bif decide ((i : Int) < (n : Int)) then
    bif inRange (i : Int) n then
      getS (nth A (Int.toNat (i : Int) * 1)) fun cs0 n0 sz0 c0 nl0 =>
      bif nl0 || Nat.beq sz0 1 then
        bif !decide ((n0 : Int) = k) then some (Ex.ret, (⟨[(4, .d (iD (i : Int)))], [], []⟩ : St))
        else
          bif ok 91 [DV.sl cs0 n0 1 false nl0] then
            bif decide (TbM.S T [DV.sl cs0 n0 1 false nl0] < 0) then some (Ex.ret, ⟨[(4, .d (iD (i : Int)))], [], []⟩)
            else
              bif ok 82 [DV.sl cs0 n0 1 false nl0] then
                bif decide (4 < TbM.T T [DV.sl cs0 n0 1 false nl0]) then some (Ex.ret, ⟨[(4, .d (iD (i : Int)))], [], []⟩)
                else some (Ex.norm, s93 A n c z k (IntKind.wrap IntKind.i64 ((i : Int) + 1)))
              else none
          else none
      else none
    else none
  else
    some (Ex.exit 0, ⟨[], [], []⟩) := by kernel_rfl
theorem t93_e (ok : Nat → List DV → Bool) (T : TbM) : nextS aeC (evM ok T) 93 0 Try.f93 none 0 (.exit 0) ⟨[], [], []⟩ (doneE aeC Try.f93 0 fun v h => freezeV h 4 v) = some (iD (-1)) := by kernel_rfl
theorem t93_g (ok : Nat → List DV → Bool) (T : TbM) (i : Int) : nextS aeC (evM ok T) 93 0 Try.f93 none 0 .ret ⟨[(4, .d (iD i))], [], []⟩ (doneE aeC Try.f93 0 fun v h => freezeV h 4 v) = some (iD i) := by kernel_rfl
theorem k93 : OkSeg Try.f93 none [0] := ⟨by kernel_rfl, by kernel_rfl, by decide⟩
theorem k93_0 : OkSeg Try.f93 (some 0) [] := ⟨by kernel_rfl, by kernel_rfl, by decide⟩
def tbM : TbM := ⟨fun ds => mnL (argL ds), fun ds => mxL (argL ds)⟩
theorem g91 {r : List Int} (h1 : 1 ≤ r.length) (h5 : r.length ≤ 5) (c z : Bool) : okS (iM tbM) 91 [ls r c z] = true := okS_is (by
  show PureOK Try.prog 91 _ (iD (mnL (argL (ls r c z :: []))))
  rw [argL_ls]; exact c91 h1 h5 c z)
theorem g82 {r : List Int} (h1 : 1 ≤ r.length) (h5 : r.length ≤ 5) (c z : Bool) : okS (iM tbM) 82 [ls r c z] = true := okS_is (by
  show PureOK Try.prog 82 _ (iD (mxL (argL (ls r c z :: []))))
  rw [argL_ls]; exact c82 h1 h5 c z)
section
variable {X : List (List Int × Bool)} {c z : Bool} {k : Int}
theorem loop93 (hX : X.length ≤ 100) (h1 : 1 ≤ k) (h5 : k ≤ 5) : ∀ (ys : List (List Int × Bool)) (i : Nat), X.drop i = ys →
    (ys.all (fun r => rowB k 4 r.1) = false → ∃ j : Nat, LoopAt aeC (evM (okS (iM tbM)) tbM) 93 0 Try.f93 0 (s93 (rowsD X) X.length c z k i) .ret ⟨[(4, .d (iD (j : Int)))], [], []⟩) ∧
    (ys.all (fun r => rowB k 4 r.1) = true → LoopAt aeC (evM (okS (iM tbM)) tbM) 93 0 Try.f93 0 (s93 (rowsD X) X.length c z k i) (.exit 0) ⟨[], [], []⟩)
  | [], i, h => by
    have hj := drop_nil_o h
    exact ⟨fun e => by simp at e, fun _ => .out k93_0 (by simp) ((t93_0 ..).trans (cnd_neg (by omega)))⟩
  | (r, w) :: ys, i, h => by
    obtain ⟨g1, g2, g3⟩ := drop_cons_o (d := ([], false)) h
    have e1 : Int.toNat (i : Int) * 1 = i := by simp
    have hw : IntKind.wrap .i64 ((i : Int) + 1) = ((i + 1 : Nat) : Int) := by rw [wrap64_o (by omega) (by omega)]; rfl
    have ha := t93_0 (okS (iM tbM)) tbM (rowsD X) X.length i c z k
    rw [e1, hw, nth_rows g1, g2, cnd_pos (p := (i : Int) < (X.length : Int)) (by omega)] at ha
    simp only [getS_some, Nat.beq_refl, Bool.or_true, cond_true, show inRange (i : Int) X.length = true by simp [inRange]; omega] at ha
    obtain ⟨i1, i2⟩ := loop93 hX h1 h5 ys (i + 1) g3
    simp only [List.all_cons, rowB]
    by_cases hk : (r.length : Int) = k
    · rw [decide_eq_true (p := (r.length : Int) = k) hk] at ha ⊢
      have gr1 : 1 ≤ r.length := by omega
      have gr5 : r.length ≤ 5 := by omega
      rw [cond_is' (g91 gr1 gr5 false w), cond_is' (g82 gr1 gr5 false w)] at ha
      rw [show tbM.S [DV.sl (ints r) r.length 1 false w] = mnL r from congrArg mnL (argL_ls r _ _ _ _ []), show tbM.T [DV.sl (ints r) r.length 1 false w] = mxL r from congrArg mxL (argL_ls r _ _ _ _ [])] at ha
      have hm := mn_mx_in gr1
      by_cases a1 : mnL r < 0
      · have : inM 4 r = false := by
          cases q : inM 4 r with
          | false => rfl
          | true => exact absurd a1 (hm.2 q).1
        rw [this]
        exact ⟨fun _ => ⟨i, .out k93_0 (by simp) (ha.trans (cnd_pos a1))⟩, fun e => by simp at e⟩
      · by_cases a2 : 4 < mxL r
        · have : inM 4 r = false := by
            cases q : inM 4 r with
            | false => rfl
            | true => exact absurd a2 (hm.2 q).2
          rw [this]
          exact ⟨fun _ => ⟨i, .out k93_0 (by simp) (ha.trans ((cnd_neg a1).trans (cnd_pos a2)))⟩, fun e => by simp at e⟩
        · rw [hm.1 ⟨a1, a2⟩]
          have hn := ha.trans ((cnd_neg a1).trans (cnd_neg a2))
          exact ⟨fun e => (i1 e).elim fun j q => ⟨j, .next k93_0 hn q⟩, fun e => .next k93_0 hn (i2 e)⟩
    · rw [decide_eq_false (p := (r.length : Int) = k) hk] at ha ⊢
      exact ⟨fun _ => ⟨i, .out k93_0 (by simp) ha⟩, fun e => by simp at e⟩
theorem c93 (hX : X.length ≤ 100) (h1 : 1 ≤ k) (h5 : k ≤ 5) : ∃ j : Int, PureOK Try.prog 93 [.sl (rowsD X) X.length 1 c z, DV.fn 90 [] [DV.ptr [iD k] 0]] (iD j) ∧ decide (0 ≤ j) = !X.all (fun r => rowB k 4 r.1) := by
  obtain ⟨l1, l2⟩ := loop93 (c := c) (z := z) hX h1 h5 X 0 rfl
  have cl : ∀ d, startF aeC (evM (okS (iM tbM)) tbM) 93 0 Try.f93 none ⟨envOf 0 [.d (.sl (rowsD X) X.length 1 c z), .d (DV.fn 90 [] [DV.ptr [iD k] 0])], [], []⟩ (doneE aeC Try.f93 0 fun v h => freezeV h 4 v) = some d → PureOK Try.prog 93 [.sl (rowsD X) X.length 1 c z, DV.fn 90 [] [DV.ptr [iD k] 0]] d := fun d e => ae_pure (evW_ok [91, 82] (iM tbM)) (fn := Try.f93) k93 (by kernel_rfl) (by kernel_rfl) e
  cases h : X.all (fun r => rowB k 4 r.1) with
  | false =>
    obtain ⟨j, hj⟩ := l1 h
    exact ⟨j, cl _ ((startF_seg k93 (t93_h ..) hj).trans (nextF_done k93 done_plain (t93_g ..))), by simp⟩
  | true => exact ⟨-1, cl _ ((startF_seg k93 (t93_h ..) (l2 h)).trans (nextF_done k93 done_plain (t93_e ..))), by simp⟩
theorem t89_h (ok : Nat → List DV → Bool) (j : Int) (A : List DV) (n : Nat) (c z : Bool) (k : Int) : pureE aeC (evT ok fun _ _ => iD j) 30 89 Try.f89 [DV.sl A n 1 c z, DV.fn 90 [] [DV.ptr [iD k] 0]] =
  bif ok 93 [DV.sl A n 1 c z, DV.fn 90 [] [DV.ptr [iD k] 0]] then some (bD (decide (0 ≤ j))) else none := by kernel_rfl
theorem t83_h (ok : Nat → List DV → Bool) (b : Bool) (A : List DV) (n : Nat) (c z : Bool) (k : Int) : pureE aeC (evT ok fun _ _ => bD b) 30 83 Try.f83 [.sl A n 1 c z, iD k] =
  bif decide ((n : Int) < 1) then some (bD false) else bif decide (5 < (n : Int)) then some (bD false) else bif decide (k < 1) then some (bD false) else bif decide (5 < k) then some (bD false) else
    bif ok 89 [DV.sl A n 1 c z, DV.fn 90 [] [DV.ptr [iD k] 0]] then some (bD !b) else none := by kernel_rfl
theorem c83 (hX : X.length ≤ 100) : PureOK Try.prog 83 [.sl (rowsD X) X.length 1 c z, iD k] (bD (tabB X k 4)) := by
  have dir : ∀ {b : Bool} {d}, pureE aeC (evT (okS fun _ _ => bD b) fun _ _ => bD b) 30 83 Try.f83 [.sl (rowsD X) X.length 1 c z, iD k] = some d → PureOK Try.prog 83 [.sl (rowsD X) X.length 1 c z, iD k] d :=
    fun {b d} e => ae_direct (evT_ok fun _ _ => bD b) 30 (by kernel_rfl : tget aeF 83 = some Try.f83) e
  by_cases hn : 1 ≤ X.length ∧ X.length ≤ 5 ∧ 1 ≤ k ∧ k ≤ 5
  · obtain ⟨n1, n5, h1, h5⟩ := hn
    obtain ⟨j, hj, e⟩ := c93 (c := c) (z := z) hX h1 h5
    have g93 : okS (fun _ _ => iD j) 93 [.sl (rowsD X) X.length 1 c z, DV.fn 90 [] [DV.ptr [iD k] 0]] = true := okS_is hj
    have h89 : PureOK Try.prog 89 [.sl (rowsD X) X.length 1 c z, DV.fn 90 [] [DV.ptr [iD k] 0]] (bD (decide (0 ≤ j))) :=
      ae_direct (evT_ok fun _ _ => iD j) 30 (by kernel_rfl : tget aeF 89 = some Try.f89) ((t89_h _ _ _ _ _ _ _).trans (cond_is' g93))
    have g89 : okS (fun _ _ => bD (decide (0 ≤ j))) 89 [.sl (rowsD X) X.length 1 c z, DV.fn 90 [] [DV.ptr [iD k] 0]] = true := okS_is h89
    have := dir ((t83_h (okS fun _ _ => bD (decide (0 ≤ j))) (decide (0 ≤ j)) (rowsD X) X.length c z k).trans ((cnd_neg (by omega)).trans ((cnd_neg (by omega)).trans ((cnd_neg (by omega)).trans ((cnd_neg (by omega)).trans (cond_is' g89))))))
    rw [e, Bool.not_not] at this
    unfold tabB
    rw [decide_eq_true (p := 1 ≤ (X.length : Int)) (by omega), decide_eq_true (p := (X.length : Int) ≤ 5) (by omega), decide_eq_true h1, decide_eq_true h5]
    simpa using this
  · have hf : tabB X k 4 = false := by
      cases q : tabB X k 4 with
      | false => rfl
      | true => simp only [tabB, Bool.and_eq_true, decide_eq_true_eq] at q; exact absurd ⟨by omega, by omega, q.2.2.2.1, q.2.2.2.2⟩ hn
    rw [hf]
    refine dir (b := true) ((t83_h ..).trans ?_)
    by_cases a1 : (X.length : Int) < 1
    · exact cnd_pos a1
    · refine (cnd_neg a1).trans ?_
      by_cases a2 : 5 < (X.length : Int)
      · exact cnd_pos a2
      · refine (cnd_neg a2).trans ?_
        by_cases a3 : k < 1
        · exact cnd_pos a3
        · refine (cnd_neg a3).trans ?_
          by_cases a4 : 5 < k
          · exact cnd_pos a4
          · omega
end
end Go.Proofs.Ytjfopbpkophoeaa

/- Chapter 06: product 84, with its sum 92. -/
namespace Go.Proofs.Ytjfopbpkophoeaa
open Go Go.AE
set_option maxRecDepth 100000
def sumL (l : List Int) : Int := l.foldl (fun s x => IntKind.wrap .i64 (s + x)) 0
def s92 (A : List DV) (n : Nat) (c z : Bool) (s i : Int) : St := ⟨[(3, .d (iD s)), (6, .d (DV.sl A n 1 c z)), (7, .d (iD (n : Int))), (8, .d (iD i))], [], []⟩
theorem t92_h (A : List DV) (n : Nat) (c z : Bool) : startS aeC Ev.nil 92 0 Try.f92 none ⟨envOf 0 [.d (.sl A n 1 c z)], [], []⟩ (heldD aeC 92 0) = some (0, s92 A n c z 0 0) := by kernel_rfl
theorem t92_0 (A : List DV) (n i : Nat) (c z : Bool) (s : Int) : startS aeC Ev.nil 92 0 Try.f92 (some 0) (s92 A n c z s i) (roundD aeC 92 0 0) =
  bif decide ((i : Int) < (n : Int)) then bif inRange (i : Int) n then (getI (nth A (Int.toNat (i : Int) * 1)) fun x0 => some (Ex.norm, s92 A n c z (IntKind.wrap IntKind.i64 (s + x0)) (IntKind.wrap IntKind.i64 ((i : Int) + 1)))) else none
  else some (Ex.exit 0, (⟨[(3, .d (iD s))], [], []⟩ : St)) := by kernel_rfl
theorem t92_e (s : Int) : nextS aeC Ev.nil 92 0 Try.f92 none 0 (.exit 0) ⟨[(3, .d (iD s))], [], []⟩ (doneE aeC Try.f92 0 fun v h => freezeV h 4 v) = some (iD s) := by kernel_rfl
theorem k92 : OkSeg Try.f92 none [0] := ⟨by kernel_rfl, by kernel_rfl, by decide⟩
theorem k92_0 : OkSeg Try.f92 (some 0) [] := ⟨by kernel_rfl, by kernel_rfl, by decide⟩
theorem loop92 {l : List Int} {c z : Bool} (hl : l.length ≤ 100) : ∀ (xs : List Int) (i : Nat) (s : Int), l.drop i = xs →
    LoopAt aeC Ev.nil 92 0 Try.f92 0 (s92 (ints l) l.length c z s i) (.exit 0) ⟨[(3, .d (iD (xs.foldl (fun s x => IntKind.wrap .i64 (s + x)) s)))], [], []⟩
  | [], i, s, h => by
    have hj := drop_nil_o h
    exact .out k92_0 (by simp) ((t92_0 ..).trans (cnd_neg (by omega)))
  | x :: xs, i, s, h => by
    obtain ⟨g1, g2, g3⟩ := drop_cons_o (d := 0) h
    have ha := t92_0 (ints l) l.length i c z s
    have hw : IntKind.wrap .i64 ((i : Int) + 1) = ((i + 1 : Nat) : Int) := by rw [wrap64_o (by omega) (by omega)]; rfl
    rw [show Int.toNat (i : Int) * 1 = i by simp, hw, nth_ints_o g1, g2, cnd_pos (p := (i : Int) < (l.length : Int)) (by omega)] at ha
    simp only [getI_some, cond_true, show inRange (i : Int) l.length = true by simp [inRange]; omega] at ha
    exact .next k92_0 ha (loop92 hl xs (i + 1) _ g3)
theorem c92 {l : List Int} (hl : l.length ≤ 100) (c z : Bool) : PureOK Try.prog 92 [ls l c z] (iD (sumL l)) :=
  ae_pure EvOK.nil (fn := Try.f92) k92 (by kernel_rfl) (by kernel_rfl) ((startF_seg k92 (t92_h ..) (loop92 hl l 0 0 rfl)).trans (nextF_done k92 done_plain (t92_e _)))
/-! ### Products -/
def prodAt (R : List Int) (B : List (List Int)) (j x : Nat) : Int := IntKind.wrap .i64 (R.getD x 0 * (B.getD x []).getD j 0)
def entry (R : List Int) (B : List (List Int)) (j : Nat) : Int := sumL ((List.range R.length).map (prodAt R B j))
def rowM (w : Nat) (R : List Int) (B : List (List Int)) : List Int := (List.range w).map (entry R B)
/-- The product of two tables; w is the number of columns. -/
def mulM (w : Nat) (A B : List (List Int)) : List (List Int) := A.map fun R => rowM w R B
def le9 (l : List Int) : Bool := l.all fun x => decide (x ≤ 9)
noncomputable def evX (ok : Nat → List DV → Bool) (S : List DV → Int) : Ev := evT ok fun _ ds => iD (S ds)
def s84 (A B H : List DV) (n m : Nat) (c z c2 z2 p : Bool) (i : Int) : St := ⟨[(1, .d (DV.sl B m 1 c2 z2)), (6, AV.grow 0 1 false), (7, .d (bD p)), (15, .d (DV.sl A n 1 c z)), (16, .d (iD (n : Int))), (17, .d (iD i))], [.dc H], []⟩
def s842 (A B H O R : List DV) (n m k w : Nat) (c z c2 z2 p r : Bool) (i j : Int) : St := ⟨[(1, .d (DV.sl B m 1 c2 z2)), (6, AV.grow 0 1 false), (7, .d (bD p)), (9, .d (DV.sl R k 1 false r)), (10, AV.grow 1 1 false), (15, .d (DV.sl A n 1 c z)), (16, .d (iD (n : Int))), (17, .d (iD i)), (24, .d (iD (w : Int))), (25, .d (iD j))], [.dc H, .dc O], []⟩
def s842x (A B H O : List DV) (n m : Nat) (c z c2 z2 p : Bool) (i : Int) : St := ⟨[(1, .d (DV.sl B m 1 c2 z2)), (6, AV.grow 0 1 false), (7, .d (bD p)), (10, AV.grow 1 1 false), (15, .d (DV.sl A n 1 c z)), (16, .d (iD (n : Int))), (17, .d (iD i))], [.dc H, .dc O], []⟩
def s844 (A B H O R Q : List DV) (n m k w : Nat) (c z c2 z2 p r : Bool) (i j x : Int) : St := ⟨[(1, .d (DV.sl B m 1 c2 z2)), (6, AV.grow 0 1 false), (7, .d (bD p)), (9, .d (DV.sl R k 1 false r)), (10, AV.grow 1 1 false), (11, .d (iD j)), (12, AV.grow 2 1 false), (15, .d (DV.sl A n 1 c z)), (16, .d (iD (n : Int))), (17, .d (iD i)), (24, .d (iD (w : Int))), (25, .d (iD j)), (28, .d (DV.sl R k 1 false r)), (29, .d (iD (k : Int))), (30, .d (iD x))], [.dc H, .dc O, .dc Q], []⟩
def s844x (A B H O R Q : List DV) (n m k w : Nat) (c z c2 z2 p r : Bool) (i j : Int) : St := ⟨[(1, .d (DV.sl B m 1 c2 z2)), (6, AV.grow 0 1 false), (7, .d (bD p)), (9, .d (DV.sl R k 1 false r)), (10, AV.grow 1 1 false), (11, .d (iD j)), (12, AV.grow 2 1 false), (15, .d (DV.sl A n 1 c z)), (16, .d (iD (n : Int))), (17, .d (iD i)), (24, .d (iD (w : Int))), (25, .d (iD j))], [.dc H, .dc O, .dc Q], []⟩
section
variable (ok : Nat → List DV → Bool) (S : List DV → Int)
theorem t84_h (A B : List DV) (n m : Nat) (c z c2 z2 : Bool) : startS aeC (evX ok S) 84 0 Try.f84 none ⟨envOf 0 [.d (.sl A n 1 c z), .d (.sl B m 1 c2 z2)], [], []⟩ (heldD aeC 84 0) = some (0, s84 A B [] n m c z c2 z2 true 0) := by kernel_rfl
theorem t84_0 (A B H : List DV) (n m : Nat) (i : Int) (c z p c2 z2 : Bool) : startS aeC (evX ok S) 84 0 Try.f84 (some 0) (s84 A B H n m c z c2 z2 p i) (heldD aeC 84 0) =
  bif decide (i < (n : Int)) then bif inRange i n then (getS (nth A (Int.toNat i * 1)) fun cs0 n0 sz0 c0 nl0 => bif nl0 || Nat.beq sz0 1 then bif inRange 0 m then (getS (nth B 0) fun cs1 n1 sz1 c1 nl1 => bif nl1 || Nat.beq sz1 1 then some (2, s842 A B H [] cs0 n m n0 n1 c z c2 z2 p nl0 i 0) else none) else none else none) else none else none := by kernel_rfl
theorem t84_0x (A B H : List DV) (n m i : Nat) (c z p c2 z2 : Bool) : startS aeC (evX ok S) 84 0 Try.f84 (some 0) (s84 A B H n m c z c2 z2 p n) (roundD aeC 84 0 0) =
  bif decide ((n : Int) < (n : Int)) then bif inRange (n : Int) n then (getS (nth A (Int.toNat (n : Int) * 1)) fun cs0 n0 sz0 c0 nl0 => bif nl0 || Nat.beq sz0 1 then bif inRange 0 m then (getS (nth B 0) fun cs1 n1 sz1 c1 nl1 => bif nl1 || Nat.beq sz1 1 then none else none) else none else none) else none
  else some (Ex.exit 0, (⟨[(6, AV.grow 0 1 false), (7, .d (bD p))], [.dc H], []⟩ : St)) := by kernel_rfl
theorem t84_2 (A B H O R : List DV) (n m k w i j : Nat) (c z c2 z2 p r : Bool) : startS aeC (evX ok S) 84 0 Try.f84 (some 2) (s842 A B H O R n m k w c z c2 z2 p r i j) (heldD aeC 84 0) =
  bif decide ((j : Int) < (w : Int)) then some (4, s844 A B H O R [] n m k w c z c2 z2 p r i j 0) else none := by kernel_rfl
theorem t84_2x (A B H O R : List DV) (n m k w i j : Nat) (c z c2 z2 p r : Bool) : startS aeC (evX ok S) 84 0 Try.f84 (some 2) (s842 A B H O R n m k w c z c2 z2 p r i j) (roundD aeC 84 0 2) =
  bif decide ((j : Int) < (w : Int)) then none else some (Ex.exit 2, s842x A B H O n m c z c2 z2 p i) := by kernel_rfl
theorem t84_4 (A B H O R Q : List DV) (n m k w i j x : Nat) (c z c2 z2 p r : Bool) : startS aeC (evX ok S) 84 0 Try.f84 (some 4) (s844 A B H O R Q n m k w c z c2 z2 p r i j x) (roundD aeC 84 0 4) =
  bif decide ((x : Int) < (k : Int)) then
    bif inRange (x : Int) k then
      getI (nth R (Int.toNat (x : Int) * 1)) fun x0 =>
      bif inRange (x : Int) m then
        getS (nth B (Int.toNat (x : Int) * 1)) fun cs1 n1 sz1 c1 nl1 =>
        bif nl1 || Nat.beq sz1 1 then
          bif inRange (j : Int) n1 then
            getI (nth cs1 (Int.toNat (j : Int) * 1)) fun x2 =>
            bif Nat.ble (lenOf 1 (List.length Q) + 1) 1048576 then
              some (Ex.norm, s844 A B H O R (Q ++ [iD (IntKind.wrap IntKind.i64 (x0 * x2))]) n m k w c z c2 z2 p r i j (IntKind.wrap IntKind.i64 ((x : Int) + 1)))
            else none
          else none
        else none
      else none
    else none
  else some (Ex.exit 4, s844x A B H O R Q n m k w c z c2 z2 p r i j) := by kernel_rfl
theorem t84_y (A B H O R Q : List DV) (n m k w i j : Nat) (c z c2 z2 p r : Bool) : nextS aeC (evX ok S) 84 0 Try.f84 (some 2) 4 (.exit 4) (s844x A B H O R Q n m k w c z c2 z2 p r i j) (roundD aeC 84 0 2) =
  bif ok 92 [DV.sl Q (lenOf 1 (List.length Q)) 1 false (true && Nat.beq (List.length Q) 0)] then
    bif Nat.ble (lenOf 1 (List.length O) + 1) 1048576 then
      bif p then
        bif inRange (j : Int) (lenOf 1 (List.length (O ++ [iD (S [DV.sl Q (lenOf 1 (List.length Q)) 1 false (true && Nat.beq (List.length Q) 0)])]))) then
          getI (nth (O ++ [iD (S [DV.sl Q (lenOf 1 (List.length Q)) 1 false (true && Nat.beq (List.length Q) 0)])]) (Int.toNat (j : Int) * 1)) fun x0 =>
          some (Ex.norm, s842 A B H (O ++ [iD (S [DV.sl Q (lenOf 1 (List.length Q)) 1 false (true && Nat.beq (List.length Q) 0)])]) R n m k w c z c2 z2 (decide (x0 ≤ 9)) r i (IntKind.wrap IntKind.i64 ((j : Int) + 1)))
        else none
      else
        some (Ex.norm, s842 A B H (O ++ [iD (S [DV.sl Q (lenOf 1 (List.length Q)) 1 false (true && Nat.beq (List.length Q) 0)])]) R n m k w c z c2 z2 false r i (IntKind.wrap IntKind.i64 ((j : Int) + 1)))
    else none
  else none := by kernel_rfl
theorem t84_x (A B H O : List DV) (n m i : Nat) (c z c2 z2 p : Bool) : nextS aeC (evX ok S) 84 0 Try.f84 (some 0) 2 (.exit 2) (s842x A B H O n m c z c2 z2 p i) (roundD aeC 84 0 0) =
  bif Nat.ble (lenOf 1 (List.length H) + 1) 1048576 then some (Ex.norm, s84 A B (H ++ [DV.sl O (lenOf 1 (List.length O)) 1 false (true && Nat.beq (List.length O) 0)]) n m c z c2 z2 p (IntKind.wrap IntKind.i64 ((i : Int) + 1))) else none := by kernel_rfl
theorem t84_e (H : List DV) (p : Bool) : nextS aeC (evX ok S) 84 0 Try.f84 none 0 (.exit 0) ⟨[(6, AV.grow 0 1 false), (7, .d (bD p))], [.dc H], []⟩ (doneE aeC Try.f84 0 fun v h => freezeV h 4 v) =
  some (DV.tup [DV.sl H (lenOf 1 (List.length H)) 1 false (true && Nat.beq (List.length H) 0), bD p]) := by kernel_rfl
end
theorem k84 : OkSeg Try.f84 none [0] := ⟨by kernel_rfl, by kernel_rfl, by decide⟩
theorem k84_0 : OkSeg Try.f84 (some 0) [2] := ⟨by kernel_rfl, by kernel_rfl, by decide⟩
theorem k84_2 : OkSeg Try.f84 (some 2) [4] := ⟨by kernel_rfl, by kernel_rfl, by decide⟩
theorem k84_4 : OkSeg Try.f84 (some 4) [] := ⟨by kernel_rfl, by kernel_rfl, by decide⟩
def tS (ds : List DV) : Int := sumL (argL ds)
noncomputable abbrev okX : Nat → List DV → Bool := okS fun _ ds => iD (tS ds)
theorem g92 {l : List Int} (hl : l.length ≤ 100) (c z : Bool) : okX 92 [ls l c z] = true := okS_is (by
  show PureOK Try.prog 92 _ (iD (sumL (argL (ls l c z :: []))))
  rw [argL_ls]; exact c92 hl c z)
section
variable {A B : List (List Int)} {c z c2 z2 : Bool}
theorem loop844 {H : List DV} {O : List DV} {R : List Int} {n w i j : Nat} {p r : Bool} (hm : B.length ≤ 100) (hR : R.length = B.length) (hB : ∀ b ∈ B, b.length = w) (hj : j < w) (hw : w ≤ 100) : ∀ (t x : Nat), x + t = R.length →
    LoopAt aeC (evX okX tS) 84 0 Try.f84 4 (s844 (A.map rowD) (B.map rowD) H O (ints R) (ints ((List.range x).map (prodAt R B j))) n B.length R.length w c z c2 z2 p r i j x) (.exit 4) (s844x (A.map rowD) (B.map rowD) H O (ints R) (ints ((List.range R.length).map (prodAt R B j))) n B.length R.length w c z c2 z2 p r i j)
  | 0, x, hx => by
    obtain rfl : x = R.length := by omega
    exact .out k84_4 (by simp) ((t84_4 ..).trans (cnd_neg (by omega)))
  | t + 1, x, hx => by
    have ha := t84_4 okX tS (A.map rowD) (B.map rowD) H O (ints R) (ints ((List.range x).map (prodAt R B j))) n B.length R.length w i j x c z c2 z2 p r
    have hw' : IntKind.wrap .i64 ((x : Int) + 1) = ((x + 1 : Nat) : Int) := by rw [wrap64_o (by omega) (by omega)]; rfl
    have hxB : x < B.length := by omega
    have hb : (B.getD x []).length = w := hB _ (by rw [List.getD_eq_getElem?_getD, List.getElem?_eq_getElem hxB]; exact List.getElem_mem _)
    have hlen : Nat.ble (lenOf 1 (ints ((List.range x).map (prodAt R B j))).length + 1) 1048576 = true := by
      rw [len_ints, List.length_map, List.length_range]; exact Nat.ble_eq_true_of_le (by show x + 1 ≤ _; omega)
    rw [show Int.toNat (x : Int) * 1 = x by simp, show Int.toNat (j : Int) * 1 = j by simp, hw', hlen, nth_ints_o (l := R) (i := x) (by omega), nth_mat hxB, cnd_pos (p := (x : Int) < (R.length : Int)) (by omega)] at ha
    rw [show rowD (B.getD x []) = .sl (ints (B.getD x [])) (B.getD x []).length 1 false false from rfl] at ha
    simp only [getS_some, getI_some, Nat.beq_refl, Bool.or_true, cond_true, show inRange (x : Int) R.length = true by simp [inRange]; omega, show inRange (x : Int) B.length = true by simp [inRange]; omega] at ha
    rw [hb, nth_ints_o (l := B.getD x []) (i := j) (by omega)] at ha
    simp only [getI_some, cond_true, show inRange (j : Int) w = true by simp [inRange]; omega] at ha
    refine .next k84_4 (ha.trans ?_) (loop844 hm hR hB hj hw t (x + 1) (by omega))
    rw [List.range_succ, List.map_append, ints_app]
    rfl
theorem loop842 {H : List DV} {R : List Int} {n w i : Nat} {p0 r : Bool} (hm : B.length ≤ 100) (hR : R.length = B.length) (hB : ∀ b ∈ B, b.length = w) (hw : w ≤ 100) : ∀ (t j : Nat), j + t = w →
    LoopAt aeC (evX okX tS) 84 0 Try.f84 2 (s842 (A.map rowD) (B.map rowD) H (ints ((List.range j).map (entry R B))) (ints R) n B.length R.length w c z c2 z2 (p0 && le9 ((List.range j).map (entry R B))) r i j) (.exit 2)
      (s842x (A.map rowD) (B.map rowD) H (ints (rowM w R B)) n B.length c z c2 z2 (p0 && le9 (rowM w R B)) i)
  | 0, j, hj => by
    obtain rfl : j = w := by omega
    exact .out k84_2 (by simp) ((t84_2x ..).trans (cnd_neg (by omega)))
  | t + 1, j, hj => by
    have hjw : j < w := by omega
    have hw' : IntKind.wrap .i64 ((j : Int) + 1) = ((j + 1 : Nat) : Int) := by rw [wrap64_o (by omega) (by omega)]; rfl
    have h4 := loop844 (A := A) (c := c) (z := z) (c2 := c2) (z2 := z2) (H := H) (O := ints ((List.range j).map (entry R B))) (n := n) (i := i) (p := p0 && le9 ((List.range j).map (entry R B))) (r := r) hm hR hB hjw hw R.length 0 (by omega)
    have hy := t84_y okX tS (A.map rowD) (B.map rowD) H (ints ((List.range j).map (entry R B))) (ints R) (ints ((List.range R.length).map (prodAt R B j))) n B.length R.length w i j c z c2 z2 (p0 && le9 ((List.range j).map (entry R B))) r
    have hS : ∀ q, tS [DV.sl (ints ((List.range R.length).map (prodAt R B j))) ((List.range R.length).map (prodAt R B j)).length 1 false q] = entry R B j := fun q => congrArg sumL (argL_ls _ _ _ _ _ [])
    have hlen : Nat.ble (lenOf 1 (ints ((List.range j).map (entry R B))).length + 1) 1048576 = true := by
      rw [len_ints, List.length_map, List.length_range]; exact Nat.ble_eq_true_of_le (by show j + 1 ≤ _; omega)
    rw [hlen, len_ints, Go.AE.lenOf_1, hS, hw', cond_is' (g92 (by simp; omega) false _), show Int.toNat (j : Int) * 1 = j by simp, show ints ((List.range j).map (entry R B)) ++ [iD (entry R B j)] = ints ((List.range (j + 1)).map (entry R B)) by rw [List.range_succ, List.map_append, ints_app]; rfl,
      nth_ints_o (l := (List.range (j + 1)).map (entry R B)) (i := j) (by simp)] at hy
    rw [show ((List.range (j + 1)).map (entry R B)).getD j 0 = entry R B j by simp [List.getD_eq_getElem?_getD]] at hy
    simp only [getI_some, cond_true, len_ints, List.length_map, List.length_range, Go.AE.lenOf_1, show inRange (j : Int) (j + 1) = true by simp [inRange]; omega] at hy
    have hp : (p0 && le9 ((List.range (j + 1)).map (entry R B))) = ((p0 && le9 ((List.range j).map (entry R B))) && decide (entry R B j ≤ 9)) := by
      unfold le9
      rw [List.range_succ, List.map_append, List.all_append, Bool.and_assoc]
      simp
    have hn : startF aeC (evX okX tS) 84 0 Try.f84 (some 2) (s842 (A.map rowD) (B.map rowD) H (ints ((List.range j).map (entry R B))) (ints R) n B.length R.length w c z c2 z2 (p0 && le9 ((List.range j).map (entry R B))) r i j) (roundD aeC 84 0 2) =
        some (Ex.norm, s842 (A.map rowD) (B.map rowD) H (ints ((List.range (j + 1)).map (entry R B))) (ints R) n B.length R.length w c z c2 z2 (p0 && le9 ((List.range (j + 1)).map (entry R B))) r i ((j + 1 : Nat) : Int)) := by
      refine (startF_seg k84_2 ((t84_2 ..).trans (cnd_pos (by omega))) h4).trans (nextF_done k84_2 roundD_plain (hy.trans ?_))
      rw [hp]
      cases p0 && le9 ((List.range j).map (entry R B)) <;> rfl
    exact .nextF k84_2 hn (loop842 hm hR hB hw t (j + 1) (by omega))
end
end Go.Proofs.Ytjfopbpkophoeaa

/- Chapter 06: product 84. -/
namespace Go.Proofs.Ytjfopbpkophoeaa
open Go Go.AE
set_option maxRecDepth 100000
theorem beq_no {n : Nat} (h : 1 ≤ n) : (true && Nat.beq n 0) = false := by
  cases n with
  | zero => omega
  | succ n => rfl
section
variable {A B : List (List Int)} {w : Nat}
theorem loop840 (hA : A.length ≤ 100) (hm1 : 1 ≤ B.length) (hm : B.length ≤ 100) (hR : ∀ R ∈ A, R.length = B.length) (hB : ∀ b ∈ B, b.length = w) (hw1 : 1 ≤ w) (hw : w ≤ 100) : ∀ (t i : Nat), i + t = A.length →
    LoopAt aeC (evX okX tS) 84 0 Try.f84 0 (s84 (A.map rowD) (B.map rowD) ((mulM w (A.take i) B).map rowD) A.length B.length false false false false ((A.take i).all fun R => le9 (rowM w R B)) i) (.exit 0)
      ⟨[(6, AV.grow 0 1 false), (7, .d (bD (A.all fun R => le9 (rowM w R B))))], [.dc ((mulM w A B).map rowD)], []⟩
  | 0, i, hi => by
    obtain rfl : i = A.length := by omega
    rw [List.take_of_length_le (Nat.le_refl _)]
    exact .out k84_0 (by simp) ((t84_0x okX tS _ _ _ _ _ 0 _ _ _ _ _).trans (cnd_neg (by omega)))
  | t + 1, i, hi => by
    have hlt : i < A.length := by omega
    have hRi : (A.getD i []).length = B.length := hR _ (by rw [List.getD_eq_getElem?_getD, List.getElem?_eq_getElem hlt]; exact List.getElem_mem _)
    have hb0 : (B.getD 0 []).length = w := hB _ (by rw [List.getD_eq_getElem?_getD, List.getElem?_eq_getElem (show 0 < B.length by omega)]; exact List.getElem_mem _)
    have ht : A.take (i + 1) = A.take i ++ [A.getD i []] := by
      rw [List.take_add_one, List.getD_eq_getElem?_getD, List.getElem?_eq_getElem hlt]; rfl
    have hw' : IntKind.wrap .i64 ((i : Int) + 1) = ((i + 1 : Nat) : Int) := by rw [wrap64_o (by omega) (by omega)]; rfl
    have ha := t84_0 okX tS (A.map rowD) (B.map rowD) ((mulM w (A.take i) B).map rowD) A.length B.length i false false ((A.take i).all fun R => le9 (rowM w R B)) false false
    rw [show Int.toNat (i : Int) * 1 = i by simp, nth_mat hlt, nth_mat (i := 0) (by omega), cnd_pos (p := (i : Int) < (A.length : Int)) (by omega),
      show rowD (A.getD i []) = .sl (ints (A.getD i [])) (A.getD i []).length 1 false false from rfl, show rowD (B.getD 0 []) = .sl (ints (B.getD 0 [])) (B.getD 0 []).length 1 false false from rfl] at ha
    simp only [getS_some, Nat.beq_refl, Bool.or_true, cond_true, show inRange (i : Int) A.length = true by simp [inRange]; omega, show inRange 0 B.length = true by simp [inRange]; omega] at ha
    rw [hb0] at ha
    have hl := loop842 (A := A) (c := false) (z := false) (c2 := false) (z2 := false) (H := (mulM w (A.take i) B).map rowD) (R := A.getD i []) (n := A.length) (i := i) (p0 := (A.take i).all fun R => le9 (rowM w R B)) (r := false) hm hRi hB hw w 0 (by omega)
    have hx := t84_x okX tS (A.map rowD) (B.map rowD) ((mulM w (A.take i) B).map rowD) (ints (rowM w (A.getD i []) B)) A.length B.length i false false false false (((A.take i).all fun R => le9 (rowM w R B)) && le9 (rowM w (A.getD i []) B))
    have hlen : Nat.ble (lenOf 1 ((mulM w (A.take i) B).map rowD).length + 1) 1048576 = true := by
      rw [List.length_map, mulM, List.length_map, List.length_take]; exact Nat.ble_eq_true_of_le (by show min i A.length + 1 ≤ _; omega)
    have hrl : (rowM w (A.getD i []) B).length = w := by simp [rowM]
    rw [hlen, cond_true, hw', len_ints, Go.AE.lenOf_1, hrl, beq_no hw1] at hx
    have hn := (startF_seg k84_0 ha (by
      have e : (((A.take i).all fun R => le9 (rowM w R B)) && le9 ((List.range 0).map (entry (A.getD i []) B))) = ((A.take i).all fun R => le9 (rowM w R B)) := Bool.and_true _
      rw [e] at hl
      exact hl)).trans (nextF_done k84_0 roundD_plain hx)
    refine .nextF k84_0 (hn.trans ?_) (loop840 hA hm1 hm hR hB hw1 hw t (i + 1) (by omega))
    rw [ht, List.all_append, mulM, mulM, List.map_append, List.map_append]
    simp only [List.all_cons, List.all_nil, Bool.and_true, List.map_cons, List.map_nil]
    rw [show rowD (rowM w (A.getD i []) B) = .sl (ints (rowM w (A.getD i []) B)) w 1 false false by unfold rowD; rw [hrl]]
theorem c84 (hA1 : 1 ≤ A.length) (hA : A.length ≤ 100) (hm1 : 1 ≤ B.length) (hm : B.length ≤ 100) (hR : ∀ R ∈ A, R.length = B.length) (hB : ∀ b ∈ B, b.length = w) (hw1 : 1 ≤ w) (hw : w ≤ 100) :
    PureOK Try.prog 84 [matD A, matD B] (.tup [matD (mulM w A B), bD (A.all fun R => le9 (rowM w R B))]) := by
  refine ae_pure (evT_ok fun _ ds => iD (tS ds)) (fn := Try.f84) k84 (by kernel_rfl) (by kernel_rfl) ((startF_seg k84 (t84_h _ _ _ _ _ _ _ _ _ _) (loop840 hA hm1 hm hR hB hw1 hw A.length 0 (by omega))).trans (nextF_done k84 done_plain ((t84_e ..).trans ?_)))
  have hl : ((mulM w A B).map rowD).length = A.length := by simp [mulM]
  have hl2 : (mulM w A B).length = A.length := by simp [mulM]
  rw [hl, beq_no hA1, Go.AE.lenOf_1]
  unfold matD
  rw [hl2]
end
end Go.Proofs.Ytjfopbpkophoeaa

/- Chapter 06: R.Times 50. -/
namespace Go.Proofs.Ytjfopbpkophoeaa
open Go Go.AE
set_option maxRecDepth 100000
def s50 (A B H : List DV) (n m : Nat) (c z c2 z2 : Bool) (i : Int) : St := ⟨[(0, .d (DV.sl A n 1 c z)), (1, .d (DV.sl B m 1 c2 z2)), (5, AV.grow 0 1 false), (6, .d (iD i))], [.dc H], []⟩
def s502 (A B H Q : List DV) (n m w : Nat) (c z c2 z2 : Bool) (i j : Int) : St := ⟨[(0, .d (DV.sl A n 1 c z)), (1, .d (DV.sl B m 1 c2 z2)), (5, AV.grow 0 1 false), (6, .d (iD i)), (7, AV.row 1 0 w w 1 true), (8, .d (iD j))], [.dc H, .dc Q], []⟩
def s502x (A B H Q : List DV) (n m w : Nat) (c z c2 z2 : Bool) (i : Int) : St := ⟨[(0, .d (DV.sl A n 1 c z)), (1, .d (DV.sl B m 1 c2 z2)), (5, AV.grow 0 1 false), (6, .d (iD i)), (7, AV.row 1 0 w w 1 true)], [.dc H, .dc Q], []⟩
def s504 (A B H Q : List DV) (n m w : Nat) (c z c2 z2 : Bool) (i j h : Int) : St := ⟨[(0, .d (DV.sl A n 1 c z)), (1, .d (DV.sl B m 1 c2 z2)), (5, AV.grow 0 1 false), (6, .d (iD i)), (7, AV.row 1 0 w w 1 true), (8, .d (iD j)), (9, .d (iD h))], [.dc H, .dc Q], []⟩
theorem t50_h (A B : List DV) (n m : Nat) (c z c2 z2 : Bool) : startS aeC Ev.nil 50 0 Try.f50 none ⟨envOf 0 [.d (.sl A n 1 c z), .d (.sl B m 1 c2 z2)], [], []⟩ (heldD aeC 50 0) = some (0, s50 A B [] n m c z c2 z2 0) := by kernel_rfl
theorem t50_0 (A B H : List DV) (n m i : Nat) (c z c2 z2 : Bool) : startS aeC Ev.nil 50 0 Try.f50 (some 0) (s50 A B H n m c z c2 z2 i) (heldD aeC 50 0) =
  bif decide ((i : Int) < (n : Int)) then
    bif inRange 0 m then
      getS (nth B 0) fun cs0 n0 sz0 c0 nl0 =>
      bif nl0 || Nat.beq sz0 1 then
        bif decide (0 ≤ (n0 : Int)) && decide ((n0 : Int) ≤ (n0 : Int)) && decide ((n0 : Int) ≤ 1048576) && true then
          some (2, s502 A B H (List.flatten (List.replicate (Int.toNat (n0 : Int)) [iD 0])) n m (Int.toNat (n0 : Int)) c z c2 z2 i 0)
        else none
      else none
    else none
  else none := by kernel_rfl
theorem t50_0x (A B H : List DV) (n m : Nat) (c z c2 z2 : Bool) : startS aeC Ev.nil 50 0 Try.f50 (some 0) (s50 A B H n m c z c2 z2 n) (roundD aeC 50 0 0) =
  bif decide ((n : Int) < (n : Int)) then
    bif inRange 0 m then
      getS (nth B 0) fun cs0 n0 sz0 c0 nl0 =>
      bif nl0 || Nat.beq sz0 1 then
        bif decide (0 ≤ (n0 : Int)) && decide ((n0 : Int) ≤ (n0 : Int)) && decide ((n0 : Int) ≤ 1048576) && true then none
        else none
      else none
    else none
  else some (Ex.exit 0, (⟨[(5, AV.grow 0 1 false)], [.dc H], []⟩ : St)) := by kernel_rfl
theorem t50_2 (A B H Q : List DV) (n m w i j : Nat) (c z c2 z2 : Bool) : startS aeC Ev.nil 50 0 Try.f50 (some 2) (s502 A B H Q n m w c z c2 z2 i j) (heldD aeC 50 0) = bif decide ((j : Int) < (w : Int)) then some (4, s504 A B H Q n m w c z c2 z2 i j 0) else none := by kernel_rfl
theorem t50_2x (A B H Q : List DV) (n m w i j : Nat) (c z c2 z2 : Bool) : startS aeC Ev.nil 50 0 Try.f50 (some 2) (s502 A B H Q n m w c z c2 z2 i j) (roundD aeC 50 0 2) = bif decide ((j : Int) < (w : Int)) then none else some (Ex.exit 2, s502x A B H Q n m w c z c2 z2 i) := by kernel_rfl
theorem t50_4 (A B H Q : List DV) (n m w i j h : Nat) (c z c2 z2 : Bool) : startS aeC Ev.nil 50 0 Try.f50 (some 4) (s504 A B H Q n m w c z c2 z2 i j h) (roundD aeC 50 0 4) =
  bif decide ((h : Int) < (m : Int)) then
    bif inRange (j : Int) w && true then
      getI (nth Q (0 + Int.toNat (j : Int) * 1)) fun x0 =>
      bif inRange (i : Int) n then
        getS (nth A (Int.toNat (i : Int) * 1)) fun cs1 n1 sz1 c1 nl1 =>
        bif nl1 || Nat.beq sz1 1 then
          bif inRange (h : Int) n1 then
            getI (nth cs1 (Int.toNat (h : Int) * 1)) fun x2 =>
            bif inRange (h : Int) m then
              getS (nth B (Int.toNat (h : Int) * 1)) fun cs3 n3 sz3 c3 nl3 =>
              bif nl3 || Nat.beq sz3 1 then
                bif inRange (j : Int) n3 then
                  getI (nth cs3 (Int.toNat (j : Int) * 1)) fun x4 =>
                  bif inRange (j : Int) w && true then
                    bif Nat.ble (0 + Int.toNat (j : Int) * 1 + 1) (List.length Q) && true then
                      some (Ex.norm, s504 A B H (setNth Q (0 + Int.toNat (j : Int) * 1) (iD (IntKind.wrap IntKind.i64 (x0 + IntKind.wrap IntKind.i64 (x2 * x4))))) n m w c z c2 z2 i j (IntKind.wrap IntKind.i64 ((h : Int) + 1)))
                    else none
                  else none
                else none
              else none
            else none
          else none
        else none
      else none
    else none
  else some (Ex.exit 4, s502 A B H Q n m w c z c2 z2 i j) := by kernel_rfl
theorem t50_y (A B H Q : List DV) (n m w i j : Nat) (c z c2 z2 : Bool) : nextS aeC Ev.nil 50 0 Try.f50 (some 2) 4 (.exit 4) (s502 A B H Q n m w c z c2 z2 i j) (roundD aeC 50 0 2) = some (Ex.norm, s502 A B H Q n m w c z c2 z2 i (IntKind.wrap IntKind.i64 ((j : Int) + 1))) := by kernel_rfl
theorem t50_e (H : List DV) : nextS aeC Ev.nil 50 0 Try.f50 none 0 (.exit 0) ⟨[(5, AV.grow 0 1 false)], [.dc H], []⟩ (doneE aeC Try.f50 0 fun v h => freezeV h 4 v) = some (DV.sl H (lenOf 1 (List.length H)) 1 false (true && Nat.beq (List.length H) 0)) := by kernel_rfl
theorem t50_x1 (A B H : List DV) (x0 : Int) (n m i : Nat) (c z c2 z2 : Bool) : nextS aeC Ev.nil 50 0 Try.f50 (some 0) 2 (.exit 2) (s502x A B H (ints [x0]) n m 1 c z c2 z2 i) (roundD aeC 50 0 0) = bif Nat.ble (lenOf 1 H.length + 1) 1048576 then some (Ex.norm, s50 A B (H ++ [rowD [x0]]) n m c z c2 z2 (IntKind.wrap IntKind.i64 ((i : Int) + 1))) else none := by kernel_rfl
theorem t50_x2 (A B H : List DV) (x0 x1 : Int) (n m i : Nat) (c z c2 z2 : Bool) : nextS aeC Ev.nil 50 0 Try.f50 (some 0) 2 (.exit 2) (s502x A B H (ints [x0, x1]) n m 2 c z c2 z2 i) (roundD aeC 50 0 0) = bif Nat.ble (lenOf 1 H.length + 1) 1048576 then some (Ex.norm, s50 A B (H ++ [rowD [x0, x1]]) n m c z c2 z2 (IntKind.wrap IntKind.i64 ((i : Int) + 1))) else none := by kernel_rfl
theorem t50_x3 (A B H : List DV) (x0 x1 x2 : Int) (n m i : Nat) (c z c2 z2 : Bool) : nextS aeC Ev.nil 50 0 Try.f50 (some 0) 2 (.exit 2) (s502x A B H (ints [x0, x1, x2]) n m 3 c z c2 z2 i) (roundD aeC 50 0 0) = bif Nat.ble (lenOf 1 H.length + 1) 1048576 then some (Ex.norm, s50 A B (H ++ [rowD [x0, x1, x2]]) n m c z c2 z2 (IntKind.wrap IntKind.i64 ((i : Int) + 1))) else none := by kernel_rfl
theorem t50_x4 (A B H : List DV) (x0 x1 x2 x3 : Int) (n m i : Nat) (c z c2 z2 : Bool) : nextS aeC Ev.nil 50 0 Try.f50 (some 0) 2 (.exit 2) (s502x A B H (ints [x0, x1, x2, x3]) n m 4 c z c2 z2 i) (roundD aeC 50 0 0) = bif Nat.ble (lenOf 1 H.length + 1) 1048576 then some (Ex.norm, s50 A B (H ++ [rowD [x0, x1, x2, x3]]) n m c z c2 z2 (IntKind.wrap IntKind.i64 ((i : Int) + 1))) else none := by kernel_rfl
theorem t50_x5 (A B H : List DV) (x0 x1 x2 x3 x4 : Int) (n m i : Nat) (c z c2 z2 : Bool) : nextS aeC Ev.nil 50 0 Try.f50 (some 0) 2 (.exit 2) (s502x A B H (ints [x0, x1, x2, x3, x4]) n m 5 c z c2 z2 i) (roundD aeC 50 0 0) = bif Nat.ble (lenOf 1 H.length + 1) 1048576 then some (Ex.norm, s50 A B (H ++ [rowD [x0, x1, x2, x3, x4]]) n m c z c2 z2 (IntKind.wrap IntKind.i64 ((i : Int) + 1))) else none := by kernel_rfl
theorem t50_x (A B H : List DV) (n m i : Nat) (c z c2 z2 : Bool) : ∀ R : List Int, 1 ≤ R.length → R.length ≤ 5 → nextS aeC Ev.nil 50 0 Try.f50 (some 0) 2 (.exit 2) (s502x A B H (ints R) n m R.length c z c2 z2 i) (roundD aeC 50 0 0) =
  bif Nat.ble (lenOf 1 H.length + 1) 1048576 then some (Ex.norm, s50 A B (H ++ [rowD R]) n m c z c2 z2 (IntKind.wrap IntKind.i64 ((i : Int) + 1))) else none
  | [x0], _, _ => t50_x1 A B H x0 n m i c z c2 z2
  | [x0, x1], _, _ => t50_x2 A B H x0 x1 n m i c z c2 z2
  | [x0, x1, x2], _, _ => t50_x3 A B H x0 x1 x2 n m i c z c2 z2
  | [x0, x1, x2, x3], _, _ => t50_x4 A B H x0 x1 x2 x3 n m i c z c2 z2
  | [x0, x1, x2, x3, x4], _, _ => t50_x5 A B H x0 x1 x2 x3 x4 n m i c z c2 z2
theorem k50 : OkSeg Try.f50 none [0] := ⟨by kernel_rfl, by kernel_rfl, by decide⟩
theorem k50_0 : OkSeg Try.f50 (some 0) [2] := ⟨by kernel_rfl, by kernel_rfl, by decide⟩
theorem k50_2 : OkSeg Try.f50 (some 2) [4] := ⟨by kernel_rfl, by kernel_rfl, by decide⟩
theorem k50_4 : OkSeg Try.f50 (some 4) [] := ⟨by kernel_rfl, by kernel_rfl, by decide⟩
def partE (R : List Int) (B : List (List Int)) (j h : Nat) : Int := sumL ((List.range h).map (prodAt R B j))
theorem partE_succ (R : List Int) (B : List (List Int)) (j h : Nat) : partE R B j (h + 1) = IntKind.wrap .i64 (partE R B j h + prodAt R B j h) := by
  unfold partE sumL
  rw [List.range_succ, List.map_append, List.foldl_append]; rfl
/-- A row of which the first ones are made. -/
def midR (w : Nat) (R : List Int) (B : List (List Int)) (j : Nat) : List Int := (List.range w).map fun x => if x < j then entry R B x else 0
theorem midR_len (w : Nat) (R : List Int) (B : List (List Int)) (j : Nat) : (midR w R B j).length = w := by simp [midR]
theorem midR_at {w : Nat} {R : List Int} {B : List (List Int)} {j : Nat} (hj : j < w) : (midR w R B j).set j 0 = midR w R B j := by
  apply List.ext_getElem (by simp)
  intro n h1 h2
  rw [List.getElem_set]
  split
  · rename_i e; subst e; simp [midR]
  · rfl
theorem midR_set {w : Nat} {R : List Int} {B : List (List Int)} {j : Nat} : (midR w R B j).set j (entry R B j) = midR w R B (j + 1) := by
  apply List.ext_getElem (by simp [midR])
  intro n h1 h2
  rw [List.getElem_set]
  split
  · rename_i e; subst e; simp [midR]
  · rename_i e
    simp only [midR, List.getElem_map, List.getElem_range]
    by_cases h : n < j
    · rw [if_pos h, if_pos (by omega)]
    · rw [if_neg h, if_neg (by omega)]
theorem midR_0 (w : Nat) (R : List Int) (B : List (List Int)) : List.flatten (List.replicate w [iD 0]) = ints (midR w R B 0) := by
  rw [flat_rep]
  unfold ints midR
  rw [List.map_map]
  apply List.ext_getElem (by simp)
  intro n h1 h2
  simp
theorem midR_all (w : Nat) (R : List Int) (B : List (List Int)) : midR w R B w = rowM w R B := by
  unfold midR rowM
  apply List.map_congr_left
  intro x hx
  rw [if_pos (List.mem_range.1 hx)]
section
variable {A B : List (List Int)} {w : Nat}
theorem loop504 {H : List DV} {q : List Int} {i j : Nat} (hA : A.length ≤ 100) (hi : i < A.length) (hm : B.length ≤ 100) (hR : (A.getD i []).length = B.length) (hB : ∀ b ∈ B, b.length = w) (hw : w ≤ 100) (hq : q.length = w) (hj : j < w) : ∀ (t h : Nat), h + t = B.length →
    LoopAt aeC Ev.nil 50 0 Try.f50 4 (s504 (A.map rowD) (B.map rowD) H (ints (q.set j (partE (A.getD i []) B j h))) A.length B.length w false false false false i j h) (.exit 4) (s502 (A.map rowD) (B.map rowD) H (ints (q.set j (entry (A.getD i []) B j))) A.length B.length w false false false false i j)
  | 0, h, hh => by
    obtain rfl : h = B.length := by omega
    rw [show partE (A.getD i []) B j B.length = entry (A.getD i []) B j by unfold partE entry; rw [hR]]
    exact .out k50_4 (by simp) ((t50_4 ..).trans (cnd_neg (by omega)))
  | t + 1, h, hh => by
    have hb : (B.getD h []).length = w := hB _ (by rw [List.getD_eq_getElem?_getD, List.getElem?_eq_getElem (show h < B.length by omega)]; exact List.getElem_mem _)
    have hw' : IntKind.wrap .i64 ((h : Int) + 1) = ((h + 1 : Nat) : Int) := by rw [wrap64_o (by omega) (by omega)]; rfl
    have ha := t50_4 (A.map rowD) (B.map rowD) H (ints (q.set j (partE (A.getD i []) B j h))) A.length B.length w i j h false false false false
    rw [show Int.toNat (j : Int) * 1 = j by simp, show Int.toNat (i : Int) * 1 = i by simp, show Int.toNat (h : Int) * 1 = h by simp, hw', nth_mat hi, nth_mat (i := h) (by omega), Nat.zero_add, cnd_pos (p := (h : Int) < (B.length : Int)) (by omega),
      show rowD (A.getD i []) = .sl (ints (A.getD i [])) (A.getD i []).length 1 false false from rfl, show rowD (B.getD h []) = .sl (ints (B.getD h [])) (B.getD h []).length 1 false false from rfl] at ha
    simp only [getS_some, Nat.beq_refl, Bool.or_true, Bool.and_true, cond_true, show inRange (i : Int) A.length = true by simp [inRange]; omega, show inRange (h : Int) B.length = true by simp [inRange]; omega, show inRange (j : Int) w = true by simp [inRange]; omega] at ha
    rw [hR, hb, nth_ints_o (l := A.getD i []) (i := h) (by omega), nth_ints_o (l := B.getD h []) (i := j) (by omega), nth_ints_o (l := q.set j (partE (A.getD i []) B j h)) (i := j) (by simp; omega),
      show (q.set j (partE (A.getD i []) B j h)).getD j 0 = partE (A.getD i []) B j h by simp [List.getD_eq_getElem?_getD, hq, hj]] at ha
    simp only [getI_some, len_ints, List.length_set, hq, cond_true, show inRange (h : Int) B.length = true by simp [inRange]; omega, show inRange (j : Int) w = true by simp [inRange]; omega, show Nat.ble (j + 1) w = true from Nat.ble_eq_true_of_le hj] at ha
    rw [setNth_ints_o, List.set_set, show IntKind.wrap .i64 (partE (A.getD i []) B j h + IntKind.wrap .i64 ((A.getD i []).getD h 0 * (B.getD h []).getD j 0)) = partE (A.getD i []) B j (h + 1) from (partE_succ ..).symm] at ha
    exact .next k50_4 ha (loop504 hA hi hm hR hB hw hq hj t (h + 1) (by omega))
theorem loop502 {H : List DV} {i : Nat} (hA : A.length ≤ 100) (hi : i < A.length) (hm : B.length ≤ 100) (hR : (A.getD i []).length = B.length) (hB : ∀ b ∈ B, b.length = w) (hw : w ≤ 100) : ∀ (t j : Nat), j + t = w →
    LoopAt aeC Ev.nil 50 0 Try.f50 2 (s502 (A.map rowD) (B.map rowD) H (ints (midR w (A.getD i []) B j)) A.length B.length w false false false false i j) (.exit 2) (s502x (A.map rowD) (B.map rowD) H (ints (rowM w (A.getD i []) B)) A.length B.length w false false false false i)
  | 0, j, hj => by
    obtain rfl : j = w := by omega
    rw [midR_all]
    exact .out k50_2 (by simp) ((t50_2x ..).trans (cnd_neg (by omega)))
  | t + 1, j, hj => by
    have hjw : j < w := by omega
    have hw' : IntKind.wrap .i64 ((j : Int) + 1) = ((j + 1 : Nat) : Int) := by rw [wrap64_o (by omega) (by omega)]; rfl
    have hl := loop504 (H := H) (q := midR w (A.getD i []) B j) hA hi hm hR hB hw (midR_len ..) hjw B.length 0 (by omega)
    rw [show partE (A.getD i []) B j 0 = 0 from rfl, midR_at hjw, midR_set] at hl
    have hy := t50_y (A.map rowD) (B.map rowD) H (ints (midR w (A.getD i []) B (j + 1))) A.length B.length w i j false false false false
    rw [hw'] at hy
    exact .nextF k50_2 ((startF_seg k50_2 ((t50_2 ..).trans (cnd_pos (by omega))) hl).trans (nextF_done k50_2 roundD_plain hy)) (loop502 hA hi hm hR hB hw t (j + 1) (by omega))
theorem loop500 (hA : A.length ≤ 100) (hm1 : 1 ≤ B.length) (hm : B.length ≤ 100) (hR : ∀ R ∈ A, R.length = B.length) (hB : ∀ b ∈ B, b.length = w) (hw1 : 1 ≤ w) (hw : w ≤ 5) : ∀ (t i : Nat), i + t = A.length →
    LoopAt aeC Ev.nil 50 0 Try.f50 0 (s50 (A.map rowD) (B.map rowD) ((mulM w (A.take i) B).map rowD) A.length B.length false false false false i) (.exit 0) ⟨[(5, AV.grow 0 1 false)], [.dc ((mulM w A B).map rowD)], []⟩
  | 0, i, hi => by
    obtain rfl : i = A.length := by omega
    rw [List.take_of_length_le (Nat.le_refl _)]
    exact .out k50_0 (by simp) ((t50_0x ..).trans (cnd_neg (by omega)))
  | t + 1, i, hi => by
    have hlt : i < A.length := by omega
    have hRi : (A.getD i []).length = B.length := hR _ (by rw [List.getD_eq_getElem?_getD, List.getElem?_eq_getElem hlt]; exact List.getElem_mem _)
    have hb0 : (B.getD 0 []).length = w := hB _ (by rw [List.getD_eq_getElem?_getD, List.getElem?_eq_getElem (show 0 < B.length by omega)]; exact List.getElem_mem _)
    have ht : A.take (i + 1) = A.take i ++ [A.getD i []] := by
      rw [List.take_add_one, List.getD_eq_getElem?_getD, List.getElem?_eq_getElem hlt]; rfl
    have hw' : IntKind.wrap .i64 ((i : Int) + 1) = ((i + 1 : Nat) : Int) := by rw [wrap64_o (by omega) (by omega)]; rfl
    have ha := t50_0 (A.map rowD) (B.map rowD) ((mulM w (A.take i) B).map rowD) A.length B.length i false false false false
    rw [nth_mat (i := 0) (by omega), cnd_pos (p := (i : Int) < (A.length : Int)) (by omega), show rowD (B.getD 0 []) = .sl (ints (B.getD 0 [])) (B.getD 0 []).length 1 false false from rfl] at ha
    simp only [getS_some, Nat.beq_refl, Bool.or_true, cond_true, show inRange 0 B.length = true by simp [inRange]; omega, hb0, Int.toNat_natCast] at ha
    rw [decide_eq_true (p := (0 : Int) ≤ (w : Int)) (by omega), decide_eq_true (p := (w : Int) ≤ (w : Int)) (by omega), decide_eq_true (p := (w : Int) ≤ 1048576) (by omega), midR_0 w (A.getD i []) B] at ha
    have hl := loop502 (H := (mulM w (A.take i) B).map rowD) hA hlt hm hRi hB (by omega) w 0 (by omega)
    have hrl : (rowM w (A.getD i []) B).length = w := by simp [rowM]
    have hx := t50_x (A.map rowD) (B.map rowD) ((mulM w (A.take i) B).map rowD) A.length B.length i false false false false (rowM w (A.getD i []) B) (by omega) (by omega)
    have hlen : Nat.ble (lenOf 1 ((mulM w (A.take i) B).map rowD).length + 1) 1048576 = true := by
      rw [List.length_map, mulM, List.length_map, List.length_take]; exact Nat.ble_eq_true_of_le (by show min i A.length + 1 ≤ _; omega)
    rw [hlen, cond_true, hw', hrl] at hx
    have hn := (startF_seg k50_0 ha hl).trans (nextF_done k50_0 roundD_plain hx)
    refine .nextF k50_0 (hn.trans ?_) (loop500 hA hm1 hm hR hB hw1 hw t (i + 1) (by omega))
    rw [ht, mulM, mulM, List.map_append, List.map_append]
    rfl
theorem c50 (hA1 : 1 ≤ A.length) (hA : A.length ≤ 100) (hm1 : 1 ≤ B.length) (hm : B.length ≤ 100) (hR : ∀ R ∈ A, R.length = B.length) (hB : ∀ b ∈ B, b.length = w) (hw1 : 1 ≤ w) (hw : w ≤ 5) : PureOK Try.prog 50 [matD A, matD B] (matD (mulM w A B)) := by
  refine ae_pure EvOK.nil (fn := Try.f50) k50 (by kernel_rfl) (by kernel_rfl) ((startF_seg k50 (t50_h _ _ _ _ _ _ _ _) (loop500 hA hm1 hm hR hB hw1 hw A.length 0 (by omega))).trans (nextF_done k50 done_plain ((t50_e ..).trans ?_)))
  have hl : ((mulM w A B).map rowD).length = A.length := by simp [mulM]
  have hl2 : (mulM w A B).length = A.length := by simp [mulM]
  rw [hl, beq_no hA1, Go.AE.lenOf_1]
  unfold matD
  rw [hl2]
end
end Go.Proofs.Ytjfopbpkophoeaa

/- Chapter 06: Both 48. -/
namespace Go.Proofs.Ytjfopbpkophoeaa
open Go Go.AE
set_option maxRecDepth 100000
def flagB (X : List (List Int × Bool)) : Prop := ∀ r ∈ X, r.2 = r.1.isEmpty
def fsts (X : List (List Int × Bool)) : List (List Int) := X.map Prod.fst
def sD (X : List (List Int × Bool)) : DV := .sl (rowsD X) X.length 1 false X.isEmpty
theorem fsts_len (X : List (List Int × Bool)) : (fsts X).length = X.length := by simp [fsts]
theorem rowsD_fst {X : List (List Int × Bool)} (h : flagB X) (hn : ∀ r ∈ X, 1 ≤ r.1.length) : rowsD X = (fsts X).map rowD := by
  unfold rowsD fsts
  rw [List.map_map]
  apply List.map_congr_left
  intro r hr
  have h1 := hn r hr
  have h2 := h r hr
  have h3 : r.2 = false := by rw [h2]; cases q : r.1 with
    | nil => rw [q] at h1; simp at h1
    | cons _ _ => rfl
  show DV.sl (ints r.1) r.1.length 1 false r.2 = rowD r.1
  rw [h3]; rfl
theorem sD_mat {X : List (List Int × Bool)} (h : flagB X) (hn : ∀ r ∈ X, 1 ≤ r.1.length) (h1 : 1 ≤ X.length) : sD X = matD (fsts X) := by
  unfold sD matD
  rw [rowsD_fst h hn, fsts_len]
  cases X with
  | nil => simp at h1
  | cons _ _ => rfl
theorem tab_facts {X : List (List Int × Bool)} {k m : Int} (h : tabB X k m = true) : (∀ r ∈ X, (r.1.length : Int) = k ∧ inM m r.1 = true) ∧ 1 ≤ X.length ∧ X.length ≤ 5 ∧ 1 ≤ k ∧ k ≤ 5 := by
  simp only [tabB, rowB, Bool.and_eq_true, decide_eq_true_eq, List.all_eq_true] at h
  exact ⟨h.1, by omega, by omega, h.2.2.2.1, h.2.2.2.2⟩
/-- Rows, out of data. -/
def rowsU : List DV → List (List Int × Bool)
  | .sl cs _ _ _ z :: r => (unI cs, z) :: rowsU r
  | _ => []
theorem rowsU_D : ∀ X : List (List Int × Bool), rowsU (rowsD X) = X
  | [] => rfl
  | (r, z) :: X => by
    show (unI (ints r), z) :: rowsU (rowsD X) = _
    rw [unI_ints, rowsU_D X]
def argR : List DV → List (List Int × Bool)
  | .sl cs _ _ _ _ :: _ => rowsU cs
  | _ => []
theorem argR_D (X : List (List Int × Bool)) (n sz : Nat) (c z : Bool) (r : List DV) : argR (.sl (rowsD X) n sz c z :: r) = X := rowsU_D X
def argK : List DV → Int
  | _ :: .int _ k :: _ => k
  | _ => 0
def mulW (X U : List (List Int × Bool)) : List (List Int) := mulM X.length (fsts X) (fsts U)
def okB (M : List (List Int)) : Bool := M.all le9
def badB (e : Int) : DV := .tup [.agg [.sl [] 0 0 false true, .sl [] 0 0 false true], iD e]
def goodB (X U : List (List Int × Bool)) : Bool := decide (1 ≤ X.length) && (tabB X (X.getD 0 ([], false)).1.length 4 && (decide (U.length = (X.getD 0 ([], false)).1.length) && tabB U X.length 4))
/-- What Both answers. -/
def bothD (X U : List (List Int × Bool)) : DV := bif goodB X U then (bif okB (mulW X U) && okB (mulW U X) then .tup [.agg [matD (mulW X U), matD (mulW U X)], iD 0] else badB 8) else badB 1
structure TbB where
  G : List DV → Bool
  P : List DV → List DV
  N : List DV → Nat
  O : List DV → Bool
def iB (T : TbB) (f : Nat) (ds : List DV) : DV := match f with
  | 83 => bD (T.G ds)
  | _ => .tup [.sl (T.P ds) (T.N ds) 1 false false, bD (T.O ds)]
theorem t48 (ok : Nat → List DV → Bool) (T : TbB) (A U : List DV) (n m : Nat) (c z c2 z2 : Bool) : pureE aeC (evT ok (iB T)) 30 48 Try.f48 [.sl A n 1 c z, .sl U m 1 c2 z2] =
  bif decide ((n : Int) = 0) then some (badB 1)
  else
    bif inRange 0 n then
      getS (nth A 0) fun cs0 n0 sz0 c0 nl0 =>
      bif nl0 || Nat.beq sz0 1 then
        bif ok 83 [DV.sl A n 1 c z, iD (n0 : Int)] then
          bif !TbB.G T [DV.sl A n 1 c z, iD (n0 : Int)] then some (badB 1)
          else
            bif inRange 0 n then
              getS (nth A 0) fun cs1 n1 sz1 c1 nl1 =>
              bif nl1 || Nat.beq sz1 1 then
                bif !decide ((m : Int) = (n1 : Int)) then some (badB 1)
                else
                  bif ok 83 [DV.sl U m 1 c2 z2, iD (n : Int)] then
                    bif !TbB.G T [DV.sl U m 1 c2 z2, iD (n : Int)] then some (badB 1)
                    else
                      bif ok 84 [DV.sl A n 1 c z, DV.sl U m 1 c2 z2] then
                        bif ok 84 [DV.sl U m 1 c2 z2, DV.sl A n 1 c z] then
                          bif !TbB.O T [DV.sl A n 1 c z, DV.sl U m 1 c2 z2] then some (badB 8)
                          else
                            bif !TbB.O T [DV.sl U m 1 c2 z2, DV.sl A n 1 c z] then some (badB 8)
                            else
                              some (DV.tup [DV.agg [DV.sl (TbB.P T [DV.sl A n 1 c z, DV.sl U m 1 c2 z2]) (TbB.N T [DV.sl A n 1 c z, DV.sl U m 1 c2 z2]) 1 false false, DV.sl (TbB.P T [DV.sl U m 1 c2 z2, DV.sl A n 1 c z]) (TbB.N T [DV.sl U m 1 c2 z2, DV.sl A n 1 c z]) 1 false false], iD 0])
                        else none
                      else none
                  else none
              else none
            else none
        else none
      else none
    else none := by kernel_rfl
def tbB : TbB where
  G ds := tabB (argR ds) (argK ds) 4
  P ds := (mulW (argR ds) (argR ds.tail)).map rowD
  N ds := (mulW (argR ds) (argR ds.tail)).length
  O ds := okB (mulW (argR ds) (argR ds.tail))
theorem g83 {X : List (List Int × Bool)} (hX : X.length ≤ 100) (c z : Bool) (k : Int) : okS (iB tbB) 83 [.sl (rowsD X) X.length 1 c z, iD k] = true := okS_is (by
  show PureOK Try.prog 83 _ (bD (tabB (argR (.sl (rowsD X) X.length 1 c z :: [iD k])) k 4))
  rw [argR_D]; exact c83 hX)
/-- The facts of two tables that can be multiplied in both orders. -/
theorem good_mul {X U : List (List Int × Bool)} (fX : flagB X) (fU : flagB U) (h1 : tabB X (U.length : Int) 4 = true) (h2 : tabB U (X.length : Int) 4 = true) :
    sD X = matD (fsts X) ∧ sD U = matD (fsts U) ∧ PureOK Try.prog 84 [sD X, sD U] (.tup [matD (mulW X U), bD (okB (mulW X U))]) ∧ PureOK Try.prog 50 [sD X, sD U] (matD (mulW X U)) := by
  obtain ⟨a1, a2, a3, a4, a5⟩ := tab_facts h1
  obtain ⟨b1, b2, b3, b4, b5⟩ := tab_facts h2
  have e1 := sD_mat fX (fun r hr => by have := (a1 r hr).1; omega) a2
  have e2 := sD_mat fU (fun r hr => by have := (b1 r hr).1; omega) b2
  have hR : ∀ R ∈ fsts X, R.length = (fsts U).length := fun R hR => by
    obtain ⟨r, hr, rfl⟩ := List.mem_map.1 hR
    have := (a1 r hr).1; rw [fsts_len]; omega
  have hB : ∀ b ∈ fsts U, b.length = X.length := fun R hR => by
    obtain ⟨r, hr, rfl⟩ := List.mem_map.1 hR
    have := (b1 r hr).1; omega
  refine ⟨e1, e2, ?_, ?_⟩
  · rw [e1, e2]
    have := c84 (A := fsts X) (B := fsts U) (w := X.length) (by rw [fsts_len]; omega) (by rw [fsts_len]; omega) (by rw [fsts_len]; omega) (by rw [fsts_len]; omega) hR hB a2 (by omega)
    have e : okB (mulW X U) = (fsts X).all fun R => le9 (rowM X.length R (fsts U)) := by
      unfold okB mulW mulM; rw [List.all_map]; rfl
    rw [e]; exact this
  · rw [e1, e2]
    exact c50 (A := fsts X) (B := fsts U) (w := X.length) (by rw [fsts_len]; omega) (by rw [fsts_len]; omega) (by rw [fsts_len]; omega) (by rw [fsts_len]; omega) hR hB a2 a3
theorem g84 {X U : List (List Int × Bool)} (fX : flagB X) (fU : flagB U) (h1 : tabB X (U.length : Int) 4 = true) (h2 : tabB U (X.length : Int) 4 = true) : okS (iB tbB) 84 [sD X, sD U] = true := okS_is (by
  show PureOK Try.prog 84 _ (.tup [.sl ((mulW (argR (sD X :: [sD U])) (argR (sD U :: []))).map rowD) (mulW (argR (sD X :: [sD U])) (argR (sD U :: []))).length 1 false false, bD (okB (mulW (argR (sD X :: [sD U])) (argR (sD U :: []))))])
  rw [show argR (sD X :: [sD U]) = X from argR_D .., show argR (sD U :: []) = U from argR_D ..]
  exact (good_mul fX fU h1 h2).2.2.1)
theorem c48 {X U : List (List Int × Bool)} (hX : X.length ≤ 100) (hU : U.length ≤ 100) (fX : flagB X) (fU : flagB U) : PureOK Try.prog 48 [sD X, sD U] (bothD X U) := by
  refine ae_direct (evT_ok (iB tbB)) 30 (by kernel_rfl : tget aeF 48 = some Try.f48) ?_
  have h := t48 (okS (iB tbB)) tbB (rowsD X) (rowsD U) X.length U.length false X.isEmpty false U.isEmpty
  by_cases n0 : X.length = 0
  · rw [cnd_pos (by omega)] at h
    refine h.trans ?_
    unfold bothD goodB
    rw [decide_eq_false (p := 1 ≤ X.length) (by omega)]; rfl
  rw [cnd_neg (by omega), nth_rows (X := X) (i := 0) (by omega)] at h
  simp only [getS_some, Nat.beq_refl, Bool.or_true, cond_true, show inRange 0 X.length = true by simp [inRange]; omega, g83 hX, g83 hU] at h
  have eG : ∀ (Y : List (List Int × Bool)) (n : Nat) (c z : Bool) (k : Int), tbB.G [.sl (rowsD Y) n 1 c z, iD k] = tabB Y k 4 := fun Y n c z k => by
    show tabB (argR (.sl (rowsD Y) n 1 c z :: [iD k])) k 4 = _
    rw [argR_D]
  rw [eG, eG] at h
  show _ = some (bothD X U)
  unfold bothD goodB
  rw [decide_eq_true (p := 1 ≤ X.length) (by omega)]
  cases h1 : tabB X ((X.getD 0 ([], false)).1.length : Int) 4 with
  | false => rw [h1] at h; exact h
  | true =>
    rw [h1] at h
    by_cases h2 : U.length = (X.getD 0 ([], false)).1.length
    · rw [decide_eq_true (p := (U.length : Int) = ((X.getD 0 ([], false)).1.length : Int)) (by omega)] at h
      rw [decide_eq_true h2]
      cases h3 : tabB U (X.length : Int) 4 with
      | false => rw [h3] at h; exact h
      | true =>
        rw [h3] at h
        rw [← h2] at h1
        have g1 := g84 fX fU h1 h3
        have g2 := g84 fU fX h3 h1
        unfold sD at g1 g2
        rw [g1, g2] at h
        have eO : ∀ (Y Z : List (List Int × Bool)) (n m : Nat) (c z c2 z2 : Bool), tbB.O [.sl (rowsD Y) n 1 c z, .sl (rowsD Z) m 1 c2 z2] = okB (mulW Y Z) := fun Y Z n m c z c2 z2 => by
          show okB (mulW (argR (.sl (rowsD Y) n 1 c z :: _)) (argR (.sl (rowsD Z) m 1 c2 z2 :: []))) = _
          rw [argR_D, argR_D]
        have eP : ∀ (Y Z : List (List Int × Bool)) (n m : Nat) (c z c2 z2 : Bool), tbB.P [.sl (rowsD Y) n 1 c z, .sl (rowsD Z) m 1 c2 z2] = (mulW Y Z).map rowD := fun Y Z n m c z c2 z2 => by
          show (mulW (argR (.sl (rowsD Y) n 1 c z :: _)) (argR (.sl (rowsD Z) m 1 c2 z2 :: []))).map rowD = _
          rw [argR_D, argR_D]
        have eN : ∀ (Y Z : List (List Int × Bool)) (n m : Nat) (c z c2 z2 : Bool), tbB.N [.sl (rowsD Y) n 1 c z, .sl (rowsD Z) m 1 c2 z2] = (mulW Y Z).length := fun Y Z n m c z c2 z2 => by
          show (mulW (argR (.sl (rowsD Y) n 1 c z :: _)) (argR (.sl (rowsD Z) m 1 c2 z2 :: []))).length = _
          rw [argR_D, argR_D]
        rw [eO, eO, eP, eP, eN, eN] at h
        refine h.trans ?_
        cases okB (mulW X U) <;> cases okB (mulW U X) <;> rfl
    · rw [decide_eq_false (p := (U.length : Int) = ((X.getD 0 ([], false)).1.length : Int)) (by omega)] at h
      rw [decide_eq_false h2]
      exact h
end Go.Proofs.Ytjfopbpkophoeaa

/- Chapter 06: R.Check 51, table 52. -/
namespace Go.Proofs.Ytjfopbpkophoeaa
open Go Go.AE
set_option maxRecDepth 100000
/-! ### Check -/
theorem t51_h (ok : Nat → List DV → Bool) (b : Bool) (A : List DV) (n : Nat) (c z : Bool) : pureE aeC (evT ok fun _ _ => bD b) 30 51 Try.f51 [.sl A n 1 c z] = bif ok 49 [DV.sl A n 1 c z, iD (n : Int), iD 9] then some (bD b) else none := by kernel_rfl
theorem c51 {X : List (List Int × Bool)} {c z : Bool} (hX : smallX X) : PureOK Try.prog 51 [.sl (rowsD X) X.length 1 c z] (bD (tabB X X.length 9)) :=
  ae_direct (evT_ok fun _ _ => bD (tabB X X.length 9)) 30 (by kernel_rfl : tget aeF 51 = some Try.f51) ((t51_h ..).trans (cond_is' (okS_is (c49 hX))))
def plain (M : List (List Int)) : List (List Int × Bool) := M.map fun r => (r, false)
theorem plain_len (M : List (List Int)) : (plain M).length = M.length := by simp [plain]
theorem rowsD_plain (M : List (List Int)) : rowsD (plain M) = M.map rowD := by
  unfold rowsD plain
  rw [List.map_map]; rfl
theorem sumL_b : ∀ (l : List Int) (s : Int) (n : Nat), (∀ x ∈ l, 0 ≤ x ∧ x ≤ 16) → 0 ≤ s → s ≤ 16 * n → n + l.length ≤ 1000 → 0 ≤ l.foldl (fun s x => IntKind.wrap .i64 (s + x)) s
  | [], s, n, _, h0, _, _ => h0
  | x :: l, s, n, hl, h0, h1, h2 => by
    have hx := hl x (List.mem_cons_self ..)
    simp only [List.length_cons] at h2
    rw [List.foldl_cons, wrap64_o (by omega) (by omega)]
    exact sumL_b l (s + x) (n + 1) (fun y hy => hl y (List.mem_cons_of_mem _ hy)) (by omega) (by omega) (by omega)
theorem getD_mem_i' {r : List Int} {j : Nat} (h : j < r.length) : r.getD j 0 ∈ r := by
  rw [List.getD_eq_getElem?_getD, List.getElem?_eq_getElem h]; exact List.getElem_mem _
theorem getD_in {l : List Int} (h : inM 4 l = true) (j : Nat) : 0 ≤ l.getD j 0 ∧ l.getD j 0 ≤ 4 := by
  by_cases hj : j < l.length
  · have := List.all_eq_true.1 h _ (getD_mem_i' hj)
    simpa using this
  · rw [List.getD_eq_getElem?_getD, List.getElem?_eq_none (by omega)]; simp
theorem prod_b {a b : Int} (h1 : 0 ≤ a ∧ a ≤ 4) (h2 : 0 ≤ b ∧ b ≤ 4) : 0 ≤ a * b ∧ a * b ≤ 16 := by
  obtain ⟨a0, a4⟩ := h1
  obtain ⟨b0, b4⟩ := h2
  rcases (show a = 0 ∨ a = 1 ∨ a = 2 ∨ a = 3 ∨ a = 4 by omega) with rfl | rfl | rfl | rfl | rfl <;> omega
theorem entry_pos {R : List Int} {B : List (List Int)} (hR : inM 4 R = true) (hB : ∀ b ∈ B, inM 4 b = true) (hl : R.length ≤ 100) (j : Nat) : 0 ≤ entry R B j := by
  unfold entry sumL
  refine sumL_b _ 0 0 (fun x hx => ?_) (by omega) (by omega) (by simp; omega)
  obtain ⟨y, _, rfl⟩ := List.mem_map.1 hx
  unfold prodAt
  have h1 := getD_in hR y
  have h2 : 0 ≤ (B.getD y []).getD j 0 ∧ (B.getD y []).getD j 0 ≤ 4 := by
    by_cases hy : y < B.length
    · refine getD_in (hB _ ?_) j
      rw [List.getD_eq_getElem?_getD, List.getElem?_eq_getElem hy]; exact List.getElem_mem _
    · rw [show B.getD y [] = [] by rw [List.getD_eq_getElem?_getD, List.getElem?_eq_none (by omega)]; rfl]; simp
  have := prod_b h1 h2
  rw [wrap64_o (by omega) (by omega)]
  exact this
theorem mul_check {X U : List (List Int × Bool)} (h1 : tabB X (U.length : Int) 4 = true) (h2 : tabB U (X.length : Int) 4 = true) : tabB (plain (mulW X U)) ((mulW X U).length : Int) 9 = okB (mulW X U) := by
  obtain ⟨a1, a2, a3, a4, a5⟩ := tab_facts h1
  obtain ⟨b1, b2, b3, b4, b5⟩ := tab_facts h2
  have hl : (mulW X U).length = X.length := by simp [mulW, mulM, fsts]
  unfold tabB
  rw [plain_len, hl, decide_eq_true (p := 1 ≤ (X.length : Int)) (by omega), decide_eq_true (p := (X.length : Int) ≤ 5) (by omega)]
  simp only [Bool.and_true]
  unfold okB plain
  rw [List.all_map]
  have hr : ∀ r ∈ mulW X U, rowB (X.length : Int) 9 r = le9 r := fun r hr => by
    obtain ⟨R, hR, rfl⟩ := List.mem_map.1 hr
    obtain ⟨q, hq, rfl⟩ := List.mem_map.1 hR
    have hq' := a1 q hq
    unfold rowB inM le9
    rw [decide_eq_true (p := ((rowM X.length q.1 (fsts U)).length : Int) = (X.length : Int)) (by simp [rowM]), Bool.true_and]
    unfold rowM
    rw [List.all_map, List.all_map]
    congr 1
    funext x
    show (decide (0 ≤ entry q.1 (fsts U) x) && decide (entry q.1 (fsts U) x ≤ 9)) = decide (entry q.1 (fsts U) x ≤ 9)
    rw [decide_eq_true (p := 0 ≤ entry q.1 (fsts U) x) (entry_pos hq'.2 (fun b hb => by
      obtain ⟨p, hp, rfl⟩ := List.mem_map.1 hb
      exact (b1 p hp).2) (by omega) x), Bool.true_and]
  rw [Bool.eq_iff_iff, List.all_eq_true, List.all_eq_true]
  exact ⟨fun h r hq => (hr r hq).symm.trans (h r hq), fun h r hq => (hr r hq).trans (h r hq)⟩
end Go.Proofs.Ytjfopbpkophoeaa

/- Chapter 06: table 52. -/
namespace Go.Proofs.Ytjfopbpkophoeaa
open Go Go.AE
set_option maxRecDepth 100000
def s52 (A : List DV) (n : Nat) (c z : Bool) (k m : Nat) (H : List DV) (i : Int) : St := ⟨[(0, .d (DV.sl A n 1 c z)), (1, .d (iD (k : Int))), (2, .d (iD (m : Int))), (7, AV.grow 0 1 false), (8, .d (iD i))], [.dc H], []⟩
def s522 (A : List DV) (n : Nat) (c z : Bool) (k m : Nat) (H Q : List DV) (i j : Int) : St := ⟨[(0, .d (DV.sl A n 1 c z)), (1, .d (iD (k : Int))), (2, .d (iD (m : Int))), (7, AV.grow 0 1 false), (8, .d (iD i)), (9, AV.row 1 0 m m 1 true), (10, .d (iD j))], [.dc H, .dc Q], []⟩
def s522x (A : List DV) (n : Nat) (c z : Bool) (k m : Nat) (H Q : List DV) (i : Int) : St := ⟨[(0, .d (DV.sl A n 1 c z)), (1, .d (iD (k : Int))), (2, .d (iD (m : Int))), (7, AV.grow 0 1 false), (8, .d (iD i)), (9, AV.row 1 0 m m 1 true)], [.dc H, .dc Q], []⟩
theorem t52_h (A : List DV) (n : Nat) (c z : Bool) (k m : Nat) : startS aeC Ev.nil 52 0 Try.f52 none ⟨envOf 0 [.d (.sl A n 1 c z), .d (iD (k : Int)), .d (iD (m : Int))], [], []⟩ (heldD aeC 52 0) = some (0, s52 A n c z k m [] 0) := by kernel_rfl
theorem t52_0 (A : List DV) (n i : Nat) (c z : Bool) (k m : Nat) (H : List DV) : startS aeC Ev.nil 52 0 Try.f52 (some 0) (s52 A n c z k m H i) (heldD aeC 52 0) =
  bif decide ((i : Int) < (k : Int)) then
    bif decide (0 ≤ (m : Int)) && decide ((m : Int) ≤ (m : Int)) && decide ((m : Int) ≤ 1048576) && true then
      some (2, s522 A n c z k (Int.toNat (m : Int)) H (List.flatten (List.replicate (Int.toNat (m : Int)) [iD 0])) i 0)
    else none
  else none := by kernel_rfl
theorem t52_0x (A : List DV) (n : Nat) (c z : Bool) (k m : Nat) (H : List DV) : startS aeC Ev.nil 52 0 Try.f52 (some 0) (s52 A n c z k m H k) (roundD aeC 52 0 0) =
  bif decide ((k : Int) < (k : Int)) then
    bif decide (0 ≤ (m : Int)) && decide ((m : Int) ≤ (m : Int)) && decide ((m : Int) ≤ 1048576) && true then none else none
  else some (Ex.exit 0, (⟨[(7, AV.grow 0 1 false)], [.dc H], []⟩ : St)) := by kernel_rfl
theorem t52_2 (A H Q : List DV) (n i k m j : Nat) (c z : Bool) : startS aeC Ev.nil 52 0 Try.f52 (some 2) (s522 A n c z k m H Q i j) (roundD aeC 52 0 2) =
  bif decide ((j : Int) < (m : Int)) then
    bif decide ((i : Int) < (n : Int)) then
      bif inRange (i : Int) n then
        getS (nth A (Int.toNat (i : Int) * 1)) fun cs0 n0 sz0 c0 nl0 =>
        bif nl0 || Nat.beq sz0 1 then
          bif decide ((j : Int) < (n0 : Int)) then
            bif inRange (i : Int) n then
              getS (nth A (Int.toNat (i : Int) * 1)) fun cs1 n1 sz1 c1 nl1 =>
              bif nl1 || Nat.beq sz1 1 then
                bif inRange (j : Int) n1 then
                  getI (nth cs1 (Int.toNat (j : Int) * 1)) fun x2 =>
                  bif inRange (j : Int) m && true then
                    bif Nat.ble (0 + Int.toNat (j : Int) * 1 + 1) (List.length Q) && true then
                      some (Ex.norm, s522 A n c z k m H (setNth Q (0 + Int.toNat (j : Int) * 1) (iD (IntKind.wrap IntKind.i64 (Int.tmod (IntKind.wrap IntKind.u64 x2) 3)))) i (IntKind.wrap IntKind.i64 ((j : Int) + 1)))
                    else none
                  else none
                else none
              else none
            else none
          else some (Ex.exit 2, s522x A n c z k m H Q i)
        else none
      else none
    else some (Ex.exit 2, s522x A n c z k m H Q i)
  else some (Ex.exit 2, s522x A n c z k m H Q i) := by kernel_rfl
theorem t52_e (H : List DV) : nextS aeC Ev.nil 52 0 Try.f52 none 0 (.exit 0) ⟨[(7, AV.grow 0 1 false)], [.dc H], []⟩ (doneE aeC Try.f52 0 fun v h => freezeV h 4 v) = some (DV.sl H (lenOf 1 (List.length H)) 1 false (true && Nat.beq (List.length H) 0)) := by kernel_rfl
theorem t52_x1 (A H : List DV) (x0 : Int) (n i k : Nat) (c z : Bool) : nextS aeC Ev.nil 52 0 Try.f52 (some 0) 2 (.exit 2) (s522x A n c z k 1 H (ints [x0]) i) (roundD aeC 52 0 0) = bif Nat.ble (lenOf 1 H.length + 1) 1048576 then some (Ex.norm, s52 A n c z k 1 (H ++ [rowD [x0]]) (IntKind.wrap IntKind.i64 ((i : Int) + 1))) else none := by kernel_rfl
theorem t52_x2 (A H : List DV) (x0 x1 : Int) (n i k : Nat) (c z : Bool) : nextS aeC Ev.nil 52 0 Try.f52 (some 0) 2 (.exit 2) (s522x A n c z k 2 H (ints [x0, x1]) i) (roundD aeC 52 0 0) = bif Nat.ble (lenOf 1 H.length + 1) 1048576 then some (Ex.norm, s52 A n c z k 2 (H ++ [rowD [x0, x1]]) (IntKind.wrap IntKind.i64 ((i : Int) + 1))) else none := by kernel_rfl
theorem t52_x3 (A H : List DV) (x0 x1 x2 : Int) (n i k : Nat) (c z : Bool) : nextS aeC Ev.nil 52 0 Try.f52 (some 0) 2 (.exit 2) (s522x A n c z k 3 H (ints [x0, x1, x2]) i) (roundD aeC 52 0 0) = bif Nat.ble (lenOf 1 H.length + 1) 1048576 then some (Ex.norm, s52 A n c z k 3 (H ++ [rowD [x0, x1, x2]]) (IntKind.wrap IntKind.i64 ((i : Int) + 1))) else none := by kernel_rfl
theorem t52_x4 (A H : List DV) (x0 x1 x2 x3 : Int) (n i k : Nat) (c z : Bool) : nextS aeC Ev.nil 52 0 Try.f52 (some 0) 2 (.exit 2) (s522x A n c z k 4 H (ints [x0, x1, x2, x3]) i) (roundD aeC 52 0 0) = bif Nat.ble (lenOf 1 H.length + 1) 1048576 then some (Ex.norm, s52 A n c z k 4 (H ++ [rowD [x0, x1, x2, x3]]) (IntKind.wrap IntKind.i64 ((i : Int) + 1))) else none := by kernel_rfl
theorem t52_x5 (A H : List DV) (x0 x1 x2 x3 x4 : Int) (n i k : Nat) (c z : Bool) : nextS aeC Ev.nil 52 0 Try.f52 (some 0) 2 (.exit 2) (s522x A n c z k 5 H (ints [x0, x1, x2, x3, x4]) i) (roundD aeC 52 0 0) = bif Nat.ble (lenOf 1 H.length + 1) 1048576 then some (Ex.norm, s52 A n c z k 5 (H ++ [rowD [x0, x1, x2, x3, x4]]) (IntKind.wrap IntKind.i64 ((i : Int) + 1))) else none := by kernel_rfl
theorem t52_x (A H : List DV) (n i k : Nat) (c z : Bool) : ∀ R : List Int, 1 ≤ R.length → R.length ≤ 5 → nextS aeC Ev.nil 52 0 Try.f52 (some 0) 2 (.exit 2) (s522x A n c z k R.length H (ints R) i) (roundD aeC 52 0 0) =
  bif Nat.ble (lenOf 1 H.length + 1) 1048576 then some (Ex.norm, s52 A n c z k R.length (H ++ [rowD R]) (IntKind.wrap IntKind.i64 ((i : Int) + 1))) else none
  | [x0], _, _ => t52_x1 A H x0 n i k c z
  | [x0, x1], _, _ => t52_x2 A H x0 x1 n i k c z
  | [x0, x1, x2], _, _ => t52_x3 A H x0 x1 x2 n i k c z
  | [x0, x1, x2, x3], _, _ => t52_x4 A H x0 x1 x2 x3 n i k c z
  | [x0, x1, x2, x3, x4], _, _ => t52_x5 A H x0 x1 x2 x3 x4 n i k c z
theorem k52 : OkSeg Try.f52 none [0] := ⟨by kernel_rfl, by kernel_rfl, by decide⟩
theorem k52_0 : OkSeg Try.f52 (some 0) [2] := ⟨by kernel_rfl, by kernel_rfl, by decide⟩
theorem k52_2 : OkSeg Try.f52 (some 2) [] := ⟨by kernel_rfl, by kernel_rfl, by decide⟩
section
variable {Y : List (List Int × Bool)} {k m : Nat} {c z : Bool}
theorem loop522 {i : Nat} {H : List DV} (hm : m ≤ 5) : ∀ (t j : Nat) (R : List Int), R.length = m → j + t = m →
    ∃ R' : List Int, R'.length = m ∧ LoopAt aeC Ev.nil 52 0 Try.f52 2 (s522 (rowsD Y) Y.length c z k m H (ints R) i j) (.exit 2) (s522x (rowsD Y) Y.length c z k m H (ints R') i)
  | 0, j, R, hl, hj => ⟨R, hl, .out k52_2 (by simp) ((t52_2 ..).trans (cnd_neg (by omega)))⟩
  | t + 1, j, R, hl, hj => by
    have ha := t52_2 (rowsD Y) H (ints R) Y.length i k m j c z
    rw [cnd_pos (p := (j : Int) < (m : Int)) (by omega)] at ha
    by_cases h1 : i < Y.length
    · rw [cnd_pos (p := (i : Int) < (Y.length : Int)) (by omega), show Int.toNat (i : Int) * 1 = i by simp, nth_rows h1] at ha
      simp only [getS_some, Nat.beq_refl, Bool.or_true, cond_true, show inRange (i : Int) Y.length = true by simp [inRange]; omega] at ha
      by_cases h2 : j < (Y.getD i ([], false)).1.length
      · have hw : IntKind.wrap .i64 ((j : Int) + 1) = ((j + 1 : Nat) : Int) := by rw [wrap64_o (by omega) (by omega)]; rfl
        rw [cnd_pos (p := (j : Int) < ((Y.getD i ([], false)).1.length : Int)) (by omega), show Int.toNat (j : Int) * 1 = j by simp, nth_ints_o h2, hw, Nat.zero_add] at ha
        simp only [getI_some, Bool.and_true, cond_true, show inRange (j : Int) (Y.getD i ([], false)).1.length = true by simp only [inRange, Bool.and_eq_true, decide_eq_true_eq]; omega, show inRange (j : Int) m = true by simp [inRange]; omega, show Nat.ble (j + 1) (ints R).length = true by rw [len_ints]; exact Nat.ble_eq_true_of_le (by omega)] at ha
        rw [setNth_ints_o] at ha
        obtain ⟨R', g1, g2⟩ := loop522 (i := i) (H := H) hm t (j + 1) (R.set j (IntKind.wrap IntKind.i64 (Int.tmod (IntKind.wrap IntKind.u64 ((Y.getD i ([], false)).1.getD j 0)) 3))) (by simpa using hl) (by omega)
        exact ⟨R', g1, .next k52_2 ha g2⟩
      · rw [cnd_neg (p := (j : Int) < ((Y.getD i ([], false)).1.length : Int)) (by omega)] at ha
        exact ⟨R, hl, .out k52_2 (by simp) ha⟩
    · rw [cnd_neg (p := (i : Int) < (Y.length : Int)) (by omega)] at ha
      exact ⟨R, hl, .out k52_2 (by simp) ha⟩
theorem loop520 (hk : k ≤ 5) (h1 : 1 ≤ m) (hm : m ≤ 5) : ∀ (t i : Nat) (M : List (List Int)), M.length = i → (∀ r ∈ M, r.length = m) → i + t = k →
    ∃ M' : List (List Int), M'.length = k ∧ (∀ r ∈ M', r.length = m) ∧ LoopAt aeC Ev.nil 52 0 Try.f52 0 (s52 (rowsD Y) Y.length c z k m (M.map rowD) i) (.exit 0) ⟨[(7, AV.grow 0 1 false)], [.dc (M'.map rowD)], []⟩
  | 0, i, M, hl, hM, hi => by
    obtain rfl : i = k := by omega
    exact ⟨M, hl, hM, .out k52_0 (by simp) ((t52_0x ..).trans (cnd_neg (by omega)))⟩
  | t + 1, i, M, hl, hM, hi => by
    have hw : IntKind.wrap .i64 ((i : Int) + 1) = ((i + 1 : Nat) : Int) := by rw [wrap64_o (by omega) (by omega)]; rfl
    have ha := t52_0 (rowsD Y) Y.length i c z k m (M.map rowD)
    rw [cnd_pos (p := (i : Int) < (k : Int)) (by omega), decide_eq_true (p := (0 : Int) ≤ (m : Int)) (by omega), decide_eq_true (p := (m : Int) ≤ (m : Int)) (by omega), decide_eq_true (p := (m : Int) ≤ 1048576) (by omega), Int.toNat_natCast, flat_rep,
      show List.replicate m (iD 0) = ints (List.replicate m 0) by simp [ints]] at ha
    simp only [Bool.and_self, cond_true] at ha
    obtain ⟨R', g1, g2⟩ := loop522 (Y := Y) (k := k) (c := c) (z := z) (i := i) (H := M.map rowD) hm m 0 (List.replicate m 0) (by simp) (by omega)
    have hx := t52_x (rowsD Y) (M.map rowD) Y.length i k c z R' (by omega) (by omega)
    rw [g1, hw, show Nat.ble (lenOf 1 (M.map rowD).length + 1) 1048576 = true by rw [List.length_map]; exact Nat.ble_eq_true_of_le (by show M.length + 1 ≤ _; omega), cond_true, show M.map rowD ++ [rowD R'] = (M ++ [R']).map rowD by simp] at hx
    obtain ⟨M', q1, q2, q3⟩ := loop520 hk h1 hm t (i + 1) (M ++ [R']) (by simp [hl]) (fun r hr => by
      rcases List.mem_append.1 hr with h | h
      · exact hM r h
      · rw [List.mem_singleton.1 h]; exact g1) (by omega)
    exact ⟨M', q1, q2, .nextF k52_0 ((startF_seg k52_0 ha g2).trans (nextF_done k52_0 roundD_plain hx)) q3⟩
theorem c52 (hk1 : 1 ≤ k) (hk : k ≤ 5) (h1 : 1 ≤ m) (hm : m ≤ 5) : ∃ M : List (List Int), M.length = k ∧ (∀ r ∈ M, r.length = m) ∧ PureOK Try.prog 52 [.sl (rowsD Y) Y.length 1 c z, iD (k : Int), iD (m : Int)] (matD M) := by
  obtain ⟨M, q1, q2, q3⟩ := loop520 (Y := Y) (c := c) (z := z) hk h1 hm k 0 [] rfl (by simp) (by omega)
  refine ⟨M, q1, q2, ae_pure EvOK.nil (fn := Try.f52) k52 (by kernel_rfl) (by kernel_rfl) ((startF_seg k52 (t52_h ..) q3).trans (nextF_done k52 done_plain ((t52_e ..).trans ?_)))⟩
  rw [List.length_map, q1, beq_no hk1, Go.AE.lenOf_1]
  unfold matD
  rw [q1]
end
end Go.Proofs.Ytjfopbpkophoeaa

/- Chapter 06: the law of Both on data. -/
namespace Go.Proofs.Ytjfopbpkophoeaa
open Go Go.AE
set_option maxRecDepth 100000
structure TbL where
  R : List DV → List DV
  n : List DV → Nat
  z : List DV → Bool
  P : List DV → List DV
  pn : List DV → Nat
  ps : List DV → Nat
  pz : List DV → Bool
  Q : List DV → List DV
  qn : List DV → Nat
  qs : List DV → Nat
  qz : List DV → Bool
  E : List DV → Int
  T : List DV → Bool
  M : List DV → List DV
  mn : List DV → Nat
  C : List DV → Bool
  W : List DV → List DV
  wn : List DV → Nat
def iL (T : TbL) (f : Nat) (ds : List DV) : DV := match f with
  | 47 => .sl (T.R ds) (T.n ds) 1 false (T.z ds)
  | 48 => .tup [.agg [.sl (T.P ds) (T.pn ds) (T.ps ds) false (T.pz ds), .sl (T.Q ds) (T.qn ds) (T.qs ds) false (T.qz ds)], iD (T.E ds)]
  | 49 => bD (T.T ds)
  | 50 => .sl (T.M ds) (T.mn ds) 1 false false
  | 51 => bD (T.C ds)
  | 52 => .sl (T.W ds) (T.wn ds) 1 false false
  | _ => bD true
noncomputable def evL (ok : Nat → List DV → Bool) (T : TbL) : Ev := evT ok (iL T)
def d3 (n : Nat) : DV := iD (IntKind.wrap IntKind.i64 (1 + Int.tmod (n : Int) 3))
def s11 (ra rb : List DV) (ln lm : Nat) (ca za cb zb : Bool) (A : List DV) (n : Nat) (z : Bool) (U : List DV) (m : Nat) (z2 : Bool) (i : Int) : St := ⟨[(0, .d (.sl ra ln 1 ca za)), (1, .d (.sl rb lm 1 cb zb)), (5, .d (.sl A n 1 false z)), (6, .d (.sl U m 1 false z2)), (7, .d (iD i))], [], []⟩
theorem t11_h (ok : Nat → List DV → Bool) (T : TbL) (ra rb : List DV) (ln lm : Nat) (ca za cb zb : Bool) : startS aeC (evL ok T) 11 0 Try.f11 none ⟨envOf 0 [.d (.sl ra ln 1 ca za), .d (.sl rb lm 1 cb zb)], [], []⟩ (heldD aeC 11 0) =
  bif ok 47 [.sl ra ln 1 ca za] then bif TbL.z T [.sl ra ln 1 ca za] || true then bif ok 47 [.sl rb lm 1 cb zb] then bif TbL.z T [.sl rb lm 1 cb zb] || true then
    some (0, s11 ra rb ln lm ca za cb zb (TbL.R T [.sl ra ln 1 ca za]) (TbL.n T [.sl ra ln 1 ca za]) (TbL.z T [.sl ra ln 1 ca za]) (TbL.R T [.sl rb lm 1 cb zb]) (TbL.n T [.sl rb lm 1 cb zb]) (TbL.z T [.sl rb lm 1 cb zb]) 0)
  else none else none else none else none := by kernel_rfl
theorem t11_0 (ok : Nat → List DV → Bool) (T : TbL) (ra rb A U : List DV) (ln lm n m i : Nat) (ca za cb zb c z c2 z2 : Bool) : startS aeC (evL ok T) 11 0 Try.f11 (some 0) (s11 ra rb ln lm ca za cb zb A n z U m z2 i) (roundD aeC 11 0 0) =
  bif decide ((↑i : Int) < 2) then
    bif ok 48 [DV.sl A n 1 false z, DV.sl U m 1 false z2] then
      bif decide (0 < (↑n : Int)) then
        bif inRange 0 n then
          getS (nth A 0) fun cs0 n0 sz0 c0 nl0 =>
          bif nl0 || Nat.beq sz0 1 then
            bif ok 49 [DV.sl A n 1 false z, iD (↑n0 : Int), iD 4] then
              bif TbL.T T [DV.sl A n 1 false z, iD (↑n0 : Int), iD 4] then
                bif ok 49 [DV.sl U m 1 false z2, iD (↑n : Int), iD 4] then
                  bif TbL.T T [DV.sl U m 1 false z2, iD (↑n : Int), iD 4] then
                    bif inRange 0 n then
                      getS (nth A 0) fun cs1 n1 sz1 c1 nl1 =>
                      bif nl1 || Nat.beq sz1 1 then
                        bif !decide ((↑m : Int) = (↑n1 : Int)) then
                          bif !decide (TbL.E T [DV.sl A n 1 false z, DV.sl U m 1 false z2] = 1) then
                            some (Ex.ret, (⟨[(4, .d (bD false))], [], []⟩ : St))
                          else
                            bif !decide (IntKind.wrap IntKind.i64 ((↑(TbL.pn T [DV.sl A n 1 false z, DV.sl U m 1 false z2]) : Int) + (↑(TbL.qn T [DV.sl A n 1 false z, DV.sl U m 1 false z2]) : Int)) = 0) then
                              some (Ex.ret, (⟨[(4, .d (bD false))], [], []⟩ : St))
                            else
                              bif ok 52 [DV.sl ra ln 1 ca za, (d3 ln), (d3 lm)] then
                                bif ok 52 [DV.sl rb lm 1 cb zb, (d3 lm), (d3 ln)] then
                                  some (Ex.norm, s11 ra rb ln lm ca za cb zb (TbL.W T [DV.sl ra ln 1 ca za, (d3 ln), (d3 lm)]) (TbL.wn T [DV.sl ra ln 1 ca za, (d3 ln), (d3 lm)]) false (TbL.W T [DV.sl rb lm 1 cb zb, (d3 lm), (d3 ln)]) (TbL.wn T [DV.sl rb lm 1 cb zb, (d3 lm), (d3 ln)]) false (IntKind.wrap IntKind.i64 ((↑i : Int) + 1)))
                                else
                                  none
                              else
                                none
                        else
                          bif ok 50 [DV.sl A n 1 false z, DV.sl U m 1 false z2] then
                            bif ok 50 [DV.sl U m 1 false z2, DV.sl A n 1 false z] then
                              bif ok 51 [DV.sl (TbL.M T [DV.sl A n 1 false z, DV.sl U m 1 false z2]) (TbL.mn T [DV.sl A n 1 false z, DV.sl U m 1 false z2]) 1 false false] then
                                bif !TbL.C T [DV.sl (TbL.M T [DV.sl A n 1 false z, DV.sl U m 1 false z2]) (TbL.mn T [DV.sl A n 1 false z, DV.sl U m 1 false z2]) 1 false false] then
                                  bif !decide (TbL.E T [DV.sl A n 1 false z, DV.sl U m 1 false z2] = 8) then
                                    some (Ex.ret, (⟨[(4, .d (bD false))], [], []⟩ : St))
                                  else
                                    bif !decide (IntKind.wrap IntKind.i64 ((↑(TbL.pn T [DV.sl A n 1 false z, DV.sl U m 1 false z2]) : Int) + (↑(TbL.qn T [DV.sl A n 1 false z, DV.sl U m 1 false z2]) : Int)) = 0) then
                                      some (Ex.ret, (⟨[(4, .d (bD false))], [], []⟩ : St))
                                    else
                                      bif ok 52 [DV.sl ra ln 1 ca za, (d3 ln), (d3 lm)] then
                                        bif ok 52 [DV.sl rb lm 1 cb zb, (d3 lm), (d3 ln)] then
                                          some (Ex.norm, s11 ra rb ln lm ca za cb zb (TbL.W T [DV.sl ra ln 1 ca za, (d3 ln), (d3 lm)]) (TbL.wn T [DV.sl ra ln 1 ca za, (d3 ln), (d3 lm)]) false (TbL.W T [DV.sl rb lm 1 cb zb, (d3 lm), (d3 ln)]) (TbL.wn T [DV.sl rb lm 1 cb zb, (d3 lm), (d3 ln)]) false (IntKind.wrap IntKind.i64 ((↑i : Int) + 1)))
                                        else
                                          none
                                      else
                                        none
                                else
                                  bif ok 51 [DV.sl (TbL.M T [DV.sl U m 1 false z2, DV.sl A n 1 false z]) (TbL.mn T [DV.sl U m 1 false z2, DV.sl A n 1 false z]) 1 false false] then
                                    bif !TbL.C T [DV.sl (TbL.M T [DV.sl U m 1 false z2, DV.sl A n 1 false z]) (TbL.mn T [DV.sl U m 1 false z2, DV.sl A n 1 false z]) 1 false false] then
                                      bif !decide (TbL.E T [DV.sl A n 1 false z, DV.sl U m 1 false z2] = 8) then
                                        some (Ex.ret, (⟨[(4, .d (bD false))], [], []⟩ : St))
                                      else
                                        bif !decide (IntKind.wrap IntKind.i64 ((↑(TbL.pn T [DV.sl A n 1 false z, DV.sl U m 1 false z2]) : Int) + (↑(TbL.qn T [DV.sl A n 1 false z, DV.sl U m 1 false z2]) : Int)) = 0) then
                                          some (Ex.ret, (⟨[(4, .d (bD false))], [], []⟩ : St))
                                        else
                                          bif ok 52 [DV.sl ra ln 1 ca za, (d3 ln), (d3 lm)] then
                                            bif ok 52 [DV.sl rb lm 1 cb zb, (d3 lm), (d3 ln)] then
                                              some (Ex.norm, s11 ra rb ln lm ca za cb zb (TbL.W T [DV.sl ra ln 1 ca za, (d3 ln), (d3 lm)]) (TbL.wn T [DV.sl ra ln 1 ca za, (d3 ln), (d3 lm)]) false (TbL.W T [DV.sl rb lm 1 cb zb, (d3 lm), (d3 ln)]) (TbL.wn T [DV.sl rb lm 1 cb zb, (d3 lm), (d3 ln)]) false (IntKind.wrap IntKind.i64 ((↑i : Int) + 1)))
                                            else
                                              none
                                          else
                                            none
                                    else
                                      bif !decide (TbL.E T [DV.sl A n 1 false z, DV.sl U m 1 false z2] = 0) then
                                        some (Ex.ret, (⟨[(4, .d (bD false))], [], []⟩ : St))
                                      else
                                        bif ok 41 [DV.sl (TbL.P T [DV.sl A n 1 false z, DV.sl U m 1 false z2]) (TbL.pn T [DV.sl A n 1 false z, DV.sl U m 1 false z2]) (TbL.ps T [DV.sl A n 1 false z, DV.sl U m 1 false z2]) false (TbL.pz T [DV.sl A n 1 false z, DV.sl U m 1 false z2]), DV.sl (TbL.M T [DV.sl A n 1 false z, DV.sl U m 1 false z2]) (TbL.mn T [DV.sl A n 1 false z, DV.sl U m 1 false z2]) 1 false false] then
                                          bif ok 41 [DV.sl (TbL.Q T [DV.sl A n 1 false z, DV.sl U m 1 false z2]) (TbL.qn T [DV.sl A n 1 false z, DV.sl U m 1 false z2]) (TbL.qs T [DV.sl A n 1 false z, DV.sl U m 1 false z2]) false (TbL.qz T [DV.sl A n 1 false z, DV.sl U m 1 false z2]), DV.sl (TbL.M T [DV.sl U m 1 false z2, DV.sl A n 1 false z]) (TbL.mn T [DV.sl U m 1 false z2, DV.sl A n 1 false z]) 1 false false] then
                                            bif ok 52 [DV.sl ra ln 1 ca za, (d3 ln), (d3 lm)] then
                                              bif ok 52 [DV.sl rb lm 1 cb zb, (d3 lm), (d3 ln)] then
                                                some (Ex.norm, s11 ra rb ln lm ca za cb zb (TbL.W T [DV.sl ra ln 1 ca za, (d3 ln), (d3 lm)]) (TbL.wn T [DV.sl ra ln 1 ca za, (d3 ln), (d3 lm)]) false (TbL.W T [DV.sl rb lm 1 cb zb, (d3 lm), (d3 ln)]) (TbL.wn T [DV.sl rb lm 1 cb zb, (d3 lm), (d3 ln)]) false (IntKind.wrap IntKind.i64 ((↑i : Int) + 1)))
                                              else
                                                none
                                            else
                                              none
                                          else
                                            none
                                        else
                                          none
                                  else
                                    none
                              else
                                none
                            else
                              none
                          else
                            none
                      else
                        none
                    else
                      none
                  else
                    bif !decide (TbL.E T [DV.sl A n 1 false z, DV.sl U m 1 false z2] = 1) then
                      some (Ex.ret, (⟨[(4, .d (bD false))], [], []⟩ : St))
                    else
                      bif !decide (IntKind.wrap IntKind.i64 ((↑(TbL.pn T [DV.sl A n 1 false z, DV.sl U m 1 false z2]) : Int) + (↑(TbL.qn T [DV.sl A n 1 false z, DV.sl U m 1 false z2]) : Int)) = 0) then
                        some (Ex.ret, (⟨[(4, .d (bD false))], [], []⟩ : St))
                      else
                        bif ok 52 [DV.sl ra ln 1 ca za, (d3 ln), (d3 lm)] then
                          bif ok 52 [DV.sl rb lm 1 cb zb, (d3 lm), (d3 ln)] then
                            some (Ex.norm, s11 ra rb ln lm ca za cb zb (TbL.W T [DV.sl ra ln 1 ca za, (d3 ln), (d3 lm)]) (TbL.wn T [DV.sl ra ln 1 ca za, (d3 ln), (d3 lm)]) false (TbL.W T [DV.sl rb lm 1 cb zb, (d3 lm), (d3 ln)]) (TbL.wn T [DV.sl rb lm 1 cb zb, (d3 lm), (d3 ln)]) false (IntKind.wrap IntKind.i64 ((↑i : Int) + 1)))
                          else
                            none
                        else
                          none
                else
                  none
              else
                bif !decide (TbL.E T [DV.sl A n 1 false z, DV.sl U m 1 false z2] = 1) then
                  some (Ex.ret, (⟨[(4, .d (bD false))], [], []⟩ : St))
                else
                  bif !decide (IntKind.wrap IntKind.i64 ((↑(TbL.pn T [DV.sl A n 1 false z, DV.sl U m 1 false z2]) : Int) + (↑(TbL.qn T [DV.sl A n 1 false z, DV.sl U m 1 false z2]) : Int)) = 0) then
                    some (Ex.ret, (⟨[(4, .d (bD false))], [], []⟩ : St))
                  else
                    bif ok 52 [DV.sl ra ln 1 ca za, (d3 ln), (d3 lm)] then
                      bif ok 52 [DV.sl rb lm 1 cb zb, (d3 lm), (d3 ln)] then
                        some (Ex.norm, s11 ra rb ln lm ca za cb zb (TbL.W T [DV.sl ra ln 1 ca za, (d3 ln), (d3 lm)]) (TbL.wn T [DV.sl ra ln 1 ca za, (d3 ln), (d3 lm)]) false (TbL.W T [DV.sl rb lm 1 cb zb, (d3 lm), (d3 ln)]) (TbL.wn T [DV.sl rb lm 1 cb zb, (d3 lm), (d3 ln)]) false (IntKind.wrap IntKind.i64 ((↑i : Int) + 1)))
                      else
                        none
                    else
                      none
            else
              none
          else
            none
        else
          none
      else
        bif !decide (TbL.E T [DV.sl A n 1 false z, DV.sl U m 1 false z2] = 1) then
          some (Ex.ret, (⟨[(4, .d (bD false))], [], []⟩ : St))
        else
          bif !decide (IntKind.wrap IntKind.i64 ((↑(TbL.pn T [DV.sl A n 1 false z, DV.sl U m 1 false z2]) : Int) + (↑(TbL.qn T [DV.sl A n 1 false z, DV.sl U m 1 false z2]) : Int)) = 0) then
            some (Ex.ret, (⟨[(4, .d (bD false))], [], []⟩ : St))
          else
            bif ok 52 [DV.sl ra ln 1 ca za, (d3 ln), (d3 lm)] then
              bif ok 52 [DV.sl rb lm 1 cb zb, (d3 lm), (d3 ln)] then
                some (Ex.norm, s11 ra rb ln lm ca za cb zb (TbL.W T [DV.sl ra ln 1 ca za, (d3 ln), (d3 lm)]) (TbL.wn T [DV.sl ra ln 1 ca za, (d3 ln), (d3 lm)]) false (TbL.W T [DV.sl rb lm 1 cb zb, (d3 lm), (d3 ln)]) (TbL.wn T [DV.sl rb lm 1 cb zb, (d3 lm), (d3 ln)]) false (IntKind.wrap IntKind.i64 ((↑i : Int) + 1)))
              else
                none
            else
              none
    else
      none
  else
    some (Ex.exit 0, (⟨[], [], []⟩ : St)) := by kernel_rfl

theorem t11_e (ok : Nat → List DV → Bool) (T : TbL) : nextS aeC (evL ok T) 11 0 Try.f11 none 0 (.exit 0) ⟨[], [], []⟩ (doneE aeC Try.f11 0 fun v h => freezeV h 4 v) = bif ok 21 [] then some (bD true) else none := by kernel_rfl
theorem k11 : OkSeg Try.f11 none [0] := ⟨by kernel_rfl, by kernel_rfl, by decide⟩
theorem k11_0 : OkSeg Try.f11 (some 0) [] := ⟨by kernel_rfl, by kernel_rfl, by decide⟩
def slx : DV → List DV
  | .sl y _ _ _ _ => y
  | _ => []
def sln : DV → Nat
  | .sl _ n _ _ _ => n
  | _ => 0
def sls : DV → Nat
  | .sl _ _ s _ _ => s
  | _ => 0
def slz : DV → Bool
  | .sl _ _ _ _ z => z
  | _ => false
def b1 : DV → DV
  | .tup (.agg (x :: _) :: _) => x
  | d => d
def b2 : DV → DV
  | .tup (.agg (_ :: x :: _) :: _) => x
  | d => d
def bE : DV → Int
  | .tup [_, .int _ e] => e
  | _ => 0
theorem bothD_sl (X U : List (List Int × Bool)) : DV.tup [.agg [.sl (slx (b1 (bothD X U))) (sln (b1 (bothD X U))) (sls (b1 (bothD X U))) false (slz (b1 (bothD X U))), .sl (slx (b2 (bothD X U))) (sln (b2 (bothD X U))) (sls (b2 (bothD X U))) false (slz (b2 (bothD X U)))], iD (bE (bothD X U))] = bothD X U := by
  unfold bothD
  cases goodB X U with
  | false => rfl
  | true => cases okB (mulW X U) <;> cases okB (mulW U X) <;> rfl
open Classical in
/-- What table answers. -/
noncomputable def tW (ds : List DV) : List (List Int) := if h : ∃ M : List (List Int), (1 ≤ M.length ∧ M.length ≤ 5 ∧ ∀ r ∈ M, 1 ≤ r.length ∧ r.length ≤ 5) ∧ PureOK Try.prog 52 ds (matD M) then Classical.choose h else []
theorem tW_ok {ds : List DV} (h : ∃ M : List (List Int), (1 ≤ M.length ∧ M.length ≤ 5 ∧ ∀ r ∈ M, 1 ≤ r.length ∧ r.length ≤ 5) ∧ PureOK Try.prog 52 ds (matD M)) : (1 ≤ (tW ds).length ∧ (tW ds).length ≤ 5 ∧ ∀ r ∈ tW ds, 1 ≤ r.length ∧ r.length ≤ 5) ∧ PureOK Try.prog 52 ds (matD (tW ds)) := by
  unfold tW
  rw [dif_pos h]
  exact Classical.choose_spec h
theorem d3_eq (n : Nat) : ∃ k : Nat, 1 ≤ k ∧ k ≤ 3 ∧ d3 n = iD (k : Int) := by
  unfold d3
  rw [Int.tmod_eq_emod_of_nonneg (by omega), wrap64_o (by omega) (by omega)]
  exact ⟨1 + n % 3, by omega, by omega, by congr 1⟩
noncomputable def tbL : TbL where
  R ds := rowsD (rows8 (argR ds))
  n ds := (rows8 (argR ds)).length
  z ds := (rows8 (argR ds)).isEmpty
  P ds := slx (b1 (bothD (argR ds) (argR ds.tail)))
  pn ds := sln (b1 (bothD (argR ds) (argR ds.tail)))
  ps ds := sls (b1 (bothD (argR ds) (argR ds.tail)))
  pz ds := slz (b1 (bothD (argR ds) (argR ds.tail)))
  Q ds := slx (b2 (bothD (argR ds) (argR ds.tail)))
  qn ds := sln (b2 (bothD (argR ds) (argR ds.tail)))
  qs ds := sls (b2 (bothD (argR ds) (argR ds.tail)))
  qz ds := slz (b2 (bothD (argR ds) (argR ds.tail)))
  E ds := bE (bothD (argR ds) (argR ds.tail))
  T ds := tabB (argR ds) (argK ds) 4
  M ds := (mulW (argR ds) (argR ds.tail)).map rowD
  mn ds := (mulW (argR ds) (argR ds.tail)).length
  C ds := tabB (argR ds) (argR ds).length 9
  W ds := (tW ds).map rowD
  wn ds := (tW ds).length
noncomputable abbrev okL : Nat → List DV → Bool := okS (iL tbL)
theorem h47 (Y : List (List Int × Bool)) (c z : Bool) : okL 47 [.sl (rowsD Y) Y.length 1 c z] = true := okS_is (by
  show PureOK Try.prog 47 _ (.sl (rowsD (rows8 (argR (.sl (rowsD Y) Y.length 1 c z :: [])))) (rows8 (argR (.sl (rowsD Y) Y.length 1 c z :: []))).length 1 false (rows8 (argR (.sl (rowsD Y) Y.length 1 c z :: []))).isEmpty)
  rw [argR_D]; exact c47 Y c z)
theorem h52 (Y : List (List Int × Bool)) (c z : Bool) (n m : Nat) : okL 52 [.sl (rowsD Y) Y.length 1 c z, d3 n, d3 m] = true ∧ 1 ≤ (tW [.sl (rowsD Y) Y.length 1 c z, d3 n, d3 m]).length ∧ (tW [.sl (rowsD Y) Y.length 1 c z, d3 n, d3 m]).length ≤ 5 ∧ ∀ r ∈ tW [.sl (rowsD Y) Y.length 1 c z, d3 n, d3 m], 1 ≤ r.length ∧ r.length ≤ 5 := by
  obtain ⟨k, k1, k3, ek⟩ := d3_eq n
  obtain ⟨j, j1, j3, ej⟩ := d3_eq m
  obtain ⟨M, m1, m2, m3⟩ := c52 (Y := Y) (c := c) (z := z) k1 (show k ≤ 5 by omega) j1 (show j ≤ 5 by omega)
  rw [← ek, ← ej] at m3
  have := tW_ok ⟨M, ⟨by omega, by omega, fun r hr => by have := m2 r hr; omega⟩, m3⟩
  exact ⟨okS_is this.2, this.1⟩
theorem plain_ok {M : List (List Int)} (h1 : 1 ≤ M.length) (h5 : M.length ≤ 5) (h : ∀ r ∈ M, 1 ≤ r.length ∧ r.length ≤ 5) : smallX (plain M) ∧ flagB (plain M) := by
  refine ⟨⟨by rw [plain_len]; omega, fun r hr => ?_⟩, fun r hr => ?_⟩
  · obtain ⟨q, hq, rfl⟩ := List.mem_map.1 hr
    have := (h q hq).2; show q.length ≤ 100; omega
  · obtain ⟨q, hq, rfl⟩ := List.mem_map.1 hr
    have := (h q hq).1
    show false = q.isEmpty
    cases q with
    | nil => simp at this
    | cons _ _ => rfl
section
variable {X U Ya Yb : List (List Int × Bool)} {ca za cb zb : Bool}
theorem round11 (sX : smallX X) (sU : smallX U) (fX : flagB X) (fU : flagB U) {i i' : Nat} (hi : i < 2) (hi' : i' = i + 1) :
    startS aeC (evL okL tbL) 11 0 Try.f11 (some 0) (s11 (rowsD Ya) (rowsD Yb) Ya.length Yb.length ca za cb zb (rowsD X) X.length X.isEmpty (rowsD U) U.length U.isEmpty i) (roundD aeC 11 0 0) =
    some (Ex.norm, s11 (rowsD Ya) (rowsD Yb) Ya.length Yb.length ca za cb zb ((tW [.sl (rowsD Ya) Ya.length 1 ca za, d3 Ya.length, d3 Yb.length]).map rowD) (tW [.sl (rowsD Ya) Ya.length 1 ca za, d3 Ya.length, d3 Yb.length]).length false ((tW [.sl (rowsD Yb) Yb.length 1 cb zb, d3 Yb.length, d3 Ya.length]).map rowD) (tW [.sl (rowsD Yb) Yb.length 1 cb zb, d3 Yb.length, d3 Ya.length]).length false i') := by
  have hw : IntKind.wrap .i64 ((i : Int) + 1) = (i' : Int) := by rw [wrap64_o (by omega) (by omega)]; omega
  have h := t11_0 okL tbL (rowsD Ya) (rowsD Yb) (rowsD X) (rowsD U) Ya.length Yb.length X.length U.length i ca za cb zb false X.isEmpty false U.isEmpty
  have g48 : okL 48 [.sl (rowsD X) X.length 1 false X.isEmpty, .sl (rowsD U) U.length 1 false U.isEmpty] = true := okS_is (by
    show PureOK Try.prog 48 [sD X, sD U] (DV.tup [.agg [.sl (slx (b1 (bothD (argR (sD X :: [sD U])) (argR (sD U :: []))))) (sln (b1 (bothD (argR (sD X :: [sD U])) (argR (sD U :: []))))) (sls (b1 (bothD (argR (sD X :: [sD U])) (argR (sD U :: []))))) false (slz (b1 (bothD (argR (sD X :: [sD U])) (argR (sD U :: []))))), .sl (slx (b2 (bothD (argR (sD X :: [sD U])) (argR (sD U :: []))))) (sln (b2 (bothD (argR (sD X :: [sD U])) (argR (sD U :: []))))) (sls (b2 (bothD (argR (sD X :: [sD U])) (argR (sD U :: []))))) false (slz (b2 (bothD (argR (sD X :: [sD U])) (argR (sD U :: [])))))], iD (bE (bothD (argR (sD X :: [sD U])) (argR (sD U :: []))))])
    rw [show argR (sD X :: [sD U]) = X from argR_D .., show argR (sD U :: []) = U from argR_D .., bothD_sl]
    exact c48 sX.1 sU.1 fX fU)
  have g49 : ∀ {V : List (List Int × Bool)}, smallX V → ∀ k : Int, okL 49 [.sl (rowsD V) V.length 1 false V.isEmpty, iD k, iD 4] = true := fun {V} sV k => okS_is (by
    show PureOK Try.prog 49 _ (bD (tabB (argR (sD V :: [iD k, iD 4])) k 4))
    rw [show argR (sD V :: [iD k, iD 4]) = V from argR_D ..]; exact c49 sV)
  have eT : ∀ (V : List (List Int × Bool)) (k : Int), tbL.T [.sl (rowsD V) V.length 1 false V.isEmpty, iD k, iD 4] = tabB V k 4 := fun V k => by
    show tabB (argR (sD V :: [iD k, iD 4])) k 4 = _
    rw [show argR (sD V :: [iD k, iD 4]) = V from argR_D ..]
  have eA1 : argR [DV.sl (rowsD X) X.length 1 false X.isEmpty, .sl (rowsD U) U.length 1 false U.isEmpty] = X := argR_D ..
  have eA2 : argR [DV.sl (rowsD U) U.length 1 false U.isEmpty] = U := argR_D ..
  have eE : tbL.E [.sl (rowsD X) X.length 1 false X.isEmpty, .sl (rowsD U) U.length 1 false U.isEmpty] = bE (bothD X U) := by
    show bE (bothD (argR [DV.sl (rowsD X) X.length 1 false X.isEmpty, .sl (rowsD U) U.length 1 false U.isEmpty]) (argR [DV.sl (rowsD U) U.length 1 false U.isEmpty])) = _
    rw [eA1, eA2]
  have epn : tbL.pn [.sl (rowsD X) X.length 1 false X.isEmpty, .sl (rowsD U) U.length 1 false U.isEmpty] = sln (b1 (bothD X U)) := by
    show sln (b1 (bothD (argR [DV.sl (rowsD X) X.length 1 false X.isEmpty, .sl (rowsD U) U.length 1 false U.isEmpty]) (argR [DV.sl (rowsD U) U.length 1 false U.isEmpty]))) = _
    rw [eA1, eA2]
  have eqn : tbL.qn [.sl (rowsD X) X.length 1 false X.isEmpty, .sl (rowsD U) U.length 1 false U.isEmpty] = sln (b2 (bothD X U)) := by
    show sln (b2 (bothD (argR [DV.sl (rowsD X) X.length 1 false X.isEmpty, .sl (rowsD U) U.length 1 false U.isEmpty]) (argR [DV.sl (rowsD U) U.length 1 false U.isEmpty]))) = _
    rw [eA1, eA2]
  have w0 : IntKind.wrap IntKind.i64 (((0 : Nat) : Int) + ((0 : Nat) : Int)) = 0 := by rw [wrap64_o (by omega) (by omega)]; rfl
  rw [hw, cnd_pos (p := (i : Int) < 2) (by omega), g48, (h52 Ya ca za Ya.length Yb.length).1, (h52 Yb cb zb Yb.length Ya.length).1, g49 sU, eT, eE] at h
  simp only [cond_true] at h
  have bad : goodB X U = false → bothD X U = badB 1 := fun e => by unfold bothD; rw [e]; rfl
  by_cases n0 : X.length = 0
  · have e := bad (by unfold goodB; rw [decide_eq_false (p := 1 ≤ X.length) (by omega)]; rfl)
    rw [cnd_neg (by omega), epn, eqn, e] at h
    rw [show sln (b1 (badB 1)) = 0 from rfl, show sln (b2 (badB 1)) = 0 from rfl, w0] at h
    exact h
  rw [cnd_pos (p := (0 : Int) < (X.length : Int)) (by omega), nth_rows (X := X) (i := 0) (by omega)] at h
  simp only [getS_some, Nat.beq_refl, Bool.or_true, cond_true, show inRange 0 X.length = true by simp [inRange]; omega] at h
  rw [g49 sX, eT, cond_true] at h
  have hd : decide (1 ≤ X.length) = true := decide_eq_true (by omega)
  cases h1 : tabB X ((X.getD 0 ([], false)).1.length : Int) 4 with
  | false =>
    have e := bad (by unfold goodB; rw [h1, hd]; rfl)
    rw [h1, epn, eqn, e] at h
    rw [show sln (b1 (badB 1)) = 0 from rfl, show sln (b2 (badB 1)) = 0 from rfl, w0] at h
    exact h
  | true =>
    rw [h1] at h
    cases h3 : tabB U (X.length : Int) 4 with
    | false =>
      have e := bad (by unfold goodB; rw [h1, hd, h3]; simp)
      rw [h3, epn, eqn, e] at h
      rw [show sln (b1 (badB 1)) = 0 from rfl, show sln (b2 (badB 1)) = 0 from rfl, w0] at h
      exact h
    | true =>
      rw [h3] at h
      by_cases h2 : U.length = (X.getD 0 ([], false)).1.length
      · rw [decide_eq_true (p := (U.length : Int) = ((X.getD 0 ([], false)).1.length : Int)) (by omega)] at h
        have e : bothD X U = bif okB (mulW X U) && okB (mulW U X) then .tup [.agg [matD (mulW X U), matD (mulW U X)], iD 0] else badB 8 := by
          unfold bothD goodB; rw [h1, hd, h3, decide_eq_true h2]; rfl
        rw [← h2] at h1
        obtain ⟨x1, x2, _, x4⟩ := good_mul fX fU h1 h3
        obtain ⟨_, _, _, y4⟩ := good_mul fU fX h3 h1
        have g50 : ∀ {V Z : List (List Int × Bool)}, PureOK Try.prog 50 [sD V, sD Z] (matD (mulW V Z)) → okL 50 [.sl (rowsD V) V.length 1 false V.isEmpty, .sl (rowsD Z) Z.length 1 false Z.isEmpty] = true := fun {V Z} q => okS_is (by
          show PureOK Try.prog 50 [sD V, sD Z] (.sl ((mulW (argR (sD V :: [sD Z])) (argR (sD Z :: []))).map rowD) (mulW (argR (sD V :: [sD Z])) (argR (sD Z :: []))).length 1 false false)
          rw [show argR (sD V :: [sD Z]) = V from argR_D .., show argR (sD Z :: []) = Z from argR_D ..]; exact q)
        have eM : ∀ V Z : List (List Int × Bool), tbL.M [.sl (rowsD V) V.length 1 false V.isEmpty, .sl (rowsD Z) Z.length 1 false Z.isEmpty] = (mulW V Z).map rowD := fun V Z => by
          show (mulW (argR (sD V :: [sD Z])) (argR (sD Z :: []))).map rowD = _
          rw [show argR (sD V :: [sD Z]) = V from argR_D .., show argR (sD Z :: []) = Z from argR_D ..]
        have emn : ∀ V Z : List (List Int × Bool), tbL.mn [.sl (rowsD V) V.length 1 false V.isEmpty, .sl (rowsD Z) Z.length 1 false Z.isEmpty] = (mulW V Z).length := fun V Z => by
          show (mulW (argR (sD V :: [sD Z])) (argR (sD Z :: []))).length = _
          rw [show argR (sD V :: [sD Z]) = V from argR_D .., show argR (sD Z :: []) = Z from argR_D ..]
        have sM : ∀ V Z : List (List Int × Bool), V.length ≤ 100 → smallX (plain (mulW V Z)) := fun V Z hV => by
          refine ⟨by rw [plain_len]; simpa [mulW, mulM, fsts] using hV, fun r hr => ?_⟩
          obtain ⟨q, hq, rfl⟩ := List.mem_map.1 hr
          obtain ⟨R, _, rfl⟩ := List.mem_map.1 hq
          simpa [rowM] using hV
        have g51 : ∀ V Z : List (List Int × Bool), V.length ≤ 100 → okL 51 [.sl ((mulW V Z).map rowD) (mulW V Z).length 1 false false] = true := fun V Z hV => okS_is (by
          rw [← rowsD_plain, ← plain_len (mulW V Z)]
          show PureOK Try.prog 51 _ (bD (tabB (argR (DV.sl (rowsD (plain (mulW V Z))) (plain (mulW V Z)).length 1 false false :: [])) (argR (DV.sl (rowsD (plain (mulW V Z))) (plain (mulW V Z)).length 1 false false :: [])).length 9))
          rw [argR_D]; exact c51 (sM V Z hV))
        have eC : ∀ V Z : List (List Int × Bool), tbL.C [.sl ((mulW V Z).map rowD) (mulW V Z).length 1 false false] = tabB (plain (mulW V Z)) ((mulW V Z).length : Int) 9 := fun V Z => by
          rw [← rowsD_plain]
          show tabB (argR (DV.sl (rowsD (plain (mulW V Z))) (mulW V Z).length 1 false false :: [])) (argR (DV.sl (rowsD (plain (mulW V Z))) (mulW V Z).length 1 false false :: [])).length 9 = _
          rw [argR_D, plain_len]
        have m1 := mul_check h1 h3
        have m2 := mul_check h3 h1
        rw [g50 x4, g50 y4, eM, emn, eM, emn, g51 X U sX.1, g51 U X sU.1, eC, eC, m1, m2, epn, eqn] at h
        cases o1 : okB (mulW X U) with
        | false =>
          rw [o1] at e h
          rw [e] at h
          rw [show sln (b1 (bif false && okB (mulW U X) then DV.tup [.agg [matD (mulW X U), matD (mulW U X)], iD 0] else badB 8)) = 0 from rfl, show sln (b2 (bif false && okB (mulW U X) then DV.tup [.agg [matD (mulW X U), matD (mulW U X)], iD 0] else badB 8)) = 0 from rfl, w0] at h
          exact h
        | true =>
          cases o2 : okB (mulW U X) with
          | false =>
            rw [o1, o2] at e h
            rw [e] at h
            rw [show sln (b1 (bif true && false then DV.tup [.agg [matD (mulW X U), matD (mulW U X)], iD 0] else badB 8)) = 0 from rfl, show sln (b2 (bif true && false then DV.tup [.agg [matD (mulW X U), matD (mulW U X)], iD 0] else badB 8)) = 0 from rfl, w0] at h
            exact h
          | true =>
            rw [o1, o2] at e h
            have e1 : tbL.P [.sl (rowsD X) X.length 1 false X.isEmpty, .sl (rowsD U) U.length 1 false U.isEmpty] = slx (b1 (bothD X U)) ∧ tbL.ps [.sl (rowsD X) X.length 1 false X.isEmpty, .sl (rowsD U) U.length 1 false U.isEmpty] = sls (b1 (bothD X U)) ∧ tbL.pz [.sl (rowsD X) X.length 1 false X.isEmpty, .sl (rowsD U) U.length 1 false U.isEmpty] = slz (b1 (bothD X U)) := by
              refine ⟨?_, ?_, ?_⟩
              · show slx (b1 (bothD (argR [DV.sl (rowsD X) X.length 1 false X.isEmpty, .sl (rowsD U) U.length 1 false U.isEmpty]) (argR [DV.sl (rowsD U) U.length 1 false U.isEmpty]))) = _
                rw [eA1, eA2]
              · show sls (b1 (bothD (argR [DV.sl (rowsD X) X.length 1 false X.isEmpty, .sl (rowsD U) U.length 1 false U.isEmpty]) (argR [DV.sl (rowsD U) U.length 1 false U.isEmpty]))) = _
                rw [eA1, eA2]
              · show slz (b1 (bothD (argR [DV.sl (rowsD X) X.length 1 false X.isEmpty, .sl (rowsD U) U.length 1 false U.isEmpty]) (argR [DV.sl (rowsD U) U.length 1 false U.isEmpty]))) = _
                rw [eA1, eA2]
            have e2 : tbL.Q [.sl (rowsD X) X.length 1 false X.isEmpty, .sl (rowsD U) U.length 1 false U.isEmpty] = slx (b2 (bothD X U)) ∧ tbL.qs [.sl (rowsD X) X.length 1 false X.isEmpty, .sl (rowsD U) U.length 1 false U.isEmpty] = sls (b2 (bothD X U)) ∧ tbL.qz [.sl (rowsD X) X.length 1 false X.isEmpty, .sl (rowsD U) U.length 1 false U.isEmpty] = slz (b2 (bothD X U)) := by
              refine ⟨?_, ?_, ?_⟩
              · show slx (b2 (bothD (argR [DV.sl (rowsD X) X.length 1 false X.isEmpty, .sl (rowsD U) U.length 1 false U.isEmpty]) (argR [DV.sl (rowsD U) U.length 1 false U.isEmpty]))) = _
                rw [eA1, eA2]
              · show sls (b2 (bothD (argR [DV.sl (rowsD X) X.length 1 false X.isEmpty, .sl (rowsD U) U.length 1 false U.isEmpty]) (argR [DV.sl (rowsD U) U.length 1 false U.isEmpty]))) = _
                rw [eA1, eA2]
              · show slz (b2 (bothD (argR [DV.sl (rowsD X) X.length 1 false X.isEmpty, .sl (rowsD U) U.length 1 false U.isEmpty]) (argR [DV.sl (rowsD U) U.length 1 false U.isEmpty]))) = _
                rw [eA1, eA2]
            have g41 : ∀ V Z : List (List Int × Bool), V.length ≤ 100 → okL 41 [.sl ((mulW V Z).map rowD) (mulW V Z).length 1 false false, .sl ((mulW V Z).map rowD) (mulW V Z).length 1 false false] = true := fun V Z hV => okS_is (c41 (by simpa [mulW, mulM, fsts] using hV) fun r hr => by
              obtain ⟨R, _, rfl⟩ := List.mem_map.1 hr
              simpa [rowM] using hV)
            rw [e1.1, e1.2.1, e1.2.2, e2.1, e2.2.1, e2.2.2, e] at h
            have q1 := g41 X U sX.1
            have q2 := g41 U X sU.1
            change _ = (bif okL 41 [.sl ((mulW X U).map rowD) (mulW X U).length 1 false false, .sl ((mulW X U).map rowD) (mulW X U).length 1 false false] then (bif okL 41 [.sl ((mulW U X).map rowD) (mulW U X).length 1 false false, .sl ((mulW U X).map rowD) (mulW U X).length 1 false false] then _ else none) else none) at h
            rw [q1, q2] at h
            exact h
      · rw [decide_eq_false (p := (U.length : Int) = ((X.getD 0 ([], false)).1.length : Int)) (by omega)] at h
        have e := bad (by unfold goodB; rw [h1, hd, h3, decide_eq_false h2]; rfl)
        rw [epn, eqn, e] at h
        rw [show sln (b1 (badB 1)) = 0 from rfl, show sln (b2 (badB 1)) = 0 from rfl, w0] at h
        exact h
end
theorem rows8_flag (Y : List (List Int × Bool)) : flagB (rows8 Y) := fun r hr => by
  obtain ⟨q, _, rfl⟩ := List.mem_map.1 hr
  rfl
/-- The law on data: both products of any two tables, or the error. -/
theorem both_pure (Ya Yb : List (List Int × Bool)) (ca za cb zb : Bool) : PureOK Try.prog 11 [.sl (rowsD Ya) Ya.length 1 ca za, .sl (rowsD Yb) Yb.length 1 cb zb] (bD true) := by
  have g21 : okL 21 [] = true := okS_is awake_ok
  have hh := (t11_h okL tbL (rowsD Ya) (rowsD Yb) Ya.length Yb.length ca za cb zb).trans ((cond_is' (h47 Ya ca za)).trans ((cond_is' (by simp)).trans ((cond_is' (h47 Yb cb zb)).trans (cond_is' (by simp)))))
  rw [show tbL.R [.sl (rowsD Ya) Ya.length 1 ca za] = rowsD (rows8 Ya) from congrArg (fun q => rowsD (rows8 q)) (argR_D ..), show tbL.n [.sl (rowsD Ya) Ya.length 1 ca za] = (rows8 Ya).length from congrArg (fun q => (rows8 q).length) (argR_D ..), show tbL.z [.sl (rowsD Ya) Ya.length 1 ca za] = (rows8 Ya).isEmpty from congrArg (fun q => (rows8 q).isEmpty) (argR_D ..),
    show tbL.R [.sl (rowsD Yb) Yb.length 1 cb zb] = rowsD (rows8 Yb) from congrArg (fun q => rowsD (rows8 q)) (argR_D ..), show tbL.n [.sl (rowsD Yb) Yb.length 1 cb zb] = (rows8 Yb).length from congrArg (fun q => (rows8 q).length) (argR_D ..), show tbL.z [.sl (rowsD Yb) Yb.length 1 cb zb] = (rows8 Yb).isEmpty from congrArg (fun q => (rows8 q).isEmpty) (argR_D ..)] at hh
  have r0 := round11 (Ya := Ya) (Yb := Yb) (ca := ca) (za := za) (cb := cb) (zb := zb) (rows8_small Ya) (rows8_small Yb) (rows8_flag Ya) (rows8_flag Yb) (i := 0) (i' := 1) (by omega) rfl
  obtain ⟨_, p1, p2, p3⟩ := h52 Ya ca za Ya.length Yb.length
  obtain ⟨_, q1, q2, q3⟩ := h52 Yb cb zb Yb.length Ya.length
  obtain ⟨sa, fa⟩ := plain_ok p1 p2 p3
  obtain ⟨sb, fb⟩ := plain_ok q1 q2 q3
  have r1 := round11 (Ya := Ya) (Yb := Yb) (ca := ca) (za := za) (cb := cb) (zb := zb) sa sb fa fb (i := 1) (i' := 2) (by omega) rfl
  have em : ∀ {M : List (List Int)}, 1 ≤ M.length → (plain M).isEmpty = false := fun {M} h => by
    cases M with
    | nil => simp at h
    | cons _ _ => rfl
  rw [rowsD_plain, rowsD_plain, plain_len, plain_len, em p1, em q1] at r1
  have r2 := t11_0 okL tbL (rowsD Ya) (rowsD Yb) ((tW [.sl (rowsD Ya) Ya.length 1 ca za, d3 Ya.length, d3 Yb.length]).map rowD) ((tW [.sl (rowsD Yb) Yb.length 1 cb zb, d3 Yb.length, d3 Ya.length]).map rowD) Ya.length Yb.length (tW [.sl (rowsD Ya) Ya.length 1 ca za, d3 Ya.length, d3 Yb.length]).length (tW [.sl (rowsD Yb) Yb.length 1 cb zb, d3 Yb.length, d3 Ya.length]).length 2 ca za cb zb false false false false
  refine ae_pure (evT_ok (iL tbL)) (fn := Try.f11) k11 (by kernel_rfl) (by kernel_rfl) ?_
  refine (startF_seg k11 hh (.next k11_0 r0 (.next k11_0 r1 (.out k11_0 (by simp) (r2.trans (cnd_neg (by omega))))))).trans ?_
  exact nextF_done k11 done_plain ((t11_e ..).trans (cond_is' g21))
end Go.Proofs.Ytjfopbpkophoeaa
