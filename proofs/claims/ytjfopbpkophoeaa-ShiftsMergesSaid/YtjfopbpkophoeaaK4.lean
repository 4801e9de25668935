/- Part 4 of what the law stands on: the abstract machine over the model, and what the functions answer. No condition. -/
import Derived.Test.YtjfopbpkophoeaaProg
import Derived.Test.YtjfopbpkophoeaaChecked
import Derived.Test.YtjfopbpkophoeaaK3
set_option linter.unusedSimpArgs false
set_option linter.unusedVariables false

/- The tables of the seat for the abstract machine, written by a program of this session (wip/tools/aectx.py). -/
namespace Go.Proofs.Ytjfopbpkophoeaa
open Go Go.AE

noncomputable def aeT : Tab TI :=
  (.node 65 (⟨(.array 2 22), 2, 48, [.sl [] 0 0 false true, .sl [] 0 0 false true]⟩) (.node 35 (⟨.other, 1, 8, [.nilf]⟩) (.node 20 (⟨.other, 1, 16, [.nili]⟩) (.node 9 (⟨.str, 1, 16, [.str ⟨#[]⟩]⟩) (.node 3 (⟨(.int .i64), 1, 8, [.int .i64 0]⟩) (.node 1 (⟨.other, 1, 8, [.nilf]⟩) (.node 0 (⟨.other, 1, 0, []⟩) .leaf .leaf) (.node 2 (⟨(.int .i64), 1, 8, [.int .i64 0]⟩) .leaf .leaf)) (.node 5 (⟨(.int .u8), 1, 1, [.int .u8 0]⟩) (.node 4 (⟨.bool, 1, 1, [.bool false]⟩) .leaf .leaf) (.node 6 (⟨(.int .u8), 1, 1, [.int .u8 0]⟩) .leaf .leaf))) (.node 15 (⟨(.ptr 116), 1, 8, [.nilp]⟩) (.node 11 (⟨.str, 1, 16, [.str ⟨#[]⟩]⟩) (.node 10 (⟨.str, 1, 16, [.str ⟨#[]⟩]⟩) .leaf .leaf) (.node 12 (⟨(.int .u64), 1, 8, [.int .u64 0]⟩) .leaf .leaf)) (.node 17 (⟨(.ptr 129), 1, 8, [.nilp]⟩) (.node 16 (⟨(.ptr 119), 1, 8, [.nilp]⟩) .leaf .leaf) .leaf))) (.node 28 (⟨(.int .u64), 1, 8, [.int .u64 0]⟩) (.node 24 (⟨(.int .i64), 1, 8, [.int .i64 0]⟩) (.node 22 (⟨(.slice 46), 1, 24, [.sl [] 0 0 false true]⟩) (.node 21 (⟨(.int .i32), 1, 4, [.int .i32 0]⟩) .leaf .leaf) (.node 23 (⟨.other, 1, 8, [.nilf]⟩) .leaf .leaf)) (.node 26 (⟨.other, 1, 8, [.nilf]⟩) (.node 25 (⟨.other, 1, 0, []⟩) .leaf .leaf) (.node 27 (⟨.other, 1, 8, [.nilf]⟩) .leaf .leaf))) (.node 32 (⟨.other, 1, 0, []⟩) (.node 30 (⟨.other, 1, 8, [.nilf]⟩) (.node 29 (⟨.other, 1, 8, [.nilf]⟩) .leaf .leaf) (.node 31 (⟨(.slice 2), 1, 24, [.sl [] 0 0 false true]⟩) .leaf .leaf)) (.node 34 (⟨.other, 1, 0, []⟩) (.node 33 (⟨.other, 1, 8, [.nilf]⟩) .leaf .leaf) .leaf)))) (.node 50 (⟨.other, 1, 8, [.nilf]⟩) (.node 43 (⟨.other, 1, 0, []⟩) (.node 39 (⟨.other, 1, 8, [.nilf]⟩) (.node 37 (⟨.other, 1, 8, [.nilf]⟩) (.node 36 (⟨.other, 1, 8, [.nilf]⟩) .leaf .leaf) (.node 38 (⟨.other, 1, 8, [.nilf]⟩) .leaf .leaf)) (.node 41 (⟨.other, 1, 0, []⟩) (.node 40 (⟨(.array 11 2), 11, 88, (List.replicate 11 (.int .i64 0))⟩) .leaf .leaf) (.node 42 (⟨.other, 1, 8, [.nilf]⟩) .leaf .leaf))) (.node 47 (⟨.other, 1, 0, []⟩) (.node 45 (⟨(.array 3 3), 3, 24, [.int .i64 0, .int .i64 0, .int .i64 0]⟩) (.node 44 (⟨.other, 1, 8, [.nilf]⟩) .leaf .leaf) (.node 46 (⟨(.slice 3), 1, 24, [.sl [] 0 0 false true]⟩) .leaf .leaf)) (.node 49 (⟨.other, 1, 8, [.nilf]⟩) (.node 48 (⟨.other, 1, 8, [.nilf]⟩) .leaf .leaf) .leaf))) (.node 58 (⟨.other, 1, 0, []⟩) (.node 54 (⟨.other, 1, 8, [.nilf]⟩) (.node 52 (⟨.other, 1, 8, [.nilf]⟩) (.node 51 (⟨.other, 1, 8, [.nilf]⟩) .leaf .leaf) (.node 53 (⟨.other, 1, 0, []⟩) .leaf .leaf)) (.node 56 (⟨.other, 1, 8, [.nilf]⟩) (.node 55 (⟨.other, 1, 8, [.nilf]⟩) .leaf .leaf) (.node 57 (⟨.other, 1, 8, [.nilf]⟩) .leaf .leaf))) (.node 62 (⟨.other, 1, 0, []⟩) (.node 60 (⟨.other, 1, 8, [.nilf]⟩) (.node 59 (⟨.other, 1, 8, [.nilf]⟩) .leaf .leaf) (.node 61 (⟨.other, 1, 8, [.nilf]⟩) .leaf .leaf)) (.node 64 (⟨.other, 1, 8, [.nilf]⟩) (.node 63 (⟨.other, 1, 8, [.nilf]⟩) .leaf .leaf) .leaf))))) (.node 95 (⟨.other, 1, 8, [.nilf]⟩) (.node 80 (⟨.other, 1, 8, [.nilf]⟩) (.node 73 (⟨.other, 1, 8, [.nilf]⟩) (.node 69 (⟨.other, 1, 8, [.nilf]⟩) (.node 67 (⟨.other, 1, 8, [.nilf]⟩) (.node 66 (⟨.other, 1, 0, []⟩) .leaf .leaf) (.node 68 (⟨.other, 1, 8, [.nilf]⟩) .leaf .leaf)) (.node 71 (⟨.other, 1, 8, [.nilf]⟩) (.node 70 (⟨.other, 1, 8, [.nilf]⟩) .leaf .leaf) (.node 72 (⟨.other, 1, 8, [.nilf]⟩) .leaf .leaf))) (.node 77 (⟨(.struct [(0, 3), (1, 75)]), 26, 208, (List.replicate 26 (.int .i64 0))⟩) (.node 75 (⟨(.array 5 74), 25, 200, (List.replicate 25 (.int .i64 0))⟩) (.node 74 (⟨(.array 5 2), 5, 40, [.int .i64 0, .int .i64 0, .int .i64 0, .int .i64 0, .int .i64 0]⟩) .leaf .leaf) (.node 76 (⟨(.struct [(0, 3), (1, 75)]), 26, 208, (List.replicate 26 (.int .i64 0))⟩) .leaf .leaf)) (.node 79 (⟨.other, 1, 8, [.nilf]⟩) (.node 78 (⟨.other, 1, 8, [.nilf]⟩) .leaf .leaf) .leaf))) (.node 88 (⟨.other, 1, 8, [.nilf]⟩) (.node 84 (⟨.other, 1, 8, [.nilf]⟩) (.node 82 (⟨.other, 1, 8, [.nilf]⟩) (.node 81 (⟨.other, 1, 0, []⟩) .leaf .leaf) (.node 83 (⟨(.map 3 2), 1, 8, [.nilm]⟩) .leaf .leaf)) (.node 86 (⟨.other, 1, 8, [.nilf]⟩) (.node 85 (⟨(.slice 31), 1, 24, [.sl [] 0 0 false true]⟩) .leaf .leaf) (.node 87 (⟨.other, 1, 8, [.nilf]⟩) .leaf .leaf))) (.node 92 (⟨.other, 1, 8, [.nilf]⟩) (.node 90 (⟨.other, 1, 8, [.nilf]⟩) (.node 89 (⟨.other, 1, 8, [.nilf]⟩) .leaf .leaf) (.node 91 (⟨.other, 1, 8, [.nilf]⟩) .leaf .leaf)) (.node 94 (⟨.other, 1, 8, [.nilf]⟩) (.node 93 (⟨.other, 1, 8, [.nilf]⟩) .leaf .leaf) .leaf)))) (.node 110 (⟨.other, 1, 8, [.nilf]⟩) (.node 103 (⟨.other, 1, 8, [.nilf]⟩) (.node 99 (⟨(.struct [(0, 3), (1, 74)]), 6, 48, [.int .i64 0, .int .i64 0, .int .i64 0, .int .i64 0, .int .i64 0, .int .i64 0]⟩) (.node 97 (⟨.other, 1, 8, [.nilf]⟩) (.node 96 (⟨.other, 1, 8, [.nilf]⟩) .leaf .leaf) (.node 98 (⟨.other, 1, 8, [.nilf]⟩) .leaf .leaf)) (.node 101 (⟨.other, 1, 8, [.nilf]⟩) (.node 100 (⟨(.struct [(0, 3), (1, 74)]), 6, 48, [.int .i64 0, .int .i64 0, .int .i64 0, .int .i64 0, .int .i64 0, .int .i64 0]⟩) .leaf .leaf) (.node 102 (⟨.other, 1, 8, [.nilf]⟩) .leaf .leaf))) (.node 107 (⟨(.array 2 3), 2, 16, [.int .i64 0, .int .i64 0]⟩) (.node 105 (⟨.other, 1, 8, [.nilf]⟩) (.node 104 (⟨.other, 1, 8, [.nilf]⟩) .leaf .leaf) (.node 106 (⟨(.ptr 77), 1, 8, [.nilp]⟩) .leaf .leaf)) (.node 109 (⟨.other, 1, 8, [.nilf]⟩) (.node 108 (⟨.other, 1, 8, [.nilf]⟩) .leaf .leaf) .leaf))) (.node 122 (⟨(.int .u8), 1, 1, [.int .u8 0]⟩) (.node 114 (⟨.other, 1, 8, [.nilf]⟩) (.node 112 (⟨.other, 1, 8, [.nilf]⟩) (.node 111 (⟨.other, 1, 8, [.nilf]⟩) .leaf .leaf) (.node 113 (⟨.other, 1, 8, [.nilf]⟩) .leaf .leaf)) (.node 121 (⟨(.int .u32), 1, 4, [.int .u32 0]⟩) (.node 120 (⟨.other, 1, 8, [.nilf]⟩) .leaf .leaf) .leaf)) (.node 126 (⟨(.int .i32), 1, 4, [.int .i32 0]⟩) (.node 124 (⟨.other, 1, 8, [.nilf]⟩) (.node 123 (⟨(.int .u8), 1, 1, [.int .u8 0]⟩) .leaf .leaf) (.node 125 (⟨(.ptr 5), 1, 8, [.nilp]⟩) .leaf .leaf)) (.node 130 (⟨.other, 1, 8, []⟩) (.node 127 (⟨(.int .i32), 1, 4, [.int .i32 0]⟩) .leaf .leaf) .leaf))))))

noncomputable def aeRets : Tab (List Nat) :=
  (.node 55 [22] (.node 27 [31] (.node 13 [4] (.node 6 [4] (.node 3 [4] (.node 1 [] (.node 0 [] .leaf .leaf) (.node 2 [] .leaf .leaf)) (.node 5 [4] (.node 4 [4] .leaf .leaf) .leaf)) (.node 10 [4] (.node 8 [4] (.node 7 [4] .leaf .leaf) (.node 9 [4] .leaf .leaf)) (.node 12 [4] (.node 11 [4] .leaf .leaf) .leaf))) (.node 20 [2] (.node 17 [2, 24] (.node 15 [2, 24] (.node 14 [22] .leaf .leaf) (.node 16 [2, 24] .leaf .leaf)) (.node 19 [2] (.node 18 [2] .leaf .leaf) .leaf)) (.node 24 [3, 24] (.node 22 [31, 24] (.node 21 [4] .leaf .leaf) (.node 23 [31, 24] .leaf .leaf)) (.node 26 [31] (.node 25 [4] .leaf .leaf) .leaf)))) (.node 41 [4] (.node 34 [3] (.node 31 [3, 4, 24] (.node 29 [4, 24] (.node 28 [3] .leaf .leaf) (.node 30 [3, 24] .leaf .leaf)) (.node 33 [4] (.node 32 [3] .leaf .leaf) .leaf)) (.node 38 [46] (.node 36 [46] (.node 35 [46, 4, 24] .leaf .leaf) (.node 37 [4] .leaf .leaf)) (.node 40 [4] (.node 39 [22, 24] .leaf .leaf) .leaf))) (.node 48 [65, 24] (.node 45 [4] (.node 43 [46, 4] (.node 42 [22] .leaf .leaf) (.node 44 [22, 24] .leaf .leaf)) (.node 47 [22] (.node 46 [22, 4] .leaf .leaf) .leaf)) (.node 52 [22] (.node 50 [22] (.node 49 [4] .leaf .leaf) (.node 51 [4] .leaf .leaf)) (.node 54 [22, 24] (.node 53 [24] .leaf .leaf) .leaf))))) (.node 83 [4] (.node 69 [2] (.node 62 [77] (.node 59 [2] (.node 57 [2, 24] (.node 56 [4] .leaf .leaf) (.node 58 [2] .leaf .leaf)) (.node 61 [77, 24] (.node 60 [2] .leaf .leaf) .leaf)) (.node 66 [77] (.node 64 [22] (.node 63 [85] .leaf .leaf) (.node 65 [31] .leaf .leaf)) (.node 68 [3] (.node 67 [2] .leaf .leaf) .leaf))) (.node 76 [3] (.node 73 [4] (.node 71 [2] (.node 70 [85] .leaf .leaf) (.node 72 [2] .leaf .leaf)) (.node 75 [77] (.node 74 [96] .leaf .leaf) .leaf)) (.node 80 [46] (.node 78 [22] (.node 77 [4] .leaf .leaf) (.node 79 [77] .leaf .leaf)) (.node 82 [3] (.node 81 [22] .leaf .leaf) .leaf)))) (.node 97 [] (.node 90 [4] (.node 87 [] (.node 85 [77] (.node 84 [22, 4] .leaf .leaf) (.node 86 [2] .leaf .leaf)) (.node 89 [4] (.node 88 [77] .leaf .leaf) .leaf)) (.node 94 [9] (.node 92 [3] (.node 91 [3] .leaf .leaf) (.node 93 [3] .leaf .leaf)) (.node 96 [9] (.node 95 [] .leaf .leaf) .leaf))) (.node 104 [9] (.node 101 [] (.node 99 [] (.node 98 [9] .leaf .leaf) (.node 100 [9] .leaf .leaf)) (.node 103 [] (.node 102 [9] .leaf .leaf) .leaf)) (.node 107 [9] (.node 106 [3] (.node 105 [] .leaf .leaf) .leaf) (.node 109 [9] (.node 108 [] .leaf .leaf) .leaf))))))

noncomputable def aeIsoT : Tab Bool :=
  (.node 44 true (.node 23 true (.node 12 true (.node 7 true (.node 4 true (.node 3 true (.node 2 true .leaf .leaf) .leaf) (.node 6 true (.node 5 true .leaf .leaf) .leaf)) (.node 10 true (.node 9 true (.node 8 true .leaf .leaf) .leaf) (.node 11 true .leaf .leaf))) (.node 18 true (.node 15 true (.node 14 true (.node 13 true .leaf .leaf) .leaf) (.node 17 true (.node 16 true .leaf .leaf) .leaf)) (.node 21 true (.node 20 true (.node 19 true .leaf .leaf) .leaf) (.node 22 true .leaf .leaf)))) (.node 34 true (.node 29 true (.node 26 true (.node 25 true (.node 24 true .leaf .leaf) .leaf) (.node 28 true (.node 27 true .leaf .leaf) .leaf)) (.node 32 true (.node 31 true (.node 30 true .leaf .leaf) .leaf) (.node 33 true .leaf .leaf))) (.node 39 true (.node 37 true (.node 36 true (.node 35 true .leaf .leaf) .leaf) (.node 38 true .leaf .leaf)) (.node 42 true (.node 41 true (.node 40 true .leaf .leaf) .leaf) (.node 43 true .leaf .leaf))))) (.node 68 true (.node 55 true (.node 50 true (.node 47 true (.node 46 true (.node 45 true .leaf .leaf) .leaf) (.node 49 true (.node 48 true .leaf .leaf) .leaf)) (.node 53 true (.node 52 true (.node 51 true .leaf .leaf) .leaf) (.node 54 true .leaf .leaf))) (.node 62 true (.node 59 true (.node 57 true (.node 56 true .leaf .leaf) .leaf) (.node 61 true (.node 60 true .leaf .leaf) .leaf)) (.node 65 true (.node 64 true (.node 63 true .leaf .leaf) .leaf) (.node 66 true .leaf .leaf)))) (.node 82 true (.node 74 true (.node 71 true (.node 70 true (.node 69 true .leaf .leaf) .leaf) (.node 73 true (.node 72 true .leaf .leaf) .leaf)) (.node 78 true (.node 76 true (.node 75 true .leaf .leaf) .leaf) (.node 79 true .leaf .leaf))) (.node 88 true (.node 85 true (.node 84 true (.node 83 true .leaf .leaf) .leaf) (.node 86 true .leaf .leaf)) (.node 92 true (.node 91 true (.node 89 true .leaf .leaf) .leaf) (.node 93 true .leaf .leaf))))))

noncomputable def aeIso (f : FuncId) : Bool := (tget aeIsoT f).isSome

noncomputable def aePolT : Tab (Tab Pol) :=
  (.node 49 (.node 2 ⟨[0, 1, 2, 7, 8], [], []⟩ (.node 0 ⟨[0, 1, 2, 7], [], []⟩ .leaf .leaf) .leaf) (.node 27 (.node 2 ⟨[3, 4, 5, 6, 7, 8, 9], [], []⟩ (.node 0 ⟨[3, 4, 5, 6, 7], [(5, 1)], []⟩ .leaf .leaf) (.node 4 ⟨[3, 4, 5, 6, 7, 8, 9, 10], [], []⟩ .leaf .leaf)) (.node 14 (.node 2 ⟨[0, 5, 6, 7, 8, 9], [], []⟩ (.node 0 ⟨[0, 5, 6, 7], [(6, 1)], []⟩ .leaf .leaf) .leaf) (.node 8 (.node 0 ⟨[1, 2, 7, 8, 9], [], []⟩ .leaf .leaf) (.node 5 (.node 6 ⟨[3, 4, 6, 7, 13, 14, 15, 16, 18], [], []⟩ (.node 2 ⟨[3, 4, 6, 7, 13], [], []⟩ (.node 0 ⟨[3, 4, 6, 7, 8], [], []⟩ .leaf .leaf) (.node 4 ⟨[3, 4, 6, 7, 13, 14, 15, 16, 17], [], []⟩ .leaf .leaf)) (.node 10 ⟨[4, 21, 23, 24, 25, 27], [], []⟩ (.node 8 ⟨[4, 19, 21, 23, 24, 25, 26], [], []⟩ .leaf .leaf) .leaf)) (.node 3 (.node 0 ⟨[1, 5, 6], [], []⟩ .leaf .leaf) .leaf .leaf) (.node 7 (.node 0 ⟨[5, 6, 7, 8, 9], [], []⟩ .leaf .leaf) .leaf .leaf)) (.node 10 (.node 3 ⟨[1, 2, 7, 8, 15], [], []⟩ (.node 0 ⟨[1, 2, 7, 8], [], []⟩ .leaf .leaf) .leaf) (.node 9 (.node 2 ⟨[3, 4, 9, 12, 13, 14, 15], [], []⟩ (.node 0 ⟨[3, 4, 9, 12, 13, 14], [], []⟩ .leaf .leaf) .leaf) .leaf .leaf) (.node 11 (.node 0 ⟨[0, 1, 5, 6, 7], [], []⟩ .leaf .leaf) .leaf .leaf))) (.node 20 (.node 0 ⟨[0, 1, 5, 6], [], []⟩ .leaf .leaf) (.node 18 (.node 2 ⟨[5, 6, 7, 8], [], []⟩ (.node 0 ⟨[5, 6, 7], [], []⟩ .leaf .leaf) .leaf) (.node 17 (.node 2 ⟨[1, 6, 8, 9, 10, 42], [], []⟩ (.node 0 ⟨[1, 6, 8, 9], [], []⟩ .leaf .leaf) .leaf) .leaf .leaf) (.node 19 (.node 0 ⟨[5, 6, 7], [], []⟩ .leaf .leaf) .leaf .leaf)) (.node 25 (.node 0 ⟨[0, 1, 5], [], []⟩ .leaf .leaf) (.node 23 (.node 2 ⟨[4, 6, 7, 24, 25, 29, 30], [], []⟩ (.node 0 ⟨[4, 6, 24, 25], [], []⟩ .leaf .leaf) (.node 4 ⟨[6, 9, 52, 53], [(9, 1)], []⟩ .leaf .leaf)) .leaf .leaf) (.node 26 (.node 4 ⟨[3, 4, 8, 9], [], []⟩ (.node 2 ⟨[0, 3, 4, 5, 6, 7], [(6, 1)], []⟩ (.node 0 ⟨[0, 3, 4, 5], [(4, 1)], []⟩ .leaf .leaf) .leaf) (.node 6 ⟨[3, 8], [], []⟩ .leaf .leaf)) .leaf .leaf)))) (.node 40 (.node 0 ⟨[0, 1, 2, 7, 8, 9], [], []⟩ .leaf .leaf) (.node 34 (.node 2 ⟨[0, 3, 4, 5], [], []⟩ (.node 0 ⟨[0, 3, 4], [], []⟩ .leaf .leaf) .leaf) (.node 32 (.node 2 ⟨[0, 3, 4, 5, 6], [], []⟩ (.node 0 ⟨[0, 3, 4, 5], [], []⟩ .leaf .leaf) .leaf) (.node 30 (.node 2 ⟨[6, 9], [], []⟩ .leaf .leaf) .leaf .leaf) (.node 33 (.node 2 ⟨[0, 3, 4, 5], [], []⟩ (.node 0 ⟨[0, 3], [], []⟩ .leaf .leaf) .leaf) .leaf .leaf)) (.node 37 (.node 0 ⟨[0, 1, 5], [], []⟩ .leaf .leaf) (.node 36 (.node 2 ⟨[0, 1, 2, 3, 9, 10], [], []⟩ (.node 0 ⟨[0, 1, 2, 3, 9], [(9, 1)], []⟩ .leaf .leaf) .leaf) .leaf .leaf) (.node 39 (.node 2 ⟨[1, 8, 10, 13, 88, 89], [], []⟩ (.node 0 ⟨[1, 8, 10, 41, 42, 43], [], []⟩ .leaf .leaf) (.node 4 ⟨[1, 8, 13, 120, 121], [], []⟩ .leaf .leaf)) .leaf .leaf))) (.node 44 (.node 2 ⟨[1, 2, 12, 71, 72, 73], [], []⟩ (.node 0 ⟨[1, 2, 8, 48, 49], [], []⟩ .leaf .leaf) .leaf) (.node 42 (.node 2 ⟨[0, 1, 2, 7, 8, 9, 10], [(9, 1)], []⟩ (.node 0 ⟨[0, 1, 2, 7, 8], [(7, 1)], []⟩ .leaf .leaf) .leaf) (.node 41 (.node 2 ⟨[0, 1, 5, 6], [], []⟩ (.node 0 ⟨[0, 1, 5], [], []⟩ .leaf .leaf) .leaf) .leaf .leaf) (.node 43 (.node 0 ⟨[0, 1, 2, 8, 9], [(8, 1)], []⟩ .leaf .leaf) .leaf .leaf)) (.node 46 (.node 2 ⟨[0, 1, 2, 8, 9, 10, 11], [(10, 1)], []⟩ (.node 0 ⟨[0, 1, 2, 8, 9], [(8, 1)], []⟩ .leaf .leaf) .leaf) (.node 45 (.node 0 ⟨[0, 1, 2, 7], [], []⟩ .leaf .leaf) .leaf .leaf) (.node 47 (.node 0 ⟨[0, 3, 4], [(3, 1)], []⟩ .leaf .leaf) .leaf .leaf))))) (.node 70 (.node 2 ⟨[0, 1, 5, 6, 7, 8], [(7, 1)], []⟩ (.node 0 ⟨[0, 1, 5, 6], [(5, 1)], []⟩ .leaf .leaf) .leaf) (.node 61 (.node 2 ⟨[2, 4, 5, 21, 22, 23, 34, 35, 36], [], []⟩ (.node 0 ⟨[2, 4, 21, 22, 23], [], []⟩ .leaf .leaf) .leaf) (.node 56 (.node 0 ⟨[0, 1, 5], [], []⟩ .leaf .leaf) (.node 52 (.node 2 ⟨[0, 1, 2, 7, 8, 9, 10], [], []⟩ (.node 0 ⟨[0, 1, 2, 7, 8], [(7, 1)], []⟩ .leaf .leaf) .leaf) (.node 50 (.node 2 ⟨[0, 1, 5, 6, 7, 8], [], []⟩ (.node 0 ⟨[0, 1, 5, 6], [(5, 1)], []⟩ .leaf .leaf) (.node 4 ⟨[0, 1, 5, 6, 7, 8, 9], [], []⟩ .leaf .leaf)) .leaf .leaf) (.node 55 (.node 2 ⟨[0, 3, 4, 5, 6], [(5, 1)], []⟩ (.node 0 ⟨[0, 3, 4], [(3, 1)], []⟩ .leaf .leaf) .leaf) .leaf .leaf)) (.node 59 (.node 0 ⟨[3, 6, 7, 8], [], []⟩ .leaf .leaf) (.node 58 (.node 0 ⟨[1, 3, 6, 7], [(3, 1)], []⟩ .leaf .leaf) .leaf .leaf) (.node 60 (.node 0 ⟨[1, 3, 6, 7], [(3, 1)], []⟩ .leaf .leaf) .leaf .leaf))) (.node 66 (.node 0 ⟨[2, 3, 7, 8], [], []⟩ .leaf .leaf) (.node 63 (.node 4 ⟨[0, 1, 5, 6, 8, 9, 10], [], []⟩ (.node 2 ⟨[0, 1, 5, 6, 8], [], []⟩ (.node 0 ⟨[0, 1, 5, 6, 7], [], []⟩ .leaf .leaf) .leaf) (.node 8 ⟨[0, 1, 5, 6, 8, 9, 10, 11, 12], [], []⟩ (.node 6 ⟨[0, 1, 5, 6, 8, 9, 10, 11], [], []⟩ .leaf .leaf) .leaf)) (.node 62 (.node 0 ⟨[4, 5, 6, 12, 13], [], []⟩ .leaf .leaf) .leaf .leaf) (.node 65 (.node 2 ⟨[1, 3, 4, 5, 14, 15], [], []⟩ (.node 0 ⟨[1, 3, 4], [(3, 1)], []⟩ .leaf .leaf) (.node 4 ⟨[3], [], []⟩ .leaf .leaf)) .leaf .leaf)) (.node 68 (.node 0 ⟨[0, 3, 4], [], []⟩ .leaf .leaf) (.node 67 (.node 10 ⟨[0, 1, 10, 11, 12, 13, 14], [], []⟩ (.node 4 ⟨[0, 1, 5, 6, 7], [], []⟩ (.node 2 ⟨[0, 1, 5, 6], [], []⟩ (.node 0 ⟨[0, 1], [], []⟩ .leaf .leaf) .leaf) (.node 8 ⟨[0, 1, 10, 11, 12], [], []⟩ (.node 6 ⟨[0, 1, 5, 105, 106], [], []⟩ .leaf .leaf) .leaf)) (.node 16 ⟨[0, 1, 10, 18, 19], [], []⟩ (.node 14 ⟨[0, 1, 10, 11, 15, 16, 17], [], []⟩ (.node 12 ⟨[0, 1, 10, 11, 15], [], []⟩ .leaf .leaf) .leaf) (.node 20 ⟨[0, 1, 18, 21], [], []⟩ (.node 18 ⟨[0, 1, 10, 18, 19, 20], [], []⟩ .leaf .leaf) .leaf))) .leaf .leaf) (.node 69 (.node 2 ⟨[0, 1, 2, 7, 8, 9, 10], [], []⟩ (.node 0 ⟨[0, 1, 2, 7], [], []⟩ .leaf .leaf) .leaf) .leaf .leaf)))) (.node 82 (.node 0 ⟨[0, 3, 4], [], []⟩ .leaf .leaf) (.node 76 (.node 2 ⟨[0, 2, 7, 8, 9, 10], [], []⟩ (.node 0 ⟨[0, 2, 7, 8], [], []⟩ .leaf .leaf) (.node 4 ⟨[0, 2, 7, 8, 9, 10, 11], [], []⟩ .leaf .leaf)) (.node 73 (.node 4 ⟨[1, 3, 5, 6, 22, 23, 27, 28], [], []⟩ (.node 2 ⟨[1, 3, 5, 22, 23], [], []⟩ .leaf .leaf) .leaf) (.node 71 (.node 0 ⟨[0, 1], [], []⟩ .leaf .leaf) .leaf .leaf) (.node 75 (.node 2 ⟨[0, 2, 3, 4, 8, 9, 12, 13], [], []⟩ (.node 0 ⟨[0, 2, 3, 8, 9], [], []⟩ .leaf .leaf) .leaf) .leaf .leaf)) (.node 78 (.node 2 ⟨[1, 3, 4, 5, 8, 9, 13, 14], [(5, 1)], []⟩ (.node 0 ⟨[1, 3, 8, 9], [(3, 1)], []⟩ .leaf .leaf) .leaf) (.node 77 (.node 0 ⟨[0, 2, 4, 6, 32, 33], [], []⟩ .leaf .leaf) .leaf .leaf) (.node 79 (.node 2 ⟨[1, 2, 3, 4, 10, 11, 15, 16], [], []⟩ (.node 0 ⟨[1, 2, 3, 10, 11], [], []⟩ .leaf .leaf) .leaf) .leaf .leaf))) (.node 88 (.node 2 ⟨[1, 2, 3, 6, 7, 11, 12], [], []⟩ (.node 0 ⟨[1, 2, 6, 7], [], []⟩ .leaf .leaf) .leaf) (.node 85 (.node 2 ⟨[2, 3, 4, 5, 6, 14, 15, 19, 20], [], []⟩ (.node 0 ⟨[2, 3, 4, 5, 14, 15], [], []⟩ .leaf .leaf) (.node 4 ⟨[2, 3, 4, 5, 6, 7, 8, 14, 15, 19, 20, 24, 25], [(8, 1)], []⟩ .leaf .leaf)) (.node 84 (.node 2 ⟨[1, 6, 7, 9, 10, 15, 16, 17, 24, 25], [(10, 1)], []⟩ (.node 0 ⟨[1, 6, 7, 15, 16, 17], [(6, 1)], []⟩ .leaf .leaf) (.node 4 ⟨[1, 6, 7, 9, 10, 11, 12, 15, 16, 17, 24, 25, 28, 29, 30], [(12, 1)], []⟩ .leaf .leaf)) .leaf .leaf) (.node 87 (.node 0 ⟨[0, 1, 3, 4], [], []⟩ .leaf .leaf) .leaf .leaf)) (.node 92 (.node 0 ⟨[3, 6, 7, 8], [], []⟩ .leaf .leaf) (.node 91 (.node 0 ⟨[0, 3, 4], [], []⟩ .leaf .leaf) .leaf .leaf) (.node 93 (.node 0 ⟨[0, 1, 7, 8], [], []⟩ .leaf .leaf) .leaf .leaf))))))

noncomputable def aePol (f b : Nat) : Option Pol := match tget aePolT f with
  | some t => tget t b
  | none => none

noncomputable def aeXPolT : Tab (Tab Pol) :=
  (.node 49 (.node 2 ⟨[0, 1, 2, 7], [], []⟩ (.node 0 ⟨[0, 1], [], []⟩ .leaf .leaf) .leaf) (.node 30 (.node 2 ⟨[], [], []⟩ (.node 0 ⟨[6], [], []⟩ .leaf .leaf) .leaf) (.node 17 (.node 1 ⟨[1, 6, 8, 9], [], []⟩ (.node 0 ⟨[1, 8], [], []⟩ .leaf .leaf) (.node 2 ⟨[1, 6, 8, 9, 10], [], []⟩ .leaf .leaf)) (.node 9 (.node 2 ⟨[3, 4, 9, 12, 13, 14], [], []⟩ (.node 0 ⟨[12, 13], [], []⟩ .leaf .leaf) .leaf) (.node 7 (.node 0 ⟨[], [], []⟩ .leaf .leaf) (.node 5 (.node 6 ⟨[3, 4, 6, 7, 13, 14, 15, 16], [], []⟩ (.node 2 ⟨[3, 4], [], []⟩ (.node 0 ⟨[3, 4, 6, 7], [], []⟩ .leaf .leaf) (.node 4 ⟨[3, 4, 6, 7, 13, 14, 15, 16], [], []⟩ .leaf .leaf)) (.node 10 ⟨[21, 23, 24, 25], [], []⟩ (.node 8 ⟨[4, 21, 23, 24, 25], [], []⟩ .leaf .leaf) .leaf)) (.node 3 (.node 0 ⟨[], [], []⟩ .leaf .leaf) .leaf .leaf) .leaf) (.node 8 (.node 0 ⟨[], [], []⟩ .leaf .leaf) .leaf .leaf)) (.node 11 (.node 0 ⟨[], [], []⟩ .leaf .leaf) (.node 10 (.node 3 ⟨[1, 2, 7, 8], [], []⟩ (.node 0 ⟨[], [], []⟩ .leaf .leaf) .leaf) .leaf .leaf) (.node 14 (.node 2 ⟨[0, 5, 6, 7, 8], [], []⟩ (.node 0 ⟨[6], [], []⟩ .leaf .leaf) .leaf) .leaf .leaf))) (.node 23 (.node 2 ⟨[4, 6, 24, 25], [], []⟩ (.node 0 ⟨[4, 6], [], []⟩ .leaf .leaf) (.node 4 ⟨[9], [], []⟩ .leaf .leaf)) (.node 19 (.node 0 ⟨[6], [], []⟩ .leaf .leaf) (.node 18 (.node 2 ⟨[5, 6, 7], [], []⟩ (.node 0 ⟨[6], [], []⟩ .leaf .leaf) .leaf) .leaf .leaf) (.node 20 (.node 0 ⟨[1, 5], [], []⟩ .leaf .leaf) .leaf .leaf)) (.node 26 (.node 4 ⟨[3, 8], [], []⟩ (.node 2 ⟨[0, 3, 4, 5, 6], [], []⟩ (.node 0 ⟨[3, 4], [], []⟩ .leaf .leaf) .leaf) (.node 6 ⟨[3, 8], [], []⟩ .leaf .leaf)) (.node 25 (.node 0 ⟨[], [], []⟩ .leaf .leaf) .leaf .leaf) (.node 27 (.node 2 ⟨[3, 4, 5, 6, 7, 8], [], []⟩ (.node 0 ⟨[5], [], []⟩ .leaf .leaf) (.node 4 ⟨[3, 4, 5, 6, 7, 8, 9], [], []⟩ .leaf .leaf)) .leaf .leaf)))) (.node 40 (.node 0 ⟨[7, 8], [], []⟩ .leaf .leaf) (.node 34 (.node 2 ⟨[0, 3, 4], [], []⟩ (.node 0 ⟨[3], [], []⟩ .leaf .leaf) .leaf) (.node 32 (.node 2 ⟨[0, 3, 5], [], []⟩ (.node 0 ⟨[4], [], []⟩ .leaf .leaf) .leaf) (.node 31 (.node 0 ⟨[8, 9], [], []⟩ .leaf .leaf) .leaf .leaf) (.node 33 (.node 2 ⟨[0, 3, 4], [], []⟩ (.node 0 ⟨[], [], []⟩ .leaf .leaf) .leaf) .leaf .leaf)) (.node 37 (.node 0 ⟨[], [], []⟩ .leaf .leaf) (.node 36 (.node 2 ⟨[0, 1, 2, 3, 9], [], []⟩ (.node 0 ⟨[9], [], []⟩ .leaf .leaf) .leaf) .leaf .leaf) (.node 39 (.node 2 ⟨[1, 8, 13], [], []⟩ (.node 0 ⟨[1, 8, 10], [], []⟩ .leaf .leaf) (.node 4 ⟨[13], [], []⟩ .leaf .leaf)) .leaf .leaf))) (.node 44 (.node 2 ⟨[1, 2, 12], [], []⟩ (.node 0 ⟨[1, 2, 8], [], []⟩ .leaf .leaf) .leaf) (.node 42 (.node 2 ⟨[0, 1, 2, 7, 8, 9], [], []⟩ (.node 0 ⟨[7], [], []⟩ .leaf .leaf) .leaf) (.node 41 (.node 2 ⟨[0, 1, 5], [], []⟩ (.node 0 ⟨[], [], []⟩ .leaf .leaf) .leaf) .leaf .leaf) (.node 43 (.node 0 ⟨[0, 1, 8], [], []⟩ .leaf .leaf) .leaf .leaf)) (.node 46 (.node 2 ⟨[0, 1, 2, 8, 9, 10], [], []⟩ (.node 1 ⟨[0, 1, 2, 8, 9], [], []⟩ (.node 0 ⟨[8], [], []⟩ .leaf .leaf) .leaf) (.node 3 ⟨[0, 1, 2, 8, 9, 10, 11], [], []⟩ .leaf .leaf)) (.node 45 (.node 0 ⟨[], [], []⟩ .leaf .leaf) .leaf .leaf) (.node 47 (.node 0 ⟨[3], [], []⟩ .leaf .leaf) .leaf .leaf))))) (.node 70 (.node 2 ⟨[0, 1, 5, 6, 7], [], []⟩ (.node 0 ⟨[5], [], []⟩ .leaf .leaf) .leaf) (.node 61 (.node 2 ⟨[2, 4, 21, 22, 23], [], []⟩ (.node 0 ⟨[2, 4], [], []⟩ .leaf .leaf) .leaf) (.node 56 (.node 0 ⟨[0, 1], [], []⟩ .leaf .leaf) (.node 52 (.node 2 ⟨[0, 1, 2, 7, 8, 9], [], []⟩ (.node 0 ⟨[7], [], []⟩ .leaf .leaf) .leaf) (.node 50 (.node 2 ⟨[0, 1, 5, 6, 7], [], []⟩ (.node 0 ⟨[5], [], []⟩ .leaf .leaf) (.node 4 ⟨[0, 1, 5, 6, 7, 8], [], []⟩ .leaf .leaf)) .leaf .leaf) (.node 55 (.node 2 ⟨[0, 3, 4, 5], [], []⟩ (.node 0 ⟨[3], [], []⟩ .leaf .leaf) .leaf) .leaf .leaf)) (.node 59 (.node 0 ⟨[3], [], []⟩ .leaf .leaf) (.node 58 (.node 0 ⟨[3], [], []⟩ .leaf .leaf) .leaf .leaf) (.node 60 (.node 0 ⟨[3], [], []⟩ .leaf .leaf) .leaf .leaf))) (.node 66 (.node 0 ⟨[2, 3], [], []⟩ .leaf .leaf) (.node 63 (.node 4 ⟨[0, 1, 5, 8, 9], [], []⟩ (.node 2 ⟨[6], [], []⟩ (.node 0 ⟨[0, 1, 5, 6], [], []⟩ .leaf .leaf) .leaf) (.node 8 ⟨[0, 1, 5, 6, 8, 9, 10, 11], [], []⟩ (.node 6 ⟨[0, 1, 5, 6, 8, 9, 10], [], []⟩ .leaf .leaf) .leaf)) (.node 62 (.node 0 ⟨[4, 5], [], []⟩ .leaf .leaf) .leaf .leaf) (.node 65 (.node 2 ⟨[1, 3, 4, 5], [], []⟩ (.node 0 ⟨[3], [], []⟩ .leaf .leaf) (.node 4 ⟨[3], [], []⟩ .leaf .leaf)) .leaf .leaf)) (.node 68 (.node 0 ⟨[3], [], []⟩ .leaf .leaf) (.node 67 (.node 10 ⟨[0, 1, 10, 11, 12], [], []⟩ (.node 4 ⟨[0, 1, 5, 6], [], []⟩ (.node 2 ⟨[0, 1, 5], [], []⟩ (.node 1 ⟨[0, 1], [], []⟩ .leaf .leaf) .leaf) (.node 8 ⟨[0, 1, 10, 11], [], []⟩ (.node 6 ⟨[0, 1], [], []⟩ .leaf .leaf) .leaf)) (.node 16 ⟨[0, 1, 10, 18], [], []⟩ (.node 14 ⟨[0, 1, 10, 11, 15], [], []⟩ (.node 12 ⟨[0, 1, 10, 11], [], []⟩ .leaf .leaf) .leaf) (.node 20 ⟨[0, 1], [], []⟩ (.node 18 ⟨[0, 1, 10, 18, 19], [], []⟩ .leaf .leaf) .leaf))) .leaf .leaf) (.node 69 (.node 2 ⟨[8], [], []⟩ (.node 0 ⟨[0, 1, 2, 7], [], []⟩ .leaf .leaf) .leaf) .leaf .leaf)))) (.node 82 (.node 0 ⟨[3], [], []⟩ .leaf .leaf) (.node 76 (.node 2 ⟨[0, 2, 8, 9], [], []⟩ (.node 0 ⟨[7], [], []⟩ .leaf .leaf) (.node 4 ⟨[0, 2, 7, 8, 9, 10], [], []⟩ .leaf .leaf)) (.node 73 (.node 2 ⟨[], [], []⟩ (.node 1 ⟨[], [], []⟩ (.node 0 ⟨[1, 3], [], []⟩ .leaf .leaf) .leaf) (.node 4 ⟨[1, 3, 5, 22, 23], [], []⟩ .leaf .leaf)) (.node 71 (.node 0 ⟨[0], [], []⟩ .leaf .leaf) .leaf .leaf) (.node 75 (.node 2 ⟨[0, 2, 3, 8, 9], [], []⟩ (.node 0 ⟨[2, 3], [], []⟩ .leaf .leaf) .leaf) .leaf .leaf)) (.node 78 (.node 2 ⟨[1, 3, 5, 8, 9], [], []⟩ (.node 0 ⟨[3], [], []⟩ .leaf .leaf) .leaf) (.node 77 (.node 1 ⟨[0, 2, 4, 6, 32, 33], [], []⟩ (.node 0 ⟨[], [], []⟩ .leaf .leaf) .leaf) .leaf .leaf) (.node 79 (.node 2 ⟨[1, 2, 3, 10, 11], [], []⟩ (.node 0 ⟨[2, 3], [], []⟩ .leaf .leaf) .leaf) .leaf .leaf))) (.node 88 (.node 2 ⟨[1, 2, 6, 7], [], []⟩ (.node 0 ⟨[1, 2], [], []⟩ .leaf .leaf) .leaf) (.node 85 (.node 2 ⟨[2, 3, 4, 5, 14, 15], [], []⟩ (.node 0 ⟨[4, 5], [], []⟩ .leaf .leaf) (.node 4 ⟨[2, 3, 4, 5, 6, 7, 8, 14, 15, 19, 20], [], []⟩ .leaf .leaf)) (.node 84 (.node 2 ⟨[1, 6, 7, 10, 15, 16, 17], [], []⟩ (.node 0 ⟨[6, 7], [], []⟩ .leaf .leaf) (.node 4 ⟨[1, 6, 7, 9, 10, 11, 12, 15, 16, 17, 24, 25], [], []⟩ .leaf .leaf)) .leaf .leaf) (.node 87 (.node 0 ⟨[], [], []⟩ .leaf .leaf) .leaf .leaf)) (.node 92 (.node 0 ⟨[3], [], []⟩ .leaf .leaf) (.node 91 (.node 0 ⟨[3], [], []⟩ .leaf .leaf) .leaf .leaf) (.node 93 (.node 0 ⟨[], [], []⟩ .leaf .leaf) .leaf .leaf))))))

noncomputable def aeXPol (f b : Nat) : Option Pol := match tget aeXPolT f with
  | some t => tget t b
  | none => none

noncomputable def aePlanT : Tab (Tab Plan) :=
  (.node 44 (.node 12 ⟨[⟨0, false, [], false, none⟩, ⟨1, false, [], false, none⟩, ⟨2, false, [], false, none⟩, ⟨3, false, [], false, none⟩, ⟨4, false, [], false, none⟩, ⟨5, false, [], false, none⟩, ⟨6, false, [], false, none⟩, ⟨7, false, [], false, none⟩, ⟨8, false, [], false, none⟩, ⟨9, false, [], false, none⟩, ⟨10, false, [], false, none⟩, ⟨11, false, [], false, none⟩, ⟨12, false, [], false, none⟩, ⟨13, false, [], false, none⟩, ⟨14, false, [], false, none⟩, ⟨15, false, [], false, none⟩, ⟨16, true, [], false, none⟩], [[], [], [], [0, 2], [0, 1, 2, 3], [0, 1, 2, 3, 4], [], [], [], [6, 8], [6, 7, 8, 9], [6, 7, 8, 9, 10], [0, 1, 2, 3, 4, 5, 6, 7, 8, 9, 10, 11], [], [0, 13], [0, 1, 2, 3, 4, 5, 6, 7, 8, 9, 10, 11, 12, 13, 14], [0, 1, 2, 3, 4, 5, 6, 7, 8, 9, 10, 11, 12, 13, 14, 15]]⟩ (.node 7 ⟨[⟨0, false, [], false, none⟩, ⟨1, false, [], false, none⟩, ⟨2, false, [], false, none⟩, ⟨3, false, [], false, none⟩, ⟨4, false, [], false, none⟩, ⟨5, false, [], false, none⟩, ⟨6, false, [], false, none⟩, ⟨7, false, [], false, none⟩, ⟨8, false, [], false, none⟩], [[], [], [0, 1], [0, 1, 2], [], [], [4, 5], [4, 5, 6], [0, 1, 2, 3, 4, 5, 6, 7]]⟩ .leaf .leaf) .leaf) (.node 31 (.node 10 ⟨[⟨0, false, [], false, none⟩, ⟨1, false, [], false, none⟩, ⟨2, false, [], false, none⟩, ⟨3, false, [], false, none⟩, ⟨4, false, [], false, none⟩, ⟨5, false, [], false, none⟩], [[], [], [1], [1, 2], [0, 1, 2, 3], [0, 1, 2, 3, 4]]⟩ .leaf .leaf) (.node 23 (.node 11 ⟨[⟨0, false, [], false, none⟩, ⟨1, false, [], false, none⟩, ⟨2, false, [], false, none⟩, ⟨3, false, [], false, none⟩, ⟨4, false, [], false, none⟩, ⟨5, false, [], false, none⟩, ⟨6, false, [], false, none⟩, ⟨7, false, [], false, none⟩, ⟨8, false, [], false, none⟩, ⟨9, false, [], false, none⟩, ⟨10, false, [], false, none⟩, ⟨11, false, [], false, none⟩, ⟨12, false, [], false, none⟩, ⟨13, false, [], false, none⟩, ⟨14, false, [], false, none⟩, ⟨15, false, [], false, none⟩, ⟨16, true, [], false, none⟩], [[], [], [], [0, 2], [0, 1, 2, 3], [0, 1, 2, 3, 4], [], [], [], [6, 8], [6, 7, 8, 9], [6, 7, 8, 9, 10], [0, 1, 2, 3, 4, 5, 6, 7, 8, 9, 10, 11], [], [0, 13], [0, 1, 2, 3, 4, 5, 6, 7, 8, 9, 10, 11, 12, 13, 14], [0, 1, 2, 3, 4, 5, 6, 7, 8, 9, 10, 11, 12, 13, 14, 15]]⟩ .leaf .leaf) (.node 7 (.node 2 ⟨[⟨0, false, [], false, none⟩, ⟨1, false, [], false, none⟩, ⟨2, false, [], false, none⟩, ⟨3, false, [], false, none⟩, ⟨4, false, [], false, none⟩, ⟨5, false, [], false, none⟩, ⟨6, false, [], false, none⟩, ⟨7, false, [], false, none⟩, ⟨8, false, [], false, none⟩], [[], [0], [], [2], [], [4], [0, 1], [0, 1, 2, 3, 6], [0, 1, 2, 3, 4, 5, 6, 7]]⟩ .leaf .leaf) (.node 5 (.node 25 ⟨[⟨0, false, [], false, none⟩, ⟨1, false, [], false, none⟩, ⟨2, false, [], false, none⟩, ⟨3, false, [], false, none⟩, ⟨4, false, [], false, none⟩, ⟨5, false, [], false, none⟩, ⟨6, false, [], false, none⟩, ⟨7, false, [], false, none⟩, ⟨8, false, [], false, none⟩, ⟨9, false, [], false, none⟩, ⟨10, false, [], false, none⟩, ⟨11, false, [], false, none⟩, ⟨12, false, [], false, none⟩], [[], [], [], [1, 2], [1, 2, 3], [], [], [5, 6], [5, 6, 7], [5, 6, 7, 8], [1, 2, 3, 4, 5, 6, 7, 8, 9], [0, 1, 2, 3, 4, 5, 6, 7, 8, 9, 10], [0, 1, 2, 3, 4, 5, 6, 7, 8, 9, 10, 11]]⟩ .leaf .leaf) .leaf .leaf) (.node 10 (.node 24 ⟨[⟨0, false, [], false, none⟩, ⟨1, false, [], false, none⟩, ⟨2, false, [], false, none⟩, ⟨3, false, [], false, none⟩, ⟨4, false, [], false, none⟩, ⟨5, false, [], false, none⟩, ⟨6, false, [], false, none⟩, ⟨7, false, [], false, none⟩, ⟨8, false, [], false, none⟩, ⟨9, false, [], false, none⟩, ⟨10, false, [], false, none⟩, ⟨11, false, [], false, none⟩, ⟨12, false, [], false, none⟩, ⟨13, true, [], false, none⟩], [[], [], [0, 1], [0, 1, 2], [], [], [], [5, 6], [5, 6, 7], [], [5, 6, 7, 8, 9], [5, 6, 7, 8, 9, 10], [0, 1, 2, 3, 4, 5, 6, 7, 8, 9, 10, 11], [0, 1, 2, 3, 4, 5, 6, 7, 8, 9, 10, 11, 12]]⟩ .leaf .leaf) .leaf .leaf)) (.node 26 (.node 17 ⟨[⟨0, false, [], false, none⟩, ⟨1, false, [], false, none⟩, ⟨2, false, [], false, none⟩, ⟨3, false, [], false, none⟩, ⟨4, false, [], false, none⟩, ⟨5, false, [], false, none⟩, ⟨6, false, [], false, none⟩, ⟨7, false, [], false, none⟩, ⟨8, false, [], false, none⟩, ⟨9, false, [], false, none⟩, ⟨10, false, [], false, none⟩, ⟨11, false, [], false, none⟩, ⟨12, true, [], false, none⟩], [[], [], [], [], [2, 3], [2, 3, 4], [], [], [], [6, 7, 8], [2, 3, 4, 5, 6, 7, 8, 9], [0, 1, 2, 3, 4, 5, 6, 7, 8, 9, 10], [0, 1, 2, 3, 4, 5, 6, 7, 8, 9, 10, 11]]⟩ .leaf .leaf) (.node 25 (.node 6 ⟨[⟨0, false, [], false, none⟩, ⟨1, false, [], false, none⟩, ⟨2, false, [], false, none⟩, ⟨3, false, [], false, none⟩, ⟨4, false, [], false, none⟩, ⟨5, false, [], false, none⟩, ⟨6, false, [], false, none⟩, ⟨7, false, [], false, none⟩, ⟨8, false, [], false, none⟩], [[], [], [0, 1], [0, 1, 2], [], [], [4, 5], [4, 5, 6], [0, 1, 2, 3, 4, 5, 6, 7]]⟩ .leaf .leaf) .leaf .leaf) (.node 30 (.node 14 ⟨[⟨0, false, [], false, none⟩, ⟨1, false, [], false, none⟩, ⟨4, true, [], false, none⟩, ⟨2, false, [4], false, none⟩, ⟨3, false, [4], false, none⟩, ⟨5, false, [], false, none⟩], [[], [], [], [1, 2], [0, 1], [0, 1, 2, 3, 4]]⟩ .leaf .leaf) .leaf .leaf))) (.node 40 (.node 10 ⟨[⟨0, false, [], false, none⟩, ⟨1, false, [], false, none⟩, ⟨2, false, [], false, none⟩, ⟨3, false, [], false, none⟩, ⟨4, false, [], false, none⟩, ⟨5, false, [], false, none⟩, ⟨6, false, [], false, none⟩, ⟨7, false, [], false, none⟩, ⟨8, false, [], false, none⟩, ⟨9, false, [], false, none⟩, ⟨10, false, [], false, none⟩, ⟨11, false, [], false, none⟩, ⟨12, false, [], false, none⟩, ⟨13, false, [], false, none⟩, ⟨14, false, [], false, none⟩, ⟨15, false, [], false, none⟩], [[], [0], [0, 1], [0, 1], [0, 1, 2, 3], [0, 1, 2, 3, 4], [0, 1], [0, 1], [0, 1, 6, 7], [0, 1, 6, 7, 8], [0, 1], [0, 1, 6, 7, 8, 9, 10], [0, 1, 6, 7, 8, 9, 10, 11], [0, 1, 2, 3, 4, 5, 6, 7, 8, 9, 10, 11, 12], [0, 1, 2, 3, 4, 5, 6, 7, 8, 9, 10, 11, 12, 13], [0, 1, 2, 3, 4, 5, 6, 7, 8, 9, 10, 11, 12, 13, 14]]⟩ (.node 7 ⟨[⟨0, false, [], false, none⟩, ⟨1, false, [], false, none⟩, ⟨2, false, [], false, none⟩, ⟨3, false, [], false, none⟩, ⟨4, false, [], false, none⟩, ⟨5, false, [], false, none⟩, ⟨6, false, [], false, none⟩, ⟨7, false, [], false, none⟩, ⟨8, false, [], false, none⟩, ⟨9, false, [], false, none⟩, ⟨10, false, [], false, none⟩, ⟨11, false, [], false, none⟩, ⟨12, false, [], false, none⟩, ⟨13, false, [], false, none⟩, ⟨14, false, [], false, none⟩, ⟨15, false, [], false, none⟩, ⟨16, false, [], false, none⟩, ⟨17, false, [], false, none⟩, ⟨18, false, [], false, none⟩], [[], [], [0, 1], [0, 1, 2], [0, 1, 2, 3], [0, 1, 2, 3, 4], [0, 1, 2, 3, 4, 5], [0, 1, 2, 3, 4, 5], [0, 1, 2, 3, 4, 5, 6, 7], [0, 1, 2, 3, 4, 5, 6, 7, 8], [0, 1, 2, 3, 4, 5], [0, 1, 2, 3, 4, 5], [0, 1, 2, 3, 4, 5, 10, 11], [0, 1, 2, 3, 4, 5, 10, 11, 12], [0, 1, 2, 3, 4, 5], [0, 1, 2, 3, 4, 5, 10, 11, 12, 13, 14], [0, 1, 2, 3, 4, 5, 10, 11, 12, 13, 14, 15], [0, 1, 2, 3, 4, 5, 6, 7, 8, 9, 10, 11, 12, 13, 14, 15, 16], [0, 1, 2, 3, 4, 5, 6, 7, 8, 9, 10, 11, 12, 13, 14, 15, 16, 17]]⟩ .leaf .leaf) .leaf) (.node 37 (.node 6 ⟨[⟨0, false, [], false, none⟩, ⟨1, false, [], false, none⟩, ⟨2, false, [], false, none⟩, ⟨3, false, [], false, none⟩, ⟨4, false, [], false, none⟩, ⟨5, false, [], false, none⟩, ⟨6, false, [], false, none⟩, ⟨7, false, [], false, none⟩, ⟨8, false, [], false, none⟩], [[], [], [0, 1], [0, 1, 2], [], [], [4, 5], [4, 5, 6], [0, 1, 2, 3, 4, 5, 6, 7]]⟩ .leaf .leaf) (.node 32 (.node 9 ⟨[⟨0, false, [], false, none⟩, ⟨1, false, [], false, none⟩, ⟨2, false, [], false, none⟩, ⟨3, false, [], false, none⟩, ⟨4, false, [], false, none⟩, ⟨5, false, [], false, none⟩, ⟨6, false, [], false, none⟩, ⟨7, false, [], false, none⟩], [[], [], [], [0, 1, 2], [], [4], [4, 5], [0, 1, 2, 3, 4, 5, 6]]⟩ .leaf .leaf) .leaf .leaf) (.node 39 (.node 23 ⟨[⟨0, false, [], false, none⟩, ⟨1, false, [], false, none⟩, ⟨5, false, [], false, none⟩, ⟨6, false, [], false, none⟩, ⟨7, false, [], false, none⟩, ⟨8, false, [], false, none⟩, ⟨20, false, [], false, none⟩, ⟨21, false, [], false, none⟩, ⟨22, false, [], false, none⟩, ⟨23, true, [], false, none⟩, ⟨2, false, [23], false, none⟩, ⟨3, false, [23], false, none⟩, ⟨4, false, [23], false, none⟩, ⟨9, false, [23], false, none⟩, ⟨10, false, [23], false, none⟩, ⟨11, false, [23], false, none⟩, ⟨12, false, [23], false, none⟩, ⟨13, false, [23], false, none⟩, ⟨14, false, [23], false, none⟩, ⟨15, false, [23], false, none⟩, ⟨16, false, [23], false, none⟩, ⟨17, false, [23], false, none⟩, ⟨18, false, [23], false, none⟩, ⟨19, false, [23], false, none⟩, ⟨24, false, [23], false, none⟩, ⟨25, false, [23], false, none⟩, ⟨26, false, [], false, none⟩, ⟨27, true, [], false, none⟩], [[], [], [], [2], [], [], [], [5, 6], [5, 6, 7], [], [], [], [9, 11], [9, 10, 11, 12], [9, 10, 11, 12, 13], [], [], [15, 16], [15, 16, 17], [9, 10, 11, 12, 13, 14, 15, 16, 17, 18], [], [0, 20], [0, 1, 5, 6, 7, 8, 20, 21], [0, 1, 5, 6, 7, 8, 20, 21, 22], [], [2, 3, 24], [0, 1, 2, 3, 4, 5, 6, 7, 8, 9, 10, 11, 12, 13, 14, 15, 16, 17, 18, 19, 20, 21, 22, 23, 24, 25], [0, 1, 2, 3, 4, 5, 6, 7, 8, 9, 10, 11, 12, 13, 14, 15, 16, 17, 18, 19, 20, 21, 22, 23, 24, 25, 26]]⟩ (.node 14 ⟨[⟨0, false, [], false, none⟩, ⟨1, false, [], false, none⟩, ⟨2, false, [], false, none⟩, ⟨3, false, [], false, none⟩, ⟨4, false, [], false, none⟩, ⟨5, false, [], false, none⟩, ⟨6, false, [], false, none⟩, ⟨7, false, [], false, none⟩, ⟨8, false, [], false, none⟩, ⟨9, false, [], false, none⟩, ⟨10, false, [], false, none⟩, ⟨11, false, [], false, none⟩, ⟨12, false, [], false, none⟩, ⟨13, false, [], false, none⟩], [[], [], [1], [0, 1, 2], [0, 1, 2, 3], [0, 1, 2, 3, 4], [0, 1, 2, 3, 4], [0, 1, 2, 3, 4], [0, 1, 2, 3, 4], [0, 1, 2, 3, 4, 7, 8], [0, 1, 2, 3, 4, 7, 8, 9], [0, 1, 2, 3, 4, 6, 7, 8, 9, 10], [0, 1, 2, 3, 4, 5, 6, 7, 8, 9, 10, 11], [0, 1, 2, 3, 4, 5, 6, 7, 8, 9, 10, 11, 12]]⟩ .leaf .leaf) (.node 28 ⟨[⟨0, false, [], false, none⟩, ⟨1, false, [], false, none⟩, ⟨2, false, [], false, none⟩, ⟨3, false, [], false, none⟩, ⟨4, false, [], false, none⟩, ⟨5, false, [], false, none⟩, ⟨6, false, [], false, none⟩, ⟨7, false, [], false, none⟩, ⟨8, false, [], false, none⟩, ⟨9, false, [], false, none⟩, ⟨10, false, [], false, none⟩, ⟨11, false, [], false, none⟩, ⟨12, true, [], false, none⟩], [[], [], [1], [], [], [], [3, 5], [3, 4, 5, 6], [3, 4, 5, 6, 7], [], [0, 9], [0, 1, 2, 3, 4, 5, 6, 7, 8, 9, 10], [0, 1, 2, 3, 4, 5, 6, 7, 8, 9, 10, 11]]⟩ .leaf .leaf)) .leaf .leaf)) (.node 42 (.node 13 ⟨[⟨0, false, [], false, none⟩, ⟨1, false, [], false, none⟩, ⟨2, false, [], false, none⟩, ⟨3, false, [], false, none⟩, ⟨4, false, [], false, none⟩, ⟨5, false, [], false, none⟩, ⟨6, false, [], false, none⟩, ⟨7, false, [], false, none⟩, ⟨8, false, [], false, none⟩, ⟨9, false, [], false, none⟩, ⟨10, false, [], false, none⟩, ⟨11, false, [], false, none⟩, ⟨12, false, [], false, none⟩, ⟨13, false, [], false, none⟩, ⟨14, true, [], false, none⟩, ⟨15, false, [], false, none⟩], [[], [], [], [1, 2], [1, 2, 3], [], [1, 2, 3, 4, 5], [1, 2, 3, 4, 5, 6], [], [], [8, 9], [8, 9, 10], [1, 2, 3, 4, 5, 6, 7, 8, 9, 10, 11], [1, 2, 3, 4, 5, 6, 7, 8, 9, 10, 11, 12], [0, 1, 2, 3, 4, 5, 6, 7, 8, 9, 10, 11, 12, 13], [0, 1, 2, 3, 4, 5, 6, 7, 8, 9, 10, 11, 12, 13, 14]]⟩ .leaf .leaf) (.node 41 (.node 11 ⟨[⟨0, false, [], false, none⟩, ⟨1, false, [], false, none⟩, ⟨2, false, [], false, none⟩, ⟨3, false, [], false, none⟩, ⟨4, false, [], false, none⟩, ⟨5, false, [], false, none⟩, ⟨6, false, [], false, none⟩, ⟨7, false, [], false, none⟩, ⟨8, false, [], false, none⟩, ⟨9, false, [], false, none⟩, ⟨10, false, [], false, none⟩, ⟨11, false, [], false, none⟩, ⟨12, false, [], false, none⟩, ⟨13, false, [], false, none⟩, ⟨14, false, [], false, none⟩], [[], [], [0, 1], [0, 1, 2], [], [0, 1, 2, 3, 4], [0, 1, 2, 3, 4, 5], [], [], [7, 8], [7, 8, 9], [], [7, 8, 9, 10, 11], [7, 8, 9, 10, 11, 12], [0, 1, 2, 3, 4, 5, 6, 7, 8, 9, 10, 11, 12, 13]]⟩ (.node 6 ⟨[⟨0, false, [], false, none⟩, ⟨1, false, [], false, none⟩, ⟨2, false, [], false, none⟩, ⟨3, false, [], false, none⟩, ⟨4, false, [], false, none⟩, ⟨5, false, [], false, none⟩, ⟨6, false, [], false, none⟩, ⟨7, false, [], false, none⟩, ⟨8, false, [], false, none⟩, ⟨9, false, [], false, none⟩, ⟨10, false, [], false, none⟩], [[], [], [0, 1], [0, 1, 2], [0, 1, 2, 3], [], [], [5, 6], [5, 6, 7], [5, 6, 7, 8], [0, 1, 2, 3, 4, 5, 6, 7, 8, 9]]⟩ .leaf .leaf) .leaf) .leaf .leaf) (.node 43 (.node 7 ⟨[⟨0, false, [], false, none⟩, ⟨1, false, [], false, none⟩, ⟨2, false, [], false, none⟩, ⟨3, false, [], false, none⟩, ⟨4, false, [], false, none⟩, ⟨5, false, [], false, none⟩, ⟨6, false, [], false, none⟩, ⟨7, false, [], false, none⟩, ⟨8, false, [], false, none⟩, ⟨9, false, [], false, none⟩, ⟨10, false, [], false, none⟩, ⟨11, false, [], false, none⟩, ⟨12, false, [], false, none⟩, ⟨13, false, [], false, none⟩, ⟨14, false, [], false, none⟩, ⟨15, false, [], false, none⟩, ⟨16, false, [], false, none⟩], [[], [], [0, 1], [0, 1, 2], [0, 1, 2, 3], [], [], [5, 6], [5, 6, 7], [], [5, 6, 7, 8, 9], [5, 6, 7, 8, 9, 10], [5, 6, 7, 8, 9, 10, 11], [5, 6, 7, 8, 9, 10, 11, 12], [0, 1, 2, 3, 4, 5, 6, 7, 8, 9, 10, 11, 12, 13], [0, 1, 2, 3, 4, 5, 6, 7, 8, 9, 10, 11, 12, 13, 14], [0, 1, 2, 3, 4, 5, 6, 7, 8, 9, 10, 11, 12, 13, 14, 15]]⟩ .leaf .leaf) .leaf .leaf)))) (.node 72 (.node 1 ⟨[⟨0, false, [], false, none⟩, ⟨1, false, [], false, none⟩, ⟨2, false, [], false, none⟩, ⟨3, false, [], false, none⟩, ⟨4, false, [], false, none⟩, ⟨5, false, [], false, none⟩, ⟨6, false, [], false, none⟩, ⟨7, false, [], false, none⟩, ⟨8, false, [], false, none⟩, ⟨9, false, [], false, none⟩, ⟨10, false, [], false, none⟩, ⟨11, false, [], false, none⟩], [[], [0], [], [2], [2, 3], [2, 3, 4], [], [6], [6, 7], [6, 7, 8], [0, 1, 2, 3, 4, 5, 6, 7, 8, 9], [0, 1, 2, 3, 4, 5, 6, 7, 8, 9, 10]]⟩ .leaf .leaf) (.node 65 (.node 9 ⟨[⟨0, false, [], false, none⟩, ⟨1, false, [], false, none⟩, ⟨2, false, [], false, none⟩, ⟨3, false, [], false, none⟩, ⟨4, false, [], false, none⟩, ⟨5, false, [], false, none⟩, ⟨6, false, [], false, none⟩, ⟨7, false, [], false, none⟩, ⟨8, false, [], false, none⟩, ⟨9, false, [], false, none⟩, ⟨10, false, [], false, none⟩, ⟨11, false, [], false, none⟩, ⟨12, false, [], false, none⟩, ⟨13, false, [], false, none⟩], [[], [], [], [1, 2], [1, 2, 3], [], [], [], [6, 7], [5, 6, 7, 8], [5, 6, 7, 8, 9], [1, 2, 3, 4, 5, 6, 7, 8, 9, 10], [0, 1, 2, 3, 4, 5, 6, 7, 8, 9, 10, 11], [0, 1, 2, 3, 4, 5, 6, 7, 8, 9, 10, 11, 12]]⟩ .leaf .leaf) (.node 50 (.node 12 ⟨[⟨0, false, [], false, none⟩, ⟨1, false, [], false, none⟩, ⟨2, false, [], false, none⟩, ⟨3, false, [], false, none⟩, ⟨4, false, [], false, none⟩, ⟨5, false, [], false, none⟩, ⟨6, false, [], false, none⟩, ⟨7, false, [], false, none⟩, ⟨8, false, [], false, none⟩, ⟨9, false, [], false, none⟩, ⟨10, false, [], false, none⟩, ⟨11, false, [], false, none⟩, ⟨12, false, [], false, none⟩, ⟨13, false, [], false, none⟩, ⟨14, false, [], false, none⟩, ⟨15, false, [], false, none⟩, ⟨16, false, [], false, none⟩, ⟨17, false, [], false, none⟩, ⟨18, false, [], false, none⟩, ⟨19, false, [], false, none⟩, ⟨20, false, [], false, none⟩, ⟨21, false, [], false, none⟩, ⟨22, false, [], false, none⟩, ⟨23, true, [], false, none⟩], [[], [], [], [], [2, 3], [2, 3, 4], [], [], [6, 7], [6, 7, 8], [], [6, 7, 8, 9, 10], [6, 7, 8, 9, 10, 11], [], [], [13, 14], [13, 14, 15], [], [13, 14, 15, 16, 17], [13, 14, 15, 16, 17, 18], [6, 7, 8, 9, 10, 11, 12, 13, 14, 15, 16, 17, 18, 19], [2, 3, 4, 5, 6, 7, 8, 9, 10, 11, 12, 13, 14, 15, 16, 17, 18, 19, 20], [0, 1, 2, 3, 4, 5, 6, 7, 8, 9, 10, 11, 12, 13, 14, 15, 16, 17, 18, 19, 20, 21], [0, 1, 2, 3, 4, 5, 6, 7, 8, 9, 10, 11, 12, 13, 14, 15, 16, 17, 18, 19, 20, 21, 22]]⟩ .leaf .leaf) (.node 45 (.node 4 ⟨[⟨0, false, [], false, none⟩, ⟨1, false, [], false, none⟩, ⟨2, false, [], false, none⟩, ⟨3, false, [], false, none⟩, ⟨4, false, [], false, none⟩, ⟨5, false, [], false, none⟩, ⟨6, false, [], false, none⟩, ⟨7, false, [], false, none⟩, ⟨8, false, [], false, none⟩, ⟨9, false, [], false, none⟩, ⟨10, false, [], false, none⟩, ⟨11, false, [], false, none⟩, ⟨12, false, [], false, none⟩, ⟨13, false, [], false, none⟩, ⟨14, false, [], false, none⟩], [[], [], [0, 1], [0, 1, 2], [], [0, 1, 2, 3, 4], [0, 1, 2, 3, 4, 5], [], [], [7, 8], [7, 8, 9], [], [7, 8, 9, 10, 11], [7, 8, 9, 10, 11, 12], [0, 1, 2, 3, 4, 5, 6, 7, 8, 9, 10, 11, 12, 13]]⟩ .leaf .leaf) .leaf .leaf) (.node 63 (.node 22 ⟨[⟨0, false, [], false, none⟩, ⟨1, false, [], false, none⟩, ⟨2, false, [], false, none⟩, ⟨3, false, [], false, none⟩, ⟨4, false, [], false, none⟩, ⟨5, false, [], false, none⟩, ⟨6, false, [], false, none⟩, ⟨7, false, [], false, none⟩, ⟨8, false, [], false, none⟩, ⟨9, false, [], false, none⟩, ⟨10, false, [], false, none⟩, ⟨11, false, [], false, none⟩, ⟨12, false, [], false, none⟩, ⟨13, false, [], false, none⟩, ⟨14, false, [], false, none⟩, ⟨15, false, [], false, none⟩, ⟨16, false, [], false, none⟩, ⟨17, false, [], false, none⟩, ⟨18, false, [], false, none⟩, ⟨19, false, [], false, none⟩, ⟨20, false, [], false, none⟩, ⟨21, false, [], false, none⟩, ⟨22, false, [], false, none⟩, ⟨23, false, [], false, none⟩, ⟨24, false, [], false, none⟩, ⟨25, false, [], false, none⟩, ⟨26, false, [], false, none⟩, ⟨27, false, [], false, none⟩, ⟨28, false, [], false, none⟩, ⟨29, true, [], false, none⟩], [[], [], [0, 1], [0, 1, 2], [], [], [], [5, 6], [5, 6, 7], [], [5, 6, 7, 8, 9], [5, 6, 7, 8, 9, 10], [], [], [12, 13], [12, 13, 14], [], [12, 13, 14, 15, 16], [12, 13, 14, 15, 16, 17], [], [], [19, 20], [19, 20, 21], [], [19, 20, 21, 22, 23], [19, 20, 21, 22, 23, 24], [12, 13, 14, 15, 16, 17, 18, 19, 20, 21, 22, 23, 24, 25], [5, 6, 7, 8, 9, 10, 11, 12, 13, 14, 15, 16, 17, 18, 19, 20, 21, 22, 23, 24, 25, 26], [0, 1, 2, 3, 4, 5, 6, 7, 8, 9, 10, 11, 12, 13, 14, 15, 16, 17, 18, 19, 20, 21, 22, 23, 24, 25, 26, 27], [0, 1, 2, 3, 4, 5, 6, 7, 8, 9, 10, 11, 12, 13, 14, 15, 16, 17, 18, 19, 20, 21, 22, 23, 24, 25, 26, 27, 28]]⟩ .leaf .leaf) .leaf .leaf)) (.node 69 (.node 11 ⟨[⟨0, false, [], false, none⟩, ⟨1, false, [], false, none⟩, ⟨2, false, [], false, none⟩, ⟨3, false, [], false, none⟩, ⟨4, false, [], false, none⟩, ⟨5, false, [], false, none⟩, ⟨6, false, [], false, none⟩, ⟨7, false, [], false, none⟩, ⟨8, false, [], false, none⟩, ⟨9, false, [], false, none⟩, ⟨10, false, [], false, none⟩, ⟨11, false, [], false, none⟩, ⟨12, false, [], false, none⟩, ⟨13, false, [], false, none⟩, ⟨14, false, [], false, none⟩, ⟨15, false, [], false, none⟩, ⟨16, false, [], false, none⟩, ⟨17, false, [], false, none⟩, ⟨18, false, [], false, none⟩, ⟨19, false, [], false, none⟩, ⟨20, false, [], false, none⟩, ⟨21, false, [], false, none⟩, ⟨22, false, [], false, none⟩], [[], [], [], [], [2, 3], [2, 3, 4], [], [2, 3, 4, 5, 6], [2, 3, 4, 5, 6, 7], [1, 2, 3, 4, 5, 6, 7, 8], [], [], [], [12], [11, 12, 13], [], [], [16], [15, 16, 17], [10, 11, 12, 13, 14, 15, 16, 17, 18], [1, 2, 3, 4, 5, 6, 7, 8, 9, 10, 11, 12, 13, 14, 15, 16, 17, 18, 19], [0, 1, 2, 3, 4, 5, 6, 7, 8, 9, 10, 11, 12, 13, 14, 15, 16, 17, 18, 19, 20], [0, 1, 2, 3, 4, 5, 6, 7, 8, 9, 10, 11, 12, 13, 14, 15, 16, 17, 18, 19, 20, 21]]⟩ .leaf .leaf) (.node 67 (.node 28 ⟨[⟨0, false, [], false, none⟩, ⟨1, false, [], false, none⟩, ⟨2, false, [], false, none⟩, ⟨3, false, [], false, none⟩, ⟨4, false, [], false, none⟩, ⟨5, false, [], false, none⟩, ⟨6, false, [], false, none⟩, ⟨7, false, [], false, none⟩, ⟨8, false, [], false, none⟩, ⟨9, false, [], false, none⟩, ⟨10, false, [], false, none⟩, ⟨11, false, [], false, none⟩, ⟨12, false, [], false, none⟩, ⟨13, false, [], false, none⟩, ⟨14, false, [], false, none⟩, ⟨15, false, [], false, none⟩, ⟨16, false, [], false, none⟩, ⟨17, false, [], false, none⟩, ⟨18, false, [], false, none⟩, ⟨19, false, [], false, none⟩, ⟨20, false, [], false, none⟩, ⟨21, false, [], false, none⟩, ⟨22, false, [], false, none⟩, ⟨23, true, [], false, none⟩], [[], [], [], [0], [0, 3], [0, 1, 3, 4], [0, 1, 2, 3, 4, 5], [0, 1, 2, 3, 4, 5, 6], [], [], [], [], [9], [9, 12], [9, 10, 12, 13], [9, 10, 11, 12, 13, 14], [9, 10, 11, 12, 13, 14, 15], [8, 9, 10, 11, 12, 13, 14, 15, 16], [0, 1, 2, 3, 4, 5, 6, 7, 8, 9, 10, 11, 12, 13, 14, 15, 16, 17], [0], [0, 19], [0, 1, 19, 20], [0, 1, 2, 3, 4, 5, 6, 7, 8, 9, 10, 11, 12, 13, 14, 15, 16, 17, 18, 19, 20, 21], [0, 1, 2, 3, 4, 5, 6, 7, 8, 9, 10, 11, 12, 13, 14, 15, 16, 17, 18, 19, 20, 21, 22]]⟩ (.node 13 ⟨[⟨0, false, [], false, none⟩, ⟨1, false, [], false, none⟩, ⟨5, false, [], false, none⟩, ⟨6, false, [], false, none⟩, ⟨7, false, [], false, none⟩, ⟨8, false, [], false, none⟩, ⟨9, false, [], false, none⟩, ⟨10, false, [], false, none⟩, ⟨11, false, [], false, none⟩, ⟨12, false, [], false, none⟩, ⟨13, false, [], false, none⟩, ⟨14, false, [], false, none⟩, ⟨15, false, [], false, none⟩, ⟨16, false, [], false, none⟩, ⟨17, false, [], false, none⟩, ⟨18, false, [], false, none⟩, ⟨19, false, [], false, none⟩, ⟨20, false, [], false, none⟩, ⟨21, true, [], false, none⟩, ⟨2, false, [21], false, none⟩, ⟨3, false, [21], false, none⟩, ⟨4, false, [21], false, none⟩, ⟨22, false, [21], false, none⟩, ⟨23, false, [21], false, none⟩, ⟨24, false, [], false, none⟩, ⟨25, true, [], false, none⟩], [[], [], [], [], [3], [], [], [6], [5], [5, 8], [5, 6, 7, 8, 9], [5, 6, 7, 8, 9, 10], [], [], [12], [12, 14], [12, 13, 14, 15], [12, 13, 14, 15, 16], [0], [0, 18], [0, 1, 5, 6, 7, 8, 9, 10, 11, 12, 13, 14, 15, 16, 17, 18, 19], [0, 1, 5, 6, 7, 8, 9, 10, 11, 12, 13, 14, 15, 16, 17, 18, 19, 20], [2], [2, 22], [0, 1, 2, 3, 4, 5, 6, 7, 8, 9, 10, 11, 12, 13, 14, 15, 16, 17, 18, 19, 20, 21, 22, 23], [0, 1, 2, 3, 4, 5, 6, 7, 8, 9, 10, 11, 12, 13, 14, 15, 16, 17, 18, 19, 20, 21, 22, 23, 24]]⟩ (.node 9 ⟨[⟨0, false, [], false, none⟩, ⟨1, false, [], false, none⟩, ⟨2, false, [], false, none⟩, ⟨3, false, [], false, none⟩, ⟨4, false, [], false, none⟩, ⟨5, false, [], false, none⟩, ⟨6, false, [], false, none⟩, ⟨7, false, [], false, none⟩, ⟨8, false, [], false, none⟩, ⟨9, false, [], false, none⟩, ⟨10, false, [], false, none⟩, ⟨11, false, [], false, none⟩, ⟨12, false, [], false, none⟩, ⟨13, false, [], false, none⟩, ⟨14, false, [], false, none⟩, ⟨15, false, [], false, none⟩, ⟨16, false, [], false, none⟩, ⟨17, false, [], false, none⟩, ⟨18, false, [], false, none⟩, ⟨19, false, [], false, none⟩, ⟨20, false, [], false, none⟩, ⟨21, false, [], false, none⟩, ⟨22, false, [], false, none⟩], [[], [0], [0, 1], [0, 1, 2], [0, 1, 2, 3], [0, 1, 2, 3, 4], [0, 1, 2, 3, 4, 5], [0, 1, 2, 3, 4, 5, 6], [0, 1, 2, 3, 4, 5, 6, 7], [0, 1, 2, 3, 4, 5, 6], [0, 1, 2, 3, 4, 5, 6], [0, 1, 2, 3, 4, 5, 6, 10], [0, 1, 2, 3, 4, 5, 6], [0, 1, 2, 3, 4, 5, 6, 12], [0, 1, 2, 3, 4, 5, 6, 9], [0, 1, 2, 3, 4, 5, 6, 9, 14], [0, 1, 2, 3, 4, 5, 6, 9, 10, 11, 14, 15], [0, 1, 2, 3, 4, 5, 6, 9, 10, 11, 12, 13, 14, 15, 16], [0, 1, 2, 3, 4, 5, 6, 9, 10, 11, 12, 13, 14, 15, 16, 17], [0, 1, 2, 3, 4, 5, 6, 7, 8, 9, 10, 11, 12, 13, 14, 15, 16, 17, 18], [0, 1, 2, 3, 4, 5, 6, 7, 8, 9, 10, 11, 12, 13, 14, 15, 16, 17, 18, 19], [0, 1, 2, 3, 4, 5, 6, 7, 8, 9, 10, 11, 12, 13, 14, 15, 16, 17, 18, 19, 20], [0, 1, 2, 3, 4, 5, 6, 7, 8, 9, 10, 11, 12, 13, 14, 15, 16, 17, 18, 19, 20, 21]]⟩ .leaf .leaf) (.node 17 ⟨[⟨0, false, [], false, none⟩, ⟨1, false, [], false, none⟩, ⟨2, false, [], false, none⟩, ⟨7, false, [], false, none⟩, ⟨8, false, [], false, none⟩, ⟨9, false, [], false, none⟩, ⟨10, false, [], false, none⟩, ⟨11, false, [], false, none⟩, ⟨12, false, [], false, none⟩, ⟨13, false, [], false, none⟩, ⟨14, false, [], false, none⟩, ⟨15, false, [], false, none⟩, ⟨16, false, [], false, none⟩, ⟨17, false, [], false, none⟩, ⟨18, false, [], false, none⟩, ⟨19, false, [], false, none⟩, ⟨20, false, [], false, none⟩, ⟨21, false, [], false, none⟩, ⟨22, false, [], false, none⟩, ⟨23, false, [], false, none⟩, ⟨24, false, [], false, none⟩, ⟨25, false, [], false, none⟩, ⟨26, false, [], false, none⟩, ⟨27, false, [], false, none⟩, ⟨28, true, [], false, none⟩, ⟨3, false, [28], false, none⟩, ⟨4, false, [28], false, none⟩, ⟨5, false, [28], false, none⟩, ⟨6, false, [28], false, none⟩, ⟨29, false, [28], false, none⟩, ⟨30, false, [28], false, none⟩, ⟨31, false, [28], false, none⟩, ⟨32, false, [], false, none⟩, ⟨33, true, [], false, none⟩], [[], [], [], [], [], [], [5], [], [], [], [9], [7], [7, 11], [7, 8, 11, 12], [7, 8, 9, 10, 11, 12, 13], [7, 8, 9, 10, 11, 12, 13, 14], [], [], [], [16], [16, 19], [16, 17, 19, 20], [16, 17, 18, 19, 20, 21], [16, 17, 18, 19, 20, 21, 22], [0], [0, 24], [0, 1, 24, 25], [0, 1, 2, 7, 8, 9, 10, 11, 12, 13, 14, 15, 16, 17, 18, 19, 20, 21, 22, 23, 24, 25, 26], [0, 1, 2, 7, 8, 9, 10, 11, 12, 13, 14, 15, 16, 17, 18, 19, 20, 21, 22, 23, 24, 25, 26, 27], [3], [3, 29], [3, 4, 29, 30], [0, 1, 2, 3, 4, 5, 6, 7, 8, 9, 10, 11, 12, 13, 14, 15, 16, 17, 18, 19, 20, 21, 22, 23, 24, 25, 26, 27, 28, 29, 30, 31], [0, 1, 2, 3, 4, 5, 6, 7, 8, 9, 10, 11, 12, 13, 14, 15, 16, 17, 18, 19, 20, 21, 22, 23, 24, 25, 26, 27, 28, 29, 30, 31, 32]]⟩ .leaf .leaf)) (.node 54 ⟨[⟨0, false, [], false, none⟩, ⟨1, false, [], false, none⟩, ⟨2, false, [], false, none⟩, ⟨3, false, [], false, none⟩, ⟨4, false, [], false, none⟩, ⟨5, false, [], false, none⟩, ⟨6, false, [], false, none⟩, ⟨7, false, [], false, none⟩, ⟨8, false, [], false, none⟩, ⟨9, false, [], false, none⟩, ⟨10, false, [], false, none⟩, ⟨11, false, [], false, none⟩, ⟨12, false, [], false, none⟩, ⟨13, false, [], false, none⟩, ⟨14, false, [], false, none⟩, ⟨15, false, [], false, none⟩, ⟨16, false, [], false, none⟩, ⟨17, false, [], false, none⟩, ⟨18, false, [], false, none⟩, ⟨19, false, [], false, none⟩, ⟨20, false, [], false, none⟩, ⟨21, true, [], false, none⟩], [[], [], [], [0], [0, 3], [0, 1, 3, 4], [0, 1, 2, 3, 4, 5], [0, 1, 2, 3, 4, 5, 6], [], [], [], [8], [8, 11], [8, 9, 11, 12], [8, 9, 10, 11, 12, 13], [8, 9, 10, 11, 12, 13, 14], [0, 1, 2, 3, 4, 5, 6, 7, 8, 9, 10, 11, 12, 13, 14, 15], [0], [0, 17], [0, 1, 17, 18], [0, 1, 2, 3, 4, 5, 6, 7, 8, 9, 10, 11, 12, 13, 14, 15, 16, 17, 18, 19], [0, 1, 2, 3, 4, 5, 6, 7, 8, 9, 10, 11, 12, 13, 14, 15, 16, 17, 18, 19, 20]]⟩ (.node 37 ⟨[⟨0, false, [], false, none⟩, ⟨1, false, [], false, none⟩, ⟨2, false, [], false, none⟩, ⟨3, false, [], false, none⟩, ⟨4, false, [], false, none⟩, ⟨5, false, [], false, none⟩, ⟨6, false, [], false, none⟩, ⟨7, false, [], false, none⟩, ⟨8, false, [], false, none⟩, ⟨9, false, [], false, none⟩, ⟨10, false, [], false, none⟩, ⟨11, false, [], false, none⟩, ⟨12, false, [], false, none⟩, ⟨13, false, [], false, none⟩, ⟨14, false, [], false, none⟩, ⟨15, false, [], false, none⟩, ⟨16, false, [], false, none⟩, ⟨17, false, [], false, none⟩, ⟨18, false, [], false, none⟩, ⟨19, false, [], false, none⟩, ⟨20, false, [], false, none⟩, ⟨21, false, [], false, none⟩, ⟨22, false, [], false, none⟩, ⟨23, true, [], false, none⟩], [[], [], [], [0], [0, 3], [0, 1, 3, 4], [0, 1, 2, 3, 4, 5], [0, 1, 2, 3, 4, 5, 6], [], [], [], [], [9], [9, 12], [9, 10, 12, 13], [9, 10, 11, 12, 13, 14], [9, 10, 11, 12, 13, 14, 15], [8, 9, 10, 11, 12, 13, 14, 15, 16], [0, 1, 2, 3, 4, 5, 6, 7, 8, 9, 10, 11, 12, 13, 14, 15, 16, 17], [0], [0, 19], [0, 1, 19, 20], [0, 1, 2, 3, 4, 5, 6, 7, 8, 9, 10, 11, 12, 13, 14, 15, 16, 17, 18, 19, 20, 21], [0, 1, 2, 3, 4, 5, 6, 7, 8, 9, 10, 11, 12, 13, 14, 15, 16, 17, 18, 19, 20, 21, 22]]⟩ .leaf .leaf) .leaf)) .leaf .leaf) (.node 71 (.node 2 ⟨[⟨0, false, [], false, none⟩, ⟨1, false, [], false, none⟩, ⟨2, false, [], false, none⟩, ⟨3, false, [], false, none⟩, ⟨4, false, [], false, none⟩, ⟨5, false, [], false, none⟩], [[], [], [], [1, 2], [0, 1], [0, 1, 2, 3, 4]]⟩ .leaf .leaf) .leaf .leaf))) (.node 80 (.node 5 ⟨[⟨0, false, [], false, none⟩, ⟨1, false, [], false, none⟩, ⟨2, false, [], false, none⟩, ⟨3, false, [], false, none⟩, ⟨4, false, [], false, none⟩, ⟨5, false, [], false, none⟩, ⟨6, true, [], false, none⟩, ⟨7, false, [], false, none⟩], [[], [], [0, 1], [], [], [3, 4], [0, 1, 2, 3, 4, 5], [0, 1, 2, 3, 4, 5, 6]]⟩ .leaf .leaf) (.node 77 (.node 3 ⟨[⟨0, false, [], false, none⟩, ⟨1, false, [], false, none⟩, ⟨2, false, [], false, none⟩, ⟨3, false, [], false, none⟩, ⟨4, false, [], false, none⟩, ⟨5, false, [], false, none⟩, ⟨6, false, [], false, none⟩, ⟨7, false, [], false, none⟩, ⟨8, false, [], false, none⟩], [[], [], [0, 1], [0, 1, 2], [], [0, 1, 2, 3, 4], [], [0, 1, 2, 3, 4, 5, 6], [0, 1, 2, 3, 4, 5, 6, 7]]⟩ .leaf .leaf) (.node 73 (.node 16 ⟨[⟨0, false, [], false, none⟩, ⟨1, false, [], false, none⟩, ⟨2, false, [], false, none⟩, ⟨3, false, [], false, none⟩, ⟨4, false, [], false, none⟩, ⟨5, false, [], false, none⟩], [[], [], [1], [1, 2], [0, 1, 2, 3], [0, 1, 2, 3, 4]]⟩ (.node 13 ⟨[⟨0, false, [], false, none⟩, ⟨1, false, [], false, none⟩, ⟨2, false, [], false, none⟩, ⟨3, false, [], false, none⟩, ⟨4, false, [], false, none⟩, ⟨5, false, [], false, none⟩, ⟨6, false, [], false, none⟩, ⟨7, false, [], false, none⟩, ⟨8, false, [], false, none⟩, ⟨9, false, [], false, none⟩, ⟨10, false, [], false, none⟩, ⟨11, false, [], false, none⟩, ⟨12, false, [], false, none⟩, ⟨13, false, [], false, none⟩, ⟨14, false, [], false, none⟩, ⟨15, false, [], false, none⟩, ⟨16, true, [], false, none⟩], [[], [], [], [0, 2], [0, 1, 2, 3], [0, 1, 2, 3, 4], [], [], [], [6, 8], [6, 7, 8, 9], [6, 7, 8, 9, 10], [0, 1, 2, 3, 4, 5, 6, 7, 8, 9, 10, 11], [], [0, 13], [0, 1, 2, 3, 4, 5, 6, 7, 8, 9, 10, 11, 12, 13, 14], [0, 1, 2, 3, 4, 5, 6, 7, 8, 9, 10, 11, 12, 13, 14, 15]]⟩ .leaf .leaf) .leaf) .leaf .leaf) (.node 79 (.node 8 ⟨[⟨0, false, [], false, none⟩, ⟨1, false, [], false, none⟩, ⟨2, false, [], false, none⟩, ⟨3, false, [], false, none⟩, ⟨4, false, [], false, none⟩, ⟨5, false, [], false, none⟩, ⟨6, false, [], false, none⟩, ⟨7, false, [], false, none⟩, ⟨8, false, [], false, none⟩, ⟨9, false, [], false, none⟩, ⟨10, false, [], false, none⟩, ⟨11, true, [], false, none⟩], [[], [], [], [], [], [2, 4], [2, 3, 4, 5], [2, 3, 4, 5, 6], [], [0, 8], [0, 1, 2, 3, 4, 5, 6, 7, 8, 9], [0, 1, 2, 3, 4, 5, 6, 7, 8, 9, 10]]⟩ .leaf .leaf) .leaf .leaf)) (.node 85 (.node 14 ⟨[⟨0, false, [], false, none⟩, ⟨1, false, [], false, none⟩, ⟨2, false, [], false, none⟩, ⟨3, false, [], false, none⟩, ⟨4, false, [], false, none⟩, ⟨5, false, [], false, none⟩, ⟨6, false, [], false, none⟩, ⟨7, true, [], false, none⟩], [[], [], [], [2], [], [0, 4], [0, 1, 2, 3, 4, 5], [0, 1, 2, 3, 4, 5, 6]]⟩ (.node 12 ⟨[⟨0, false, [], false, none⟩, ⟨1, false, [], false, none⟩, ⟨2, false, [], false, none⟩, ⟨3, false, [], false, none⟩, ⟨4, false, [], false, none⟩, ⟨5, false, [], false, none⟩, ⟨6, false, [], false, none⟩, ⟨7, false, [], false, none⟩, ⟨8, false, [], false, none⟩, ⟨9, false, [], false, none⟩, ⟨10, false, [], false, none⟩, ⟨11, false, [], false, none⟩, ⟨12, false, [], false, none⟩, ⟨13, false, [], false, none⟩, ⟨14, false, [], false, none⟩, ⟨15, true, [], false, none⟩, ⟨16, false, [], false, none⟩], [[], [], [], [], [1, 3], [1, 2, 3, 4], [1, 2, 3, 4, 5], [], [], [], [7, 9], [7, 8, 9, 10], [7, 8, 9, 10, 11], [1, 2, 3, 4, 5, 6, 7, 8, 9, 10, 11, 12], [1, 2, 3, 4, 5, 6, 7, 8, 9, 10, 11, 12, 13], [0, 1, 2, 3, 4, 5, 6, 7, 8, 9, 10, 11, 12, 13, 14], [0, 1, 2, 3, 4, 5, 6, 7, 8, 9, 10, 11, 12, 13, 14, 15]]⟩ .leaf .leaf) .leaf) (.node 81 (.node 5 ⟨[⟨0, false, [], false, none⟩, ⟨1, false, [], false, none⟩, ⟨2, false, [], false, none⟩, ⟨3, false, [], false, none⟩, ⟨4, false, [], false, none⟩, ⟨5, false, [], false, none⟩, ⟨6, true, [], false, none⟩, ⟨7, false, [], false, none⟩], [[], [], [0, 1], [], [], [3, 4], [0, 1, 2, 3, 4, 5], [0, 1, 2, 3, 4, 5, 6]]⟩ .leaf .leaf) .leaf .leaf) (.node 88 (.node 7 ⟨[⟨0, false, [], false, none⟩, ⟨1, false, [], false, none⟩, ⟨2, false, [], false, none⟩, ⟨3, false, [], false, none⟩, ⟨4, false, [], false, none⟩, ⟨5, false, [], false, none⟩, ⟨6, false, [], false, none⟩, ⟨7, false, [], false, none⟩, ⟨8, false, [], false, none⟩, ⟨9, false, [], false, none⟩, ⟨10, false, [], false, none⟩, ⟨11, false, [], false, none⟩, ⟨12, true, [], false, none⟩], [[], [], [], [], [], [2, 4], [2, 3, 4, 5], [2, 3, 4, 5, 6], [2, 3, 4, 5, 6, 7], [], [0, 9], [0, 1, 2, 3, 4, 5, 6, 7, 8, 9, 10], [0, 1, 2, 3, 4, 5, 6, 7, 8, 9, 10, 11]]⟩ .leaf .leaf) .leaf .leaf)))))

noncomputable def aePlan (f b : Nat) : Option Plan := match tget aePlanT f with
  | some t => tget t b
  | none => none

noncomputable def aeC : Ctx := ⟨aeT, aeRets, aeIso, aePol, aeXPol, aePlan, true⟩

noncomputable def aeF : Tab Func :=
  (.node 55 Try.f55 (.node 27 Try.f27 (.node 13 Try.f13 (.node 6 Try.f6 (.node 3 Try.f3 (.node 1 Try.f1 (.node 0 Try.f0 .leaf .leaf) (.node 2 Try.f2 .leaf .leaf)) (.node 5 Try.f5 (.node 4 Try.f4 .leaf .leaf) .leaf)) (.node 10 Try.f10 (.node 8 Try.f8 (.node 7 Try.f7 .leaf .leaf) (.node 9 Try.f9 .leaf .leaf)) (.node 12 Try.f12 (.node 11 Try.f11 .leaf .leaf) .leaf))) (.node 20 Try.f20 (.node 17 Try.f17 (.node 15 Try.f15 (.node 14 Try.f14 .leaf .leaf) (.node 16 Try.f16 .leaf .leaf)) (.node 19 Try.f19 (.node 18 Try.f18 .leaf .leaf) .leaf)) (.node 24 Try.f24 (.node 22 Try.f22 (.node 21 Try.f21 .leaf .leaf) (.node 23 Try.f23 .leaf .leaf)) (.node 26 Try.f26 (.node 25 Try.f25 .leaf .leaf) .leaf)))) (.node 41 Try.f41 (.node 34 Try.f34 (.node 31 Try.f31 (.node 29 Try.f29 (.node 28 Try.f28 .leaf .leaf) (.node 30 Try.f30 .leaf .leaf)) (.node 33 Try.f33 (.node 32 Try.f32 .leaf .leaf) .leaf)) (.node 38 Try.f38 (.node 36 Try.f36 (.node 35 Try.f35 .leaf .leaf) (.node 37 Try.f37 .leaf .leaf)) (.node 40 Try.f40 (.node 39 Try.f39 .leaf .leaf) .leaf))) (.node 48 Try.f48 (.node 45 Try.f45 (.node 43 Try.f43 (.node 42 Try.f42 .leaf .leaf) (.node 44 Try.f44 .leaf .leaf)) (.node 47 Try.f47 (.node 46 Try.f46 .leaf .leaf) .leaf)) (.node 52 Try.f52 (.node 50 Try.f50 (.node 49 Try.f49 .leaf .leaf) (.node 51 Try.f51 .leaf .leaf)) (.node 54 Try.f54 (.node 53 Try.f53 .leaf .leaf) .leaf))))) (.node 83 Try.f83 (.node 69 Try.f69 (.node 62 Try.f62 (.node 59 Try.f59 (.node 57 Try.f57 (.node 56 Try.f56 .leaf .leaf) (.node 58 Try.f58 .leaf .leaf)) (.node 61 Try.f61 (.node 60 Try.f60 .leaf .leaf) .leaf)) (.node 66 Try.f66 (.node 64 Try.f64 (.node 63 Try.f63 .leaf .leaf) (.node 65 Try.f65 .leaf .leaf)) (.node 68 Try.f68 (.node 67 Try.f67 .leaf .leaf) .leaf))) (.node 76 Try.f76 (.node 73 Try.f73 (.node 71 Try.f71 (.node 70 Try.f70 .leaf .leaf) (.node 72 Try.f72 .leaf .leaf)) (.node 75 Try.f75 (.node 74 Try.f74 .leaf .leaf) .leaf)) (.node 80 Try.f80 (.node 78 Try.f78 (.node 77 Try.f77 .leaf .leaf) (.node 79 Try.f79 .leaf .leaf)) (.node 82 Try.f82 (.node 81 Try.f81 .leaf .leaf) .leaf)))) (.node 97 Try.f97 (.node 90 Try.f90 (.node 87 Try.f87 (.node 85 Try.f85 (.node 84 Try.f84 .leaf .leaf) (.node 86 Try.f86 .leaf .leaf)) (.node 89 Try.f89 (.node 88 Try.f88 .leaf .leaf) .leaf)) (.node 94 Try.f94 (.node 92 Try.f92 (.node 91 Try.f91 .leaf .leaf) (.node 93 Try.f93 .leaf .leaf)) (.node 96 Try.f96 (.node 95 Try.f95 .leaf .leaf) .leaf))) (.node 104 Try.f104 (.node 101 Try.f101 (.node 99 Try.f99 (.node 98 Try.f98 .leaf .leaf) (.node 100 Try.f100 .leaf .leaf)) (.node 103 Try.f103 (.node 102 Try.f102 .leaf .leaf) .leaf)) (.node 107 Try.f107 (.node 106 Try.f106 (.node 105 Try.f105 .leaf .leaf) .leaf) (.node 109 Try.f109 (.node 108 Try.f108 .leaf .leaf) .leaf))))))

end Go.Proofs.Ytjfopbpkophoeaa

/- The abstract machine of the seat is sound: written by a program of this session (wip/tools/aectx.py). -/
namespace Go.Proofs.Ytjfopbpkophoeaa
open Go Go.AE
set_option maxRecDepth 100000
theorem aeT_ok : tableOK Try.prog aeT = true := by decide +kernel
theorem aeE_ok : eqTab Try.prog aeT = true := by decide +kernel
theorem aeCode_ok : aeF.all (fun f fn => match fn.body with | some c => okCode aeC f fn.ntmps c | none => true) = true := by decide +kernel
theorem aeName_ok : aeF.all (fun _ fn => !(fn.name == "runtime.NumGoroutine")) = true := by decide +kernel
theorem aeAt_ok : aeF.All (fun f fn => Try.prog.funcs[f]? = some fn) :=
  ⟨rfl, ⟨rfl, ⟨rfl, ⟨rfl, ⟨rfl, ⟨rfl, ⟨rfl, trivial, trivial⟩, ⟨rfl, trivial, trivial⟩⟩, ⟨rfl, ⟨rfl, trivial, trivial⟩, trivial⟩⟩, ⟨rfl, ⟨rfl, ⟨rfl, trivial, trivial⟩, ⟨rfl, trivial, trivial⟩⟩, ⟨rfl, ⟨rfl, trivial, trivial⟩, trivial⟩⟩⟩, ⟨rfl, ⟨rfl, ⟨rfl, ⟨rfl, trivial, trivial⟩, ⟨rfl, trivial, trivial⟩⟩, ⟨rfl, ⟨rfl, trivial, trivial⟩, trivial⟩⟩, ⟨rfl, ⟨rfl, ⟨rfl, trivial, trivial⟩, ⟨rfl, trivial, trivial⟩⟩, ⟨rfl, ⟨rfl, trivial, trivial⟩, trivial⟩⟩⟩⟩, ⟨rfl, ⟨rfl, ⟨rfl, ⟨rfl, ⟨rfl, trivial, trivial⟩, ⟨rfl, trivial, trivial⟩⟩, ⟨rfl, ⟨rfl, trivial, trivial⟩, trivial⟩⟩, ⟨rfl, ⟨rfl, ⟨rfl, trivial, trivial⟩, ⟨rfl, trivial, trivial⟩⟩, ⟨rfl, ⟨rfl, trivial, trivial⟩, trivial⟩⟩⟩, ⟨rfl, ⟨rfl, ⟨rfl, ⟨rfl, trivial, trivial⟩, ⟨rfl, trivial, trivial⟩⟩, ⟨rfl, ⟨rfl, trivial, trivial⟩, trivial⟩⟩, ⟨rfl, ⟨rfl, ⟨rfl, trivial, trivial⟩, ⟨rfl, trivial, trivial⟩⟩, ⟨rfl, ⟨rfl, trivial, trivial⟩, trivial⟩⟩⟩⟩⟩, ⟨rfl, ⟨rfl, ⟨rfl, ⟨rfl, ⟨rfl, ⟨rfl, trivial, trivial⟩, ⟨rfl, trivial, trivial⟩⟩, ⟨rfl, ⟨rfl, trivial, trivial⟩, trivial⟩⟩, ⟨rfl, ⟨rfl, ⟨rfl, trivial, trivial⟩, ⟨rfl, trivial, trivial⟩⟩, ⟨rfl, ⟨rfl, trivial, trivial⟩, trivial⟩⟩⟩, ⟨rfl, ⟨rfl, ⟨rfl, ⟨rfl, trivial, trivial⟩, ⟨rfl, trivial, trivial⟩⟩, ⟨rfl, ⟨rfl, trivial, trivial⟩, trivial⟩⟩, ⟨rfl, ⟨rfl, ⟨rfl, trivial, trivial⟩, ⟨rfl, trivial, trivial⟩⟩, ⟨rfl, ⟨rfl, trivial, trivial⟩, trivial⟩⟩⟩⟩, ⟨rfl, ⟨rfl, ⟨rfl, ⟨rfl, ⟨rfl, trivial, trivial⟩, ⟨rfl, trivial, trivial⟩⟩, ⟨rfl, ⟨rfl, trivial, trivial⟩, trivial⟩⟩, ⟨rfl, ⟨rfl, ⟨rfl, trivial, trivial⟩, ⟨rfl, trivial, trivial⟩⟩, ⟨rfl, ⟨rfl, trivial, trivial⟩, trivial⟩⟩⟩, ⟨rfl, ⟨rfl, ⟨rfl, ⟨rfl, trivial, trivial⟩, ⟨rfl, trivial, trivial⟩⟩, ⟨rfl, ⟨rfl, trivial, trivial⟩, trivial⟩⟩, ⟨rfl, ⟨rfl, ⟨rfl, trivial, trivial⟩, trivial⟩, ⟨rfl, ⟨rfl, trivial, trivial⟩, trivial⟩⟩⟩⟩⟩⟩
theorem ae_mixed : Try.prog.follows .mixedOrders = true := Checked.mixed Try.checked
theorem ae_T : TOK Try.prog aeC.T := TOK.of_check aeT_ok
theorem ae_Q : EqOK Try.prog aeC.T := EqOK.of_check ae_T aeE_ok
theorem ae_fn {f : FuncId} {fn : Func} (h : tget aeF f = some fn) : FnOK Try.prog aeC f fn := by
  refine ⟨Tab.get_All aeAt_ok f fn h, ?_, fun c hc => ?_⟩
  · simpa using Tab.get_all aeName_ok f fn h
  · have := Tab.get_all aeCode_ok f fn h
    rw [hc] at this; exact this
theorem ae_direct {E : Ev} (hE : EvOK Try.prog E) (k : Nat) {f : FuncId} {fn : Func} {ds : List DV} {d : DV} (h : tget aeF f = some fn) (e : pureE aeC E k f fn ds = some d) : PureOK Try.prog f ds d := pureE_ok ae_T ae_Q ae_mixed hE (ae_fn h) e
theorem ae_pure {E : Ev} (hE : EvOK Try.prog E) {f : FuncId} {fn : Func} {ids : List Nat} {ds : List DV} {d : DV} (ok : OkSeg fn none ids) (h : tget aeF f = some fn) (hb : (fn.body.isSome && Nat.ble ds.length fn.ntmps) = true)
    (e : startF aeC E f 0 fn none ⟨envOf 0 (ds.map .d), [], []⟩ (doneE aeC fn 0 fun v h => freezeV h 4 v) = some d) (hfr : freshF f = false := by rfl) : PureOK Try.prog f ds d :=
  pure_of_go ae_T ae_Q ae_mixed hE (ae_fn h) ok hb e hfr
end Go.Proofs.Ytjfopbpkophoeaa

/- Chapter 06: calls whose answers are told by tables; matrices as data. -/
namespace Go.Proofs.Ytjfopbpkophoeaa
open Go Go.AE

/-- Calls are answered by a table of shapes, where 'ok' says so. -/
def evT (ok : Nat → List DV → Bool) (shape : Nat → List DV → DV) : Ev := { Ev.nil with pure := fun f ds => .node (ok f ds) (.leaf (shape f ds)) .fail }
/-- All others are walked. -/
noncomputable def evW (fs : List Nat) (ok : Nat → List DV → Bool) (shape : Nat → List DV → DV) : Ev := evO aeC aeF (evT ok shape) fs [] 30 40
open Classical in
noncomputable def okS (shape : Nat → List DV → DV) : Nat → List DV → Bool := fun f ds => isP (PureOK Try.prog f ds (shape f ds))

theorem evT_ok (shape : Nat → List DV → DV) : EvOK Try.prog (evT (okS shape) shape) := by
  refine ⟨fun f ds d e => ?_, (by intro f xs h v h' e; simp [evT, Ev.nil, Tr.val] at e), (by intro f xs h v h' e; simp [evT, Ev.nil, Tr.val] at e), (by intro l xs h v h' e; simp [evT, Ev.nil, Tr.val] at e)⟩
  simp only [evT, Tr.val] at e
  obtain ⟨h1, h2⟩ := cond_none e
  cases h2
  exact isP_iff.1 h1

theorem evW_ok (fs : List Nat) (shape : Nat → List DV → DV) : EvOK Try.prog (evW fs (okS shape) shape) :=
  evO_ok ae_T ae_Q ae_mixed (fun _ _ h => ae_fn h) (evT_ok shape) fs [] 30 40

theorem okS_is {shape : Nat → List DV → DV} {f : Nat} {ds : List DV} (h : PureOK Try.prog f ds (shape f ds)) : okS shape f ds = true := isP_iff.2 h
theorem cond_is' {R : Type} {b : Bool} {x y : R} (h : b = true) : (bif b then x else y) = x := by rw [h]; rfl

/-- A call by its walk. -/
theorem walk {fs : List Nat} {shape : Nat → List DV → DV} {f : FuncId} {fn : Func} {ds : List DV} {d : DV} (h : tget aeF f = some fn) (e : pureE aeC (evW fs (okS shape) shape) 30 f fn ds = some d) : PureOK Try.prog f ds d :=
  ae_direct (evW_ok fs shape) 30 h e

def noS : Nat → List DV → DV := fun _ _ => .nilp

end Go.Proofs.Ytjfopbpkophoeaa

/- Chapter 06: matrices as data; what makes them of any rows. Written by wip/tools/gen6a.py. -/
namespace Go.Proofs.Ytjfopbpkophoeaa
open Go Go.AE
set_option maxRecDepth 100000
noncomputable def evA : Ev := evW [] (okS noS) noS
theorem walkA {f : FuncId} {fn : Func} {ds : List DV} {d : DV} (h : tget aeF f = some fn) (e : pureE aeC evA 30 f fn ds = some d) : PureOK Try.prog f ds d := walk h e
theorem awake_ok : PureOK Try.prog 21 [] (bD true) := walkA (by kernel_rfl : tget aeF 21 = some Try.f21) (by kernel_rfl)
def rowD (r : List Int) : DV := .sl (ints r) r.length 1 false false
/-- A matrix as data. -/
def matD (M : List (List Int)) : DV := .sl (M.map rowD) M.length 1 false false
/-- Rows that are handed in. -/
def rowsD (X : List (List Int × Bool)) : List DV := X.map fun r => .sl (ints r.1) r.1.length 1 false r.2
/-- Whether all numbers are from 0 to 9. -/
def smallB (l : List Int) : Bool := l.all fun x => decide (0 ≤ x) && decide (x ≤ 9)
/-- A matrix with k states. -/
def matB (k : Nat) (M : List (List Int)) : Prop := M.length = k ∧ ∀ r ∈ M, r.length = k ∧ smallB r = true
theorem nth_rows {X : List (List Int × Bool)} {i : Nat} (h : i < X.length) : nth (rowsD X) i = some (.sl (ints (X.getD i ([], false)).1) (X.getD i ([], false)).1.length 1 false (X.getD i ([], false)).2) := by
  unfold rowsD; rw [nth_map, nth_eq]; simp [h]
theorem smallB_at {l : List Int} (h : smallB l = true) : ∀ x ∈ l, 0 ≤ x ∧ x ≤ 9 := by
  intro x hx
  have := List.all_eq_true.1 h x hx
  simpa using this
theorem smallB_mk {l : List Int} (h : ∀ x ∈ l, 0 ≤ x ∧ x ≤ 9) : smallB l = true := List.all_eq_true.2 fun x hx => by simpa using h x hx
/-! ### tame -/
def tv10 (x : Int) : Int := IntKind.wrap IntKind.i64 (Int.tmod (IntKind.wrap IntKind.u64 x) 10)
theorem tv10_b (x : Int) : 0 ≤ tv10 x ∧ tv10 x ≤ 9 := by
  have h0 : 0 ≤ IntKind.wrap .u64 x := by rw [wrapU_eq]; omega
  have h1 : Int.tmod (IntKind.wrap .u64 x) 10 = (IntKind.wrap .u64 x) % 10 := Int.tmod_eq_emod_of_nonneg h0
  unfold tv10
  rw [h1, wrap64_o (by omega) (by omega)]
  omega
theorem k14 : OkSeg Try.f14 none [0] := ⟨by kernel_rfl, by kernel_rfl, by decide⟩
theorem k14_0 : OkSeg Try.f14 (some 0) [2] := ⟨by kernel_rfl, by kernel_rfl, by decide⟩
theorem k14_2 : OkSeg Try.f14 (some 2) [] := ⟨by kernel_rfl, by kernel_rfl, by decide⟩
end Go.Proofs.Ytjfopbpkophoeaa

/- Chapter 06: the first ones of a list, tables that are the same, what is opened. Written by wip/tools/gen6b.py. -/
namespace Go.Proofs.Ytjfopbpkophoeaa
open Go Go.AE
set_option maxRecDepth 100000

/-! ### Tables that are the same -/
def s41 (A B : DV) (i : Int) : St := ⟨[(0, .d A), (1, .d B), (5, .d (iD i))], [], []⟩
def s412 (A B : DV) (i j : Int) : St := ⟨[(0, .d A), (1, .d B), (5, .d (iD i)), (6, .d (iD j))], [], []⟩
theorem t41_h (A B : List DV) (n m : Nat) (c z c2 z2 : Bool) : startS aeC Ev.nil 41 0 Try.f41 none ⟨envOf 0 [.d (.sl A n 1 c z), .d (.sl B m 1 c2 z2)], [], []⟩ (heldD aeC 41 0) = bif !decide ((n : Int) = (m : Int)) then none else some (0, s41 (.sl A n 1 c z) (.sl B m 1 c2 z2) 0) := by kernel_rfl
theorem t41_0 (A B : List DV) (n m i : Nat) (c z c2 z2 : Bool) : startS aeC Ev.nil 41 0 Try.f41 (some 0) (s41 (.sl A n 1 c z) (.sl B m 1 c2 z2) i) (heldD aeC 41 0) =
  bif decide ((i : Int) < (n : Int)) then (bif inRange (i : Int) n then (getS (nth A (Int.toNat (i : Int) * 1)) fun cs0 n0 sz0 c0 nl0 => bif nl0 || Nat.beq sz0 1 then (bif inRange (i : Int) m then (getS (nth B (Int.toNat (i : Int) * 1)) fun cs1 n1 sz1 c1 nl1 => bif nl1 || Nat.beq sz1 1 then
    (bif !decide ((n0 : Int) = (n1 : Int)) then none else some (2, s412 (.sl A n 1 c z) (.sl B m 1 c2 z2) i 0)) else none) else none) else none) else none) else none := by kernel_rfl
theorem t41_0x (A B : List DV) (n m i : Nat) (c z c2 z2 : Bool) : startS aeC Ev.nil 41 0 Try.f41 (some 0) (s41 (.sl A n 1 c z) (.sl B m 1 c2 z2) i) (roundD aeC 41 0 0) =
  bif decide ((i : Int) < (n : Int)) then (bif inRange (i : Int) n then (getS (nth A (Int.toNat (i : Int) * 1)) fun cs0 n0 sz0 c0 nl0 => bif nl0 || Nat.beq sz0 1 then (bif inRange (i : Int) m then (getS (nth B (Int.toNat (i : Int) * 1)) fun cs1 n1 sz1 c1 nl1 => bif nl1 || Nat.beq sz1 1 then
    (bif !decide ((n0 : Int) = (n1 : Int)) then some (Ex.ret, (⟨[(4, .d (bD false))], [], []⟩ : St)) else none) else none) else none) else none) else none) else some (Ex.exit 0, ⟨[], [], []⟩) := by kernel_rfl
theorem t41_2 (A B : List DV) (n m i j : Nat) (c z c2 z2 : Bool) : startS aeC Ev.nil 41 0 Try.f41 (some 2) (s412 (.sl A n 1 c z) (.sl B m 1 c2 z2) i j) (roundD aeC 41 0 2) =
  bif inRange (i : Int) n then (getS (nth A (Int.toNat (i : Int) * 1)) fun cs0 n0 sz0 c0 nl0 => bif nl0 || Nat.beq sz0 1 then (bif decide ((j : Int) < (n0 : Int)) then
    (bif inRange (i : Int) n then (getS (nth A (Int.toNat (i : Int) * 1)) fun cs1 n1 sz1 c1 nl1 => bif nl1 || Nat.beq sz1 1 then (bif inRange (j : Int) n1 then (getI (nth cs1 (Int.toNat (j : Int) * 1)) fun x2 =>
      bif inRange (i : Int) m then (getS (nth B (Int.toNat (i : Int) * 1)) fun cs3 n3 sz3 c3 nl3 => bif nl3 || Nat.beq sz3 1 then (bif inRange (j : Int) n3 then (getI (nth cs3 (Int.toNat (j : Int) * 1)) fun x4 =>
        bif !decide (x2 = x4) then some (Ex.ret, (⟨[(4, .d (bD false))], [], []⟩ : St)) else some (Ex.norm, s412 (.sl A n 1 c z) (.sl B m 1 c2 z2) i (IntKind.wrap IntKind.i64 ((j : Int) + 1)))) else none) else none) else none) else none) else none) else none)
    else some (Ex.exit 2, s41 (.sl A n 1 c z) (.sl B m 1 c2 z2) i)) else none) else none := by kernel_rfl
theorem t41_x (A B : DV) (i : Nat) : nextS aeC Ev.nil 41 0 Try.f41 (some 0) 2 (.exit 2) (s41 A B i) (roundD aeC 41 0 0) = some (Ex.norm, s41 A B (IntKind.wrap IntKind.i64 ((i : Int) + 1))) := by kernel_rfl
theorem t41_e : nextS aeC Ev.nil 41 0 Try.f41 none 0 (.exit 0) ⟨[], [], []⟩ (doneE aeC Try.f41 0 fun v h => freezeV h 4 v) = some (bD true) := by kernel_rfl
theorem k41 : OkSeg Try.f41 none [0] := ⟨by kernel_rfl, by kernel_rfl, by decide⟩
theorem k41_0 : OkSeg Try.f41 (some 0) [2] := ⟨by kernel_rfl, by kernel_rfl, by decide⟩
theorem k41_2 : OkSeg Try.f41 (some 2) [] := ⟨by kernel_rfl, by kernel_rfl, by decide⟩
theorem nth_mat {M : List (List Int)} {i : Nat} (h : i < M.length) : nth (M.map rowD) i = some (rowD (M.getD i [])) := by
  rw [nth_map, nth_eq]; simp [h]
section
variable {M : List (List Int)} {c z c2 z2 : Bool}
theorem loop412 {i : Nat} (hi : i < M.length) (hm : M.length ≤ 100) (hr : (M.getD i []).length ≤ 100) : ∀ (t j : Nat), j + t = (M.getD i []).length →
    LoopAt aeC Ev.nil 41 0 Try.f41 2 (s412 (.sl (M.map rowD) M.length 1 c z) (.sl (M.map rowD) M.length 1 c2 z2) i j) (.exit 2) (s41 (.sl (M.map rowD) M.length 1 c z) (.sl (M.map rowD) M.length 1 c2 z2) i)
  | t, j, hj => by
    have e1 : Int.toNat (i : Int) * 1 = i := by simp
    have e2 : Int.toNat (j : Int) * 1 = j := by simp
    have ha := t41_2 (M.map rowD) (M.map rowD) M.length M.length i j c z c2 z2
    rw [e1, nth_mat hi, e2] at ha
    unfold rowD at ha
    simp only [getS_some, Nat.beq_refl, Bool.or_true, cond_true] at ha
    rw [show M.map (fun r => DV.sl (ints r) r.length 1 false false) = M.map rowD from rfl] at ha
    cases t with
    | zero => exact .out k41_2 (by simp) (ha.trans ((inR_pos (by omega) (by omega)).trans (cnd_neg (by omega))))
    | succ t =>
      have hw : IntKind.wrap .i64 ((j : Int) + 1) = ((j + 1 : Nat) : Int) := by rw [wrap64_o (by omega) (by omega)]; rfl
      rw [nth_ints_o (l := M.getD i []) (i := j) (by omega), getI_some, getI_some, hw, decide_eq_true (p := (M.getD i []).getD j 0 = (M.getD i []).getD j 0) rfl] at ha
      refine .next k41_2 (ha.trans ?_) (loop412 hi hm hr t (j + 1) (by omega))
      exact (inR_pos (by omega) (by omega)).trans ((cnd_pos (by omega)).trans ((inR_pos (by omega) (by omega)).trans ((inR_pos (by omega) (by omega)).trans ((inR_pos (by omega) (by omega)).trans ((inR_pos (by omega) (by omega)).trans rfl)))))
theorem loop410 (hm : M.length ≤ 100) (hr : ∀ r ∈ M, r.length ≤ 100) : ∀ (t i : Nat), i + t = M.length →
    LoopAt aeC Ev.nil 41 0 Try.f41 0 (s41 (.sl (M.map rowD) M.length 1 c z) (.sl (M.map rowD) M.length 1 c2 z2) i) (.exit 0) ⟨[], [], []⟩
  | 0, i, hi => .out k41_0 (by simp) ((t41_0x ..).trans (cnd_neg (by omega)))
  | t + 1, i, hi => by
    have hlt : i < M.length := by omega
    have e1 : Int.toNat (i : Int) * 1 = i := by simp
    have ha := t41_0 (M.map rowD) (M.map rowD) M.length M.length i c z c2 z2
    rw [e1, nth_mat hlt] at ha
    unfold rowD at ha
    simp only [getS_some, Nat.beq_refl, Bool.or_true, cond_true] at ha
    rw [show M.map (fun r => DV.sl (ints r) r.length 1 false false) = M.map rowD from rfl] at ha
    have hw : IntKind.wrap .i64 ((i : Int) + 1) = ((i + 1 : Nat) : Int) := by rw [wrap64_o (by omega) (by omega)]; rfl
    have hx := t41_x (.sl (M.map rowD) M.length 1 c z) (.sl (M.map rowD) M.length 1 c2 z2) i
    rw [hw] at hx
    have hl : (M.getD i []).length ≤ 100 := hr _ (by rw [List.getD_eq_getElem?_getD, List.getElem?_eq_getElem hlt]; exact List.getElem_mem _)
    refine .nextF k41_0 ((startF_seg k41_0 (ha.trans ?_) (loop412 hlt hm hl (M.getD i []).length 0 (by omega))).trans (nextF_done k41_0 roundD_plain hx)) (loop410 hm hr t (i + 1) (by omega))
    exact (cnd_pos (by omega)).trans ((inR_pos (by omega) (by omega)).trans ((inR_pos (by omega) (by omega)).trans rfl))
theorem c41 (hm : M.length ≤ 100) (hr : ∀ r ∈ M, r.length ≤ 100) : PureOK Try.prog 41 [.sl (M.map rowD) M.length 1 c z, .sl (M.map rowD) M.length 1 c2 z2] (bD true) :=
  ae_pure EvOK.nil (fn := Try.f41) k41 (by kernel_rfl) (by kernel_rfl) ((startF_seg k41 ((t41_h ..).trans (by rw [decide_eq_true (p := (M.length : Int) = (M.length : Int)) rfl]; rfl)) (loop410 hm hr M.length 0 (by omega))).trans (nextF_done k41 done_plain t41_e))
end
/-! ### What is opened -/
def pad5 (r : List Int) : List DV := ints r ++ List.replicate (5 - r.length) (iD 0)
def mtx (M : List (List Int)) : DV := .agg (iD M.length :: ((M.map pad5).flatten ++ List.replicate (25 - 5 * M.length) (iD 0)))
def mtx0 : DV := .agg (List.replicate 26 (iD 0))
def chO (good bad : Option DV) : List Int → Option DV
  | [] => good
  | x :: r => bif decide (x < 0) then bad else bif decide (9 < x) then bad else chO good bad r
theorem chO_eq (g b : Option DV) : ∀ l : List Int, chO g b l = bif smallB l then g else b
  | [] => rfl
  | x :: r => by
    simp only [chO, smallB, List.all_cons]
    by_cases h1 : x < 0
    · rw [cnd_pos h1, decide_eq_false (p := 0 ≤ x) (by omega)]; rfl
    · rw [cnd_neg h1]
      by_cases h2 : 9 < x
      · rw [cnd_pos h2, decide_eq_false (p := x ≤ 9) (by omega), Bool.and_false]; rfl
      · rw [cnd_neg h2, decide_eq_true (p := 0 ≤ x) (by omega), decide_eq_true (p := x ≤ 9) (by omega), chO_eq g b r]; rfl
theorem u61_1 (ok : Nat → List DV → Bool) (Q : Nat → List DV → DV) (x00 : Int) : pureE aeC (evW [] ok Q) 30 61 Try.f61 [matD [[x00]]] = chO (some (.tup [mtx [[x00]], iD 0])) (some (.tup [mtx0, iD 60])) [x00] := by kernel_rfl
theorem u61_2 (ok : Nat → List DV → Bool) (Q : Nat → List DV → DV) (x00 x01 x10 x11 : Int) : pureE aeC (evW [] ok Q) 30 61 Try.f61 [matD [[x00, x01], [x10, x11]]] = chO (some (.tup [mtx [[x00, x01], [x10, x11]], iD 0])) (some (.tup [mtx0, iD 60])) [x00, x01, x10, x11] := by kernel_rfl
theorem u61_3 (ok : Nat → List DV → Bool) (Q : Nat → List DV → DV) (x00 x01 x02 x10 x11 x12 x20 x21 x22 : Int) : pureE aeC (evW [] ok Q) 30 61 Try.f61 [matD [[x00, x01, x02], [x10, x11, x12], [x20, x21, x22]]] = chO (some (.tup [mtx [[x00, x01, x02], [x10, x11, x12], [x20, x21, x22]], iD 0])) (some (.tup [mtx0, iD 60])) [x00, x01, x02, x10, x11, x12, x20, x21, x22] := by kernel_rfl
theorem u61_4 (ok : Nat → List DV → Bool) (Q : Nat → List DV → DV) (x00 x01 x02 x03 x10 x11 x12 x13 x20 x21 x22 x23 x30 x31 x32 x33 : Int) : pureE aeC (evW [] ok Q) 30 61 Try.f61 [matD [[x00, x01, x02, x03], [x10, x11, x12, x13], [x20, x21, x22, x23], [x30, x31, x32, x33]]] = chO (some (.tup [mtx [[x00, x01, x02, x03], [x10, x11, x12, x13], [x20, x21, x22, x23], [x30, x31, x32, x33]], iD 0])) (some (.tup [mtx0, iD 60])) [x00, x01, x02, x03, x10, x11, x12, x13, x20, x21, x22, x23, x30, x31, x32, x33] := by kernel_rfl
theorem u61_5 (ok : Nat → List DV → Bool) (Q : Nat → List DV → DV) (x00 x01 x02 x03 x04 x10 x11 x12 x13 x14 x20 x21 x22 x23 x24 x30 x31 x32 x33 x34 x40 x41 x42 x43 x44 : Int) : pureE aeC (evW [] ok Q) 30 61 Try.f61 [matD [[x00, x01, x02, x03, x04], [x10, x11, x12, x13, x14], [x20, x21, x22, x23, x24], [x30, x31, x32, x33, x34], [x40, x41, x42, x43, x44]]] = chO (some (.tup [mtx [[x00, x01, x02, x03, x04], [x10, x11, x12, x13, x14], [x20, x21, x22, x23, x24], [x30, x31, x32, x33, x34], [x40, x41, x42, x43, x44]], iD 0])) (some (.tup [mtx0, iD 60])) [x00, x01, x02, x03, x04, x10, x11, x12, x13, x14, x20, x21, x22, x23, x24, x30, x31, x32, x33, x34, x40, x41, x42, x43, x44] := by kernel_rfl
theorem len1 {α : Type} {l : List α} (h : l.length = 1) : ∃ a0, l = [a0] := by
  match l, h with
  | [a0], _ => exact ⟨a0, rfl⟩
theorem len2 {α : Type} {l : List α} (h : l.length = 2) : ∃ a0 a1, l = [a0, a1] := by
  match l, h with
  | [a0, a1], _ => exact ⟨a0, a1, rfl⟩
theorem len3 {α : Type} {l : List α} (h : l.length = 3) : ∃ a0 a1 a2, l = [a0, a1, a2] := by
  match l, h with
  | [a0, a1, a2], _ => exact ⟨a0, a1, a2, rfl⟩
theorem len4 {α : Type} {l : List α} (h : l.length = 4) : ∃ a0 a1 a2 a3, l = [a0, a1, a2, a3] := by
  match l, h with
  | [a0, a1, a2, a3], _ => exact ⟨a0, a1, a2, a3, rfl⟩
theorem len5 {α : Type} {l : List α} (h : l.length = 5) : ∃ a0 a1 a2 a3 a4, l = [a0, a1, a2, a3, a4] := by
  match l, h with
  | [a0, a1, a2, a3, a4], _ => exact ⟨a0, a1, a2, a3, a4, rfl⟩
/-- A matrix, by its numbers. -/
theorem mat_forms {k : Nat} {M : List (List Int)} (h : matB k M) (h1 : 1 ≤ k) (h5 : k ≤ 5) : (k = 1 ∧ ∃ x00, M = [[x00]]) ∨ (k = 2 ∧ ∃ x00 x01 x10 x11, M = [[x00, x01], [x10, x11]]) ∨ (k = 3 ∧ ∃ x00 x01 x02 x10 x11 x12 x20 x21 x22, M = [[x00, x01, x02], [x10, x11, x12], [x20, x21, x22]]) ∨ (k = 4 ∧ ∃ x00 x01 x02 x03 x10 x11 x12 x13 x20 x21 x22 x23 x30 x31 x32 x33, M = [[x00, x01, x02, x03], [x10, x11, x12, x13], [x20, x21, x22, x23], [x30, x31, x32, x33]]) ∨ (k = 5 ∧ ∃ x00 x01 x02 x03 x04 x10 x11 x12 x13 x14 x20 x21 x22 x23 x24 x30 x31 x32 x33 x34 x40 x41 x42 x43 x44, M = [[x00, x01, x02, x03, x04], [x10, x11, x12, x13, x14], [x20, x21, x22, x23, x24], [x30, x31, x32, x33, x34], [x40, x41, x42, x43, x44]]) := by
  have len : ∀ r ∈ M, r.length = k := fun r hr => (h.2 r hr).1
  have hl := h.1
  clear h
  rcases (show k = 1 ∨ k = 2 ∨ k = 3 ∨ k = 4 ∨ k = 5 by omega) with rfl | rfl | rfl | rfl | rfl
  · obtain ⟨q0, rfl⟩ := len1 hl
    obtain ⟨x00, rfl⟩ := len1 (len q0 (by simp))
    exact .inl ⟨rfl, x00, rfl⟩
  · obtain ⟨q0, q1, rfl⟩ := len2 hl
    obtain ⟨x00, x01, rfl⟩ := len2 (len q0 (by simp))
    obtain ⟨x10, x11, rfl⟩ := len2 (len q1 (by simp))
    exact .inr (.inl ⟨rfl, x00, x01, x10, x11, rfl⟩)
  · obtain ⟨q0, q1, q2, rfl⟩ := len3 hl
    obtain ⟨x00, x01, x02, rfl⟩ := len3 (len q0 (by simp))
    obtain ⟨x10, x11, x12, rfl⟩ := len3 (len q1 (by simp))
    obtain ⟨x20, x21, x22, rfl⟩ := len3 (len q2 (by simp))
    exact .inr (.inr (.inl ⟨rfl, x00, x01, x02, x10, x11, x12, x20, x21, x22, rfl⟩))
  · obtain ⟨q0, q1, q2, q3, rfl⟩ := len4 hl
    obtain ⟨x00, x01, x02, x03, rfl⟩ := len4 (len q0 (by simp))
    obtain ⟨x10, x11, x12, x13, rfl⟩ := len4 (len q1 (by simp))
    obtain ⟨x20, x21, x22, x23, rfl⟩ := len4 (len q2 (by simp))
    obtain ⟨x30, x31, x32, x33, rfl⟩ := len4 (len q3 (by simp))
    exact .inr (.inr (.inr (.inl ⟨rfl, x00, x01, x02, x03, x10, x11, x12, x13, x20, x21, x22, x23, x30, x31, x32, x33, rfl⟩)))
  · obtain ⟨q0, q1, q2, q3, q4, rfl⟩ := len5 hl
    obtain ⟨x00, x01, x02, x03, x04, rfl⟩ := len5 (len q0 (by simp))
    obtain ⟨x10, x11, x12, x13, x14, rfl⟩ := len5 (len q1 (by simp))
    obtain ⟨x20, x21, x22, x23, x24, rfl⟩ := len5 (len q2 (by simp))
    obtain ⟨x30, x31, x32, x33, x34, rfl⟩ := len5 (len q3 (by simp))
    obtain ⟨x40, x41, x42, x43, x44, rfl⟩ := len5 (len q4 (by simp))
    exact .inr (.inr (.inr (.inr (⟨rfl, x00, x01, x02, x03, x04, x10, x11, x12, x13, x14, x20, x21, x22, x23, x24, x30, x31, x32, x33, x34, x40, x41, x42, x43, x44, rfl⟩))))
theorem small_flat {k : Nat} {M : List (List Int)} (h : matB k M) : smallB M.flatten = true := smallB_mk fun x hx => by
  obtain ⟨r, hr, hx⟩ := List.mem_flatten.1 hx
  exact smallB_at (h.2 r hr).2 x hx
theorem c61 {k : Nat} {M : List (List Int)} (h : matB k M) (h1 : 1 ≤ k) (h5 : k ≤ 5) : PureOK Try.prog 61 [matD M] (.tup [mtx M, iD 0]) := by
  have hs := small_flat h
  rcases mat_forms h h1 h5 with ⟨_, x00, rfl⟩ | ⟨_, x00, x01, x10, x11, rfl⟩ | ⟨_, x00, x01, x02, x10, x11, x12, x20, x21, x22, rfl⟩ | ⟨_, x00, x01, x02, x03, x10, x11, x12, x13, x20, x21, x22, x23, x30, x31, x32, x33, rfl⟩ | ⟨_, x00, x01, x02, x03, x04, x10, x11, x12, x13, x14, x20, x21, x22, x23, x24, x30, x31, x32, x33, x34, x40, x41, x42, x43, x44, rfl⟩
  · exact walkA (by kernel_rfl : tget aeF 61 = some Try.f61) ((u61_1 _ _ x00).trans ((chO_eq _ _ _).trans (cond_is' hs)))
  · exact walkA (by kernel_rfl : tget aeF 61 = some Try.f61) ((u61_2 _ _ x00 x01 x10 x11).trans ((chO_eq _ _ _).trans (cond_is' hs)))
  · exact walkA (by kernel_rfl : tget aeF 61 = some Try.f61) ((u61_3 _ _ x00 x01 x02 x10 x11 x12 x20 x21 x22).trans ((chO_eq _ _ _).trans (cond_is' hs)))
  · exact walkA (by kernel_rfl : tget aeF 61 = some Try.f61) ((u61_4 _ _ x00 x01 x02 x03 x10 x11 x12 x13 x20 x21 x22 x23 x30 x31 x32 x33).trans ((chO_eq _ _ _).trans (cond_is' hs)))
  · exact walkA (by kernel_rfl : tget aeF 61 = some Try.f61) ((u61_5 _ _ x00 x01 x02 x03 x04 x10 x11 x12 x13 x14 x20 x21 x22 x23 x24 x30 x31 x32 x33 x34 x40 x41 x42 x43 x44).trans ((chO_eq _ _ _).trans (cond_is' hs)))
end Go.Proofs.Ytjfopbpkophoeaa

/- Chapter 06: law 10, round by round: a context in which rows in lists stay rows. Written by wip/tools/genE1.py. -/
namespace Go.Proofs.Ytjfopbpkophoeaa
open Go Go.AE
set_option maxRecDepth 100000
noncomputable def aeC6 : Ctx := { aeC.open' [78, 14] with settle := false }
theorem ae_fn6 {f : FuncId} {fn : Func} (h : tget aeF f = some fn) : FnOK Try.prog aeC6 f fn := (ae_fn h).same (show aeC6.plan = aeC.plan from rfl)
theorem ae_direct6 {E : Ev} (hE : EvOK Try.prog E) (k : Nat) {f : FuncId} {fn : Func} {ds : List DV} {d : DV} (h : tget aeF f = some fn) (e : pureE aeC6 E k f fn ds = some d) : PureOK Try.prog f ds d := pureE_ok (C := aeC6) ae_T ae_Q ae_mixed hE (ae_fn6 h) e
theorem ae_pure6 {E : Ev} (hE : EvOK Try.prog E) {f : FuncId} {fn : Func} {ids : List Nat} {ds : List DV} {d : DV} (ok : OkSeg fn none ids) (h : tget aeF f = some fn) (hb : (fn.body.isSome && Nat.ble ds.length fn.ntmps) = true)
    (e : startF aeC6 E f 0 fn none ⟨envOf 0 (ds.map .d), [], []⟩ (doneE aeC6 fn 0 fun v h => freezeV h 4 v) = some d) (hfr : freshF f = false := by rfl) : PureOK Try.prog f ds d :=
  pure_of_go (C := aeC6) ae_T ae_Q ae_mixed hE (ae_fn6 h) ok hb e hfr
theorem ae_call6 {E : Ev} (hE : EvOK Try.prog E) {f : FuncId} {fn : Func} {ids : List Nat} {xs : List AV} {h0 h' : List Blk} {v : AV} (ok : OkSeg fn none ids) (h : tget aeF f = some fn) (hb : (fn.body.isSome && Nat.ble xs.length fn.ntmps) = true)
    (e : startF aeC6 E f h0.length fn none ⟨envOf 0 xs, h0, []⟩ (doneE aeC6 fn h0.length fun v h => some (v, h)) = some (v, h')) : CallOK Try.prog f xs h0 v h' :=
  call_of_go (C := aeC6) ae_T ae_Q ae_mixed hE (ae_fn6 h) ok hb e
/-- What the functions answer that the law calls. -/
structure T10 where
  Y : List DV → List DV
  N : List DV → Nat
  Z : List DV → Nat
  L : List DV → Bool
  E : List DV → Int
  C : List DV → Bool
  V : List DV → List DV
  W : List DV → Nat
  X : List DV → Nat
  U : List DV → Bool
  O : List DV → Bool
  S : List DV → Bool
def i10 (T : T10) (f : Nat) (ds : List DV) : DV := bif Nat.beq f 44 then .tup [.sl (T.Y ds) (T.N ds) (T.Z ds) false (T.L ds), iD (T.E ds)] else bif Nat.beq f 45 then bD (T.C ds) else bif Nat.beq f 46 then .tup [.sl (T.V ds) (T.W ds) (T.X ds) false (T.U ds), bD (T.O ds)] else bif Nat.beq f 41 then bD (T.S ds) else bD true
noncomputable def ev10 (ok : Nat → List DV → Bool) (T : T10) (F : List (Nat × RuleF)) : Ev := { evT ok (i10 T) with fn := fun f xs h => .node (calmF f) .fail (toldF F f xs h) }
theorem ev10_ok (T : T10) {F : List (Nat × RuleF)} (hF : RulesFOK Try.prog F) : EvOK Try.prog (ev10 (okS (i10 T)) T F) :=
  ⟨(evT_ok (i10 T)).pure, (evK_ok (L := []) (F := F) trivial hF).fn, (evK_ok (L := []) (F := F) trivial hF).calm, (evT_ok (i10 T)).round⟩
noncomputable def F14 (a : DV) (v : AV) (H : List Blk) : List (Nat × RuleF) := [(14, oneF [.d a, .d (iD 5)] [] v H)]
/-- A matrix in memory: its rows are cells. -/
def Hm (l : List (List DV)) : List Blk := .ac ((List.range l.length).map fun i => AV.row (i + 1) 0 l.length l.length 1 true) :: l.map Blk.dc
def q10 (s t i : Int) (H : List Blk) : St := ⟨[(1, .d (iD s)), (2, .d (iD t)), (7, AV.grow 0 1 false), (8, .d (iD i))], H, []⟩
def q103 (s t i : Int) (j : Int) (H : List Blk) : St := ⟨[(1, .d (iD s)), (2, .d (iD t)), (7, AV.grow 0 1 false), (8, .d (iD i)), (15, .d (iD j))], H, []⟩
def fz10 (l : List (List DV)) (s t : Int) : Option (List DV) := mapO (freezeV (Hm l) 4) [AV.grow 0 1 false, .d (iD s), .d (iD t)]
def Q10 {X : Type} (ok : Nat → List DV → Bool) (T : T10) (fz : Option (List DV)) (k : Nat) (s t : Int) (cont bad : Option X) : Option X :=
 fz.bind fun v => bif ok 44 v then (bif T.L v || Nat.beq (T.Z v) 1 then
   (bif decide (s < 0) then (bif !decide (T.E v = 1) then bad else bif !decide ((T.N v : Int) = 0) then bad else cont) else bif decide (t ≤ s) then (bif !decide (T.E v = 1) then bad else bif !decide ((T.N v : Int) = 0) then bad else cont) else bif decide ((k : Int) ≤ t) then (bif !decide (T.E v = 1) then bad else bif !decide ((T.N v : Int) = 0) then bad else cont) else
   fz.bind fun v1 => bif ok 45 v1 then (bif !T.C v1 then (bif !decide (T.E v = 4) then bad else bif !decide ((T.N v : Int) = 0) then bad else cont) else fz.bind fun v2 => bif ok 46 v2 then (bif T.U v2 || Nat.beq (T.X v2) 1 then (bif !T.O v2 then (bif !decide (T.E v = 8) then bad else bif !decide ((T.N v : Int) = 0) then bad else cont) else bif !decide (T.E v = 0) then bad else bif ok 41 [DV.sl (T.Y v) (T.N v) 1 false (T.L v), DV.sl (T.V v2) (T.W v2) 1 false (T.U v2)] then (bif !T.S [DV.sl (T.Y v) (T.N v) 1 false (T.L v), DV.sl (T.V v2) (T.W v2) 1 false (T.U v2)] then bad else cont) else none) else none) else none) else none)
   else none) else none
def s2 (k : Nat) (s : Int) : Int := IntKind.wrap IntKind.i64 (Int.tmod (IntKind.wrap IntKind.u64 s) (IntKind.wrap IntKind.u64 (IntKind.wrap IntKind.i64 ((k : Int) - 1))))
def t2 (k : Nat) (s t : Int) : Int := IntKind.wrap IntKind.i64 (IntKind.wrap IntKind.i64 (s2 k s + 1) + IntKind.wrap IntKind.i64 (Int.tmod (IntKind.wrap IntKind.u64 t) (IntKind.wrap IntKind.u64 (IntKind.wrap IntKind.i64 (IntKind.wrap IntKind.i64 ((k : Int) - 1) - s2 k s)))))

theorem t10_h1 (ok : Nat → List DV → Bool) (T : T10) (a : DV) (s t : Int) (R0 : List DV) : startS aeC6 (ev10 ok T (F14 a (AV.grow 0 1 false) (Hm [R0]))) 10 0 Try.f10 none ⟨envOf 0 [.d a, .d (iD s), .d (iD t)], [], []⟩ (heldD aeC6 10 0) = bif isAt [AV.d a, .d (iD 5)] [.d a, .d (iD 5)] && isAt ([] : List Blk) [] then some (0, q10 s t 0 (Hm [R0])) else none := by kernel_rfl
theorem t10_r1 (ok : Nat → List DV → Bool) (T : T10) (F : List (Nat × RuleF)) (s t i : Int) (R0 : List DV) : startS aeC6 (ev10 ok T F) 10 0 Try.f10 (some 0) (q10 s t i (Hm [R0])) (roundD aeC6 10 0 0) = bif decide (i < 2) then Q10 ok T (fz10 [R0] s t) 1 s t (some (.exit 0, ⟨[], [], []⟩)) (some (Ex.ret, ⟨[(6, .d (bD false))], [], []⟩)) else some (.exit 0, ⟨[], [], []⟩) := by kernel_rfl
theorem t10_h2 (ok : Nat → List DV → Bool) (T : T10) (a : DV) (s t : Int) (R0 R1 : List DV) : startS aeC6 (ev10 ok T (F14 a (AV.grow 0 1 false) (Hm [R0, R1]))) 10 0 Try.f10 none ⟨envOf 0 [.d a, .d (iD s), .d (iD t)], [], []⟩ (heldD aeC6 10 0) = bif isAt [AV.d a, .d (iD 5)] [.d a, .d (iD 5)] && isAt ([] : List Blk) [] then some (0, q10 s t 0 (Hm [R0, R1])) else none := by kernel_rfl
theorem t10_r2 (ok : Nat → List DV → Bool) (T : T10) (F : List (Nat × RuleF)) (s t i : Int) (R0 R1 : List DV) : startS aeC6 (ev10 ok T F) 10 0 Try.f10 (some 0) (q10 s t i (Hm [R0, R1])) (heldD aeC6 10 0) = bif decide (i < 2) then Q10 ok T (fz10 [R0, R1] s t) 2 s t (bif decide (IntKind.wrap IntKind.u64 (IntKind.wrap IntKind.i64 ((2 : Nat) - 1)) = 0) then none else bif decide (IntKind.wrap IntKind.u64 (IntKind.wrap IntKind.i64 (IntKind.wrap IntKind.i64 (((2 : Nat) : Int) - 1) - s2 2 s)) = 0) then none else some (3, q103 (s2 2 s) (t2 2 s t) i 0 (Hm [R0, R1]))) none else none := by kernel_rfl
theorem t10_o2 (ok : Nat → List DV → Bool) (T : T10) (F : List (Nat × RuleF)) (s t : Int) (R0 R1 : List DV) : startS aeC6 (ev10 ok T F) 10 0 Try.f10 (some 0) (q10 s t 2 (Hm [R0, R1])) (roundD aeC6 10 0 0) = some (.exit 0, ⟨[], [], []⟩) := by kernel_rfl
theorem t10_x2 (ok : Nat → List DV → Bool) (T : T10) (F : List (Nat × RuleF)) (s t i : Int) (R0 R1 : List DV) : nextS aeC6 (ev10 ok T F) 10 0 Try.f10 (some 0) 3 (.exit 3) ⟨[(1, .d (iD s)), (2, .d (iD t)), (7, AV.grow 0 1 false), (8, .d (iD i))], (Hm [R0, R1]), []⟩ (roundD aeC6 10 0 0) = some (.norm, q10 s t (IntKind.wrap IntKind.i64 (i + 1)) (Hm [R0, R1])) := by kernel_rfl
theorem t10_h3 (ok : Nat → List DV → Bool) (T : T10) (a : DV) (s t : Int) (R0 R1 R2 : List DV) : startS aeC6 (ev10 ok T (F14 a (AV.grow 0 1 false) (Hm [R0, R1, R2]))) 10 0 Try.f10 none ⟨envOf 0 [.d a, .d (iD s), .d (iD t)], [], []⟩ (heldD aeC6 10 0) = bif isAt [AV.d a, .d (iD 5)] [.d a, .d (iD 5)] && isAt ([] : List Blk) [] then some (0, q10 s t 0 (Hm [R0, R1, R2])) else none := by kernel_rfl
theorem t10_r3 (ok : Nat → List DV → Bool) (T : T10) (F : List (Nat × RuleF)) (s t i : Int) (R0 R1 R2 : List DV) : startS aeC6 (ev10 ok T F) 10 0 Try.f10 (some 0) (q10 s t i (Hm [R0, R1, R2])) (heldD aeC6 10 0) = bif decide (i < 2) then Q10 ok T (fz10 [R0, R1, R2] s t) 3 s t (bif decide (IntKind.wrap IntKind.u64 (IntKind.wrap IntKind.i64 ((3 : Nat) - 1)) = 0) then none else bif decide (IntKind.wrap IntKind.u64 (IntKind.wrap IntKind.i64 (IntKind.wrap IntKind.i64 (((3 : Nat) : Int) - 1) - s2 3 s)) = 0) then none else some (3, q103 (s2 3 s) (t2 3 s t) i 0 (Hm [R0, R1, R2]))) none else none := by kernel_rfl
theorem t10_o3 (ok : Nat → List DV → Bool) (T : T10) (F : List (Nat × RuleF)) (s t : Int) (R0 R1 R2 : List DV) : startS aeC6 (ev10 ok T F) 10 0 Try.f10 (some 0) (q10 s t 2 (Hm [R0, R1, R2])) (roundD aeC6 10 0 0) = some (.exit 0, ⟨[], [], []⟩) := by kernel_rfl
theorem t10_x3 (ok : Nat → List DV → Bool) (T : T10) (F : List (Nat × RuleF)) (s t i : Int) (R0 R1 R2 : List DV) : nextS aeC6 (ev10 ok T F) 10 0 Try.f10 (some 0) 3 (.exit 3) ⟨[(1, .d (iD s)), (2, .d (iD t)), (7, AV.grow 0 1 false), (8, .d (iD i))], (Hm [R0, R1, R2]), []⟩ (roundD aeC6 10 0 0) = some (.norm, q10 s t (IntKind.wrap IntKind.i64 (i + 1)) (Hm [R0, R1, R2])) := by kernel_rfl
theorem t10_h4 (ok : Nat → List DV → Bool) (T : T10) (a : DV) (s t : Int) (R0 R1 R2 R3 : List DV) : startS aeC6 (ev10 ok T (F14 a (AV.grow 0 1 false) (Hm [R0, R1, R2, R3]))) 10 0 Try.f10 none ⟨envOf 0 [.d a, .d (iD s), .d (iD t)], [], []⟩ (heldD aeC6 10 0) = bif isAt [AV.d a, .d (iD 5)] [.d a, .d (iD 5)] && isAt ([] : List Blk) [] then some (0, q10 s t 0 (Hm [R0, R1, R2, R3])) else none := by kernel_rfl
theorem t10_r4 (ok : Nat → List DV → Bool) (T : T10) (F : List (Nat × RuleF)) (s t i : Int) (R0 R1 R2 R3 : List DV) : startS aeC6 (ev10 ok T F) 10 0 Try.f10 (some 0) (q10 s t i (Hm [R0, R1, R2, R3])) (heldD aeC6 10 0) = bif decide (i < 2) then Q10 ok T (fz10 [R0, R1, R2, R3] s t) 4 s t (bif decide (IntKind.wrap IntKind.u64 (IntKind.wrap IntKind.i64 ((4 : Nat) - 1)) = 0) then none else bif decide (IntKind.wrap IntKind.u64 (IntKind.wrap IntKind.i64 (IntKind.wrap IntKind.i64 (((4 : Nat) : Int) - 1) - s2 4 s)) = 0) then none else some (3, q103 (s2 4 s) (t2 4 s t) i 0 (Hm [R0, R1, R2, R3]))) none else none := by kernel_rfl
theorem t10_o4 (ok : Nat → List DV → Bool) (T : T10) (F : List (Nat × RuleF)) (s t : Int) (R0 R1 R2 R3 : List DV) : startS aeC6 (ev10 ok T F) 10 0 Try.f10 (some 0) (q10 s t 2 (Hm [R0, R1, R2, R3])) (roundD aeC6 10 0 0) = some (.exit 0, ⟨[], [], []⟩) := by kernel_rfl
theorem t10_x4 (ok : Nat → List DV → Bool) (T : T10) (F : List (Nat × RuleF)) (s t i : Int) (R0 R1 R2 R3 : List DV) : nextS aeC6 (ev10 ok T F) 10 0 Try.f10 (some 0) 3 (.exit 3) ⟨[(1, .d (iD s)), (2, .d (iD t)), (7, AV.grow 0 1 false), (8, .d (iD i))], (Hm [R0, R1, R2, R3]), []⟩ (roundD aeC6 10 0 0) = some (.norm, q10 s t (IntKind.wrap IntKind.i64 (i + 1)) (Hm [R0, R1, R2, R3])) := by kernel_rfl
theorem t10_h5 (ok : Nat → List DV → Bool) (T : T10) (a : DV) (s t : Int) (R0 R1 R2 R3 R4 : List DV) : startS aeC6 (ev10 ok T (F14 a (AV.grow 0 1 false) (Hm [R0, R1, R2, R3, R4]))) 10 0 Try.f10 none ⟨envOf 0 [.d a, .d (iD s), .d (iD t)], [], []⟩ (heldD aeC6 10 0) = bif isAt [AV.d a, .d (iD 5)] [.d a, .d (iD 5)] && isAt ([] : List Blk) [] then some (0, q10 s t 0 (Hm [R0, R1, R2, R3, R4])) else none := by kernel_rfl
theorem t10_r5 (ok : Nat → List DV → Bool) (T : T10) (F : List (Nat × RuleF)) (s t i : Int) (R0 R1 R2 R3 R4 : List DV) : startS aeC6 (ev10 ok T F) 10 0 Try.f10 (some 0) (q10 s t i (Hm [R0, R1, R2, R3, R4])) (heldD aeC6 10 0) = bif decide (i < 2) then Q10 ok T (fz10 [R0, R1, R2, R3, R4] s t) 5 s t (bif decide (IntKind.wrap IntKind.u64 (IntKind.wrap IntKind.i64 ((5 : Nat) - 1)) = 0) then none else bif decide (IntKind.wrap IntKind.u64 (IntKind.wrap IntKind.i64 (IntKind.wrap IntKind.i64 (((5 : Nat) : Int) - 1) - s2 5 s)) = 0) then none else some (3, q103 (s2 5 s) (t2 5 s t) i 0 (Hm [R0, R1, R2, R3, R4]))) none else none := by kernel_rfl
theorem t10_o5 (ok : Nat → List DV → Bool) (T : T10) (F : List (Nat × RuleF)) (s t : Int) (R0 R1 R2 R3 R4 : List DV) : startS aeC6 (ev10 ok T F) 10 0 Try.f10 (some 0) (q10 s t 2 (Hm [R0, R1, R2, R3, R4])) (roundD aeC6 10 0 0) = some (.exit 0, ⟨[], [], []⟩) := by kernel_rfl
theorem t10_x5 (ok : Nat → List DV → Bool) (T : T10) (F : List (Nat × RuleF)) (s t i : Int) (R0 R1 R2 R3 R4 : List DV) : nextS aeC6 (ev10 ok T F) 10 0 Try.f10 (some 0) 3 (.exit 3) ⟨[(1, .d (iD s)), (2, .d (iD t)), (7, AV.grow 0 1 false), (8, .d (iD i))], (Hm [R0, R1, R2, R3, R4]), []⟩ (roundD aeC6 10 0 0) = some (.norm, q10 s t (IntKind.wrap IntKind.i64 (i + 1)) (Hm [R0, R1, R2, R3, R4])) := by kernel_rfl
theorem t10_e (ok : Nat → List DV → Bool) (T : T10) (F : List (Nat × RuleF)) : nextS aeC6 (ev10 ok T F) 10 0 Try.f10 none 0 (.exit 0) ⟨[], [], []⟩ (doneE aeC6 Try.f10 0 fun v h => freezeV h 4 v) = bif ok 21 [] then some (bD true) else none := by kernel_rfl
theorem k10 : OkSeg Try.f10 none [0] := ⟨by kernel_rfl, by kernel_rfl, by decide⟩
theorem k10_0 : OkSeg Try.f10 (some 0) [3] := ⟨by kernel_rfl, by kernel_rfl, by decide⟩
theorem k10_3 : OkSeg Try.f10 (some 3) [] := ⟨by kernel_rfl, by kernel_rfl, by decide⟩
end Go.Proofs.Ytjfopbpkophoeaa

/- Chapter 06: splits. Written by wip/tools/gen6b.py. -/
namespace Go.Proofs.Ytjfopbpkophoeaa
open Go Go.AE
set_option maxRecDepth 100000

abbrev z0 : DV := .sl [] 0 0 false true
def nilD2 (e : Int) : DV := .tup [z0, iD e]
end Go.Proofs.Ytjfopbpkophoeaa

/- Chapter 06: whether a list splits a state. -/
namespace Go.Proofs.Ytjfopbpkophoeaa
open Go Go.AE
set_option maxRecDepth 100000
section
variable {M : List (List Int)} {s : Nat} {l : List Int} {c z : Bool}
end
end Go.Proofs.Ytjfopbpkophoeaa

/- Chapter 06: contracts of Split, R.Split, part. Written by wip/tools/gen6c.py. -/
namespace Go.Proofs.Ytjfopbpkophoeaa
open Go Go.AE
set_option maxRecDepth 100000
/-! ### A part of a row -/
section
variable {M : List (List Int)} {s : Nat} {l : List Int} {c z c2 z2 B : Bool} {ok : Nat → List DV → Bool}
end
end Go.Proofs.Ytjfopbpkophoeaa

/- Chapter 06: merges of states, walked at each number of states. Written by wip/tools/genE2.py. -/
namespace Go.Proofs.Ytjfopbpkophoeaa
open Go Go.AE
set_option maxRecDepth 100000
def dropAt {α : Type} : Nat → List α → List α
  | _, [] => []
  | 0, _ :: l => l
  | n + 1, x :: l => x :: dropAt n l
def addR : List Int → List Int → List Int
  | x :: l, y :: m => IntKind.wrap IntKind.i64 (x + y) :: addR l m
  | _, _ => []
/-- Two states merged. -/
def mergeM (M : List (List Int)) (s t : Nat) : List (List Int) := dropAt t ((M.set s (addR (M.getD s []) (M.getD t []))).map (dropAt t))
def eqC (s t : Nat) : List (List Int) → Bool
  | [] => true
  | r :: R => decide (r.getD s 0 = r.getD t 0) && eqC s t R
def mxF : Int → List Int → Int
  | m, [] => m
  | m, x :: r => mxF (if x > m then x else m) r
def mxL : List Int → Int
  | [] => 0
  | x :: r => mxF x r
def chN {X : Type} (bad good : X) : List Int → X
  | [] => good
  | x :: r => bif decide (9 < x) then bad else chN bad good r
def chE {X : Type} (s t : Nat) (bad good : X) : List (List Int) → X
  | [] => good
  | r :: R => bif !decide (r.getD s 0 = r.getD t 0) then bad else chE s t bad good R
noncomputable def ev6 (ok : Nat → List DV → Bool) (S : Nat → List DV → DV) : Ev := evO aeC6 aeF (evT ok S) [61] [] 30 8
theorem ev6_ok (S : Nat → List DV → DV) : EvOK Try.prog (ev6 (okS S) S) := evO_ok (C := aeC6) ae_T ae_Q ae_mixed (fun _ _ h => ae_fn6 h) (evT_ok S) [61] [] 30 8

theorem u44_201 (ok : Nat → List DV → Bool) (x00 x01 x10 x11 : Int) : pureE aeC6 (ev6 ok (fun _ _ => .tup [mtx [[x00, x01], [x10, x11]], iD 0])) 30 44 Try.f44 [matD [[x00, x01], [x10, x11]], iD 0, iD 1] = bif ok 61 [matD [[x00, x01], [x10, x11]]] then (bif !eqC 0 1 [[x00, x01], [x10, x11]] then some (nilD2 4) else bif decide (9 < mxL ((mergeM [[x00, x01], [x10, x11]] 0 1).getD 0 [])) then some (nilD2 8) else some (.tup [matD (mergeM [[x00, x01], [x10, x11]] 0 1), iD 0])) else none := by kernel_rfl
theorem u45_201 (x00 x01 x10 x11 : Int) : pureE aeC6 Ev.nil 30 45 Try.f45 [matD [[x00, x01], [x10, x11]], iD 0, iD 1] = chE 0 1 (some (bD false)) (some (bD true)) [[x00, x01], [x10, x11]] := by kernel_rfl
theorem u46_201 (x00 x01 x10 x11 : Int) : pureE aeC6 Ev.nil 30 46 Try.f46 [matD [[x00, x01], [x10, x11]], iD 0, iD 1] = chN (some (.tup [z0, bD false])) (some (.tup [matD (mergeM [[x00, x01], [x10, x11]] 0 1), bD true])) (mergeM [[x00, x01], [x10, x11]] 0 1).flatten := by kernel_rfl
theorem u44_301 (ok : Nat → List DV → Bool) (x00 x01 x02 x10 x11 x12 x20 x21 x22 : Int) : pureE aeC6 (ev6 ok (fun _ _ => .tup [mtx [[x00, x01, x02], [x10, x11, x12], [x20, x21, x22]], iD 0])) 30 44 Try.f44 [matD [[x00, x01, x02], [x10, x11, x12], [x20, x21, x22]], iD 0, iD 1] = bif ok 61 [matD [[x00, x01, x02], [x10, x11, x12], [x20, x21, x22]]] then (bif !eqC 0 1 [[x00, x01, x02], [x10, x11, x12], [x20, x21, x22]] then some (nilD2 4) else bif decide (9 < mxL ((mergeM [[x00, x01, x02], [x10, x11, x12], [x20, x21, x22]] 0 1).getD 0 [])) then some (nilD2 8) else some (.tup [matD (mergeM [[x00, x01, x02], [x10, x11, x12], [x20, x21, x22]] 0 1), iD 0])) else none := by kernel_rfl
theorem u45_301 (x00 x01 x02 x10 x11 x12 x20 x21 x22 : Int) : pureE aeC6 Ev.nil 30 45 Try.f45 [matD [[x00, x01, x02], [x10, x11, x12], [x20, x21, x22]], iD 0, iD 1] = chE 0 1 (some (bD false)) (some (bD true)) [[x00, x01, x02], [x10, x11, x12], [x20, x21, x22]] := by kernel_rfl
theorem u46_301 (x00 x01 x02 x10 x11 x12 x20 x21 x22 : Int) : pureE aeC6 Ev.nil 30 46 Try.f46 [matD [[x00, x01, x02], [x10, x11, x12], [x20, x21, x22]], iD 0, iD 1] = chN (some (.tup [z0, bD false])) (some (.tup [matD (mergeM [[x00, x01, x02], [x10, x11, x12], [x20, x21, x22]] 0 1), bD true])) (mergeM [[x00, x01, x02], [x10, x11, x12], [x20, x21, x22]] 0 1).flatten := by kernel_rfl
theorem u44_302 (ok : Nat → List DV → Bool) (x00 x01 x02 x10 x11 x12 x20 x21 x22 : Int) : pureE aeC6 (ev6 ok (fun _ _ => .tup [mtx [[x00, x01, x02], [x10, x11, x12], [x20, x21, x22]], iD 0])) 30 44 Try.f44 [matD [[x00, x01, x02], [x10, x11, x12], [x20, x21, x22]], iD 0, iD 2] = bif ok 61 [matD [[x00, x01, x02], [x10, x11, x12], [x20, x21, x22]]] then (bif !eqC 0 2 [[x00, x01, x02], [x10, x11, x12], [x20, x21, x22]] then some (nilD2 4) else bif decide (9 < mxL ((mergeM [[x00, x01, x02], [x10, x11, x12], [x20, x21, x22]] 0 2).getD 0 [])) then some (nilD2 8) else some (.tup [matD (mergeM [[x00, x01, x02], [x10, x11, x12], [x20, x21, x22]] 0 2), iD 0])) else none := by kernel_rfl
theorem u45_302 (x00 x01 x02 x10 x11 x12 x20 x21 x22 : Int) : pureE aeC6 Ev.nil 30 45 Try.f45 [matD [[x00, x01, x02], [x10, x11, x12], [x20, x21, x22]], iD 0, iD 2] = chE 0 2 (some (bD false)) (some (bD true)) [[x00, x01, x02], [x10, x11, x12], [x20, x21, x22]] := by kernel_rfl
theorem u46_302 (x00 x01 x02 x10 x11 x12 x20 x21 x22 : Int) : pureE aeC6 Ev.nil 30 46 Try.f46 [matD [[x00, x01, x02], [x10, x11, x12], [x20, x21, x22]], iD 0, iD 2] = chN (some (.tup [z0, bD false])) (some (.tup [matD (mergeM [[x00, x01, x02], [x10, x11, x12], [x20, x21, x22]] 0 2), bD true])) (mergeM [[x00, x01, x02], [x10, x11, x12], [x20, x21, x22]] 0 2).flatten := by kernel_rfl
theorem u44_312 (ok : Nat → List DV → Bool) (x00 x01 x02 x10 x11 x12 x20 x21 x22 : Int) : pureE aeC6 (ev6 ok (fun _ _ => .tup [mtx [[x00, x01, x02], [x10, x11, x12], [x20, x21, x22]], iD 0])) 30 44 Try.f44 [matD [[x00, x01, x02], [x10, x11, x12], [x20, x21, x22]], iD 1, iD 2] = bif ok 61 [matD [[x00, x01, x02], [x10, x11, x12], [x20, x21, x22]]] then (bif !eqC 1 2 [[x00, x01, x02], [x10, x11, x12], [x20, x21, x22]] then some (nilD2 4) else bif decide (9 < mxL ((mergeM [[x00, x01, x02], [x10, x11, x12], [x20, x21, x22]] 1 2).getD 1 [])) then some (nilD2 8) else some (.tup [matD (mergeM [[x00, x01, x02], [x10, x11, x12], [x20, x21, x22]] 1 2), iD 0])) else none := by kernel_rfl
theorem u45_312 (x00 x01 x02 x10 x11 x12 x20 x21 x22 : Int) : pureE aeC6 Ev.nil 30 45 Try.f45 [matD [[x00, x01, x02], [x10, x11, x12], [x20, x21, x22]], iD 1, iD 2] = chE 1 2 (some (bD false)) (some (bD true)) [[x00, x01, x02], [x10, x11, x12], [x20, x21, x22]] := by kernel_rfl
theorem u46_312 (x00 x01 x02 x10 x11 x12 x20 x21 x22 : Int) : pureE aeC6 Ev.nil 30 46 Try.f46 [matD [[x00, x01, x02], [x10, x11, x12], [x20, x21, x22]], iD 1, iD 2] = chN (some (.tup [z0, bD false])) (some (.tup [matD (mergeM [[x00, x01, x02], [x10, x11, x12], [x20, x21, x22]] 1 2), bD true])) (mergeM [[x00, x01, x02], [x10, x11, x12], [x20, x21, x22]] 1 2).flatten := by kernel_rfl
theorem u44_401 (ok : Nat → List DV → Bool) (x00 x01 x02 x03 x10 x11 x12 x13 x20 x21 x22 x23 x30 x31 x32 x33 : Int) : pureE aeC6 (ev6 ok (fun _ _ => .tup [mtx [[x00, x01, x02, x03], [x10, x11, x12, x13], [x20, x21, x22, x23], [x30, x31, x32, x33]], iD 0])) 30 44 Try.f44 [matD [[x00, x01, x02, x03], [x10, x11, x12, x13], [x20, x21, x22, x23], [x30, x31, x32, x33]], iD 0, iD 1] = bif ok 61 [matD [[x00, x01, x02, x03], [x10, x11, x12, x13], [x20, x21, x22, x23], [x30, x31, x32, x33]]] then (bif !eqC 0 1 [[x00, x01, x02, x03], [x10, x11, x12, x13], [x20, x21, x22, x23], [x30, x31, x32, x33]] then some (nilD2 4) else bif decide (9 < mxL ((mergeM [[x00, x01, x02, x03], [x10, x11, x12, x13], [x20, x21, x22, x23], [x30, x31, x32, x33]] 0 1).getD 0 [])) then some (nilD2 8) else some (.tup [matD (mergeM [[x00, x01, x02, x03], [x10, x11, x12, x13], [x20, x21, x22, x23], [x30, x31, x32, x33]] 0 1), iD 0])) else none := by kernel_rfl
theorem u45_401 (x00 x01 x02 x03 x10 x11 x12 x13 x20 x21 x22 x23 x30 x31 x32 x33 : Int) : pureE aeC6 Ev.nil 30 45 Try.f45 [matD [[x00, x01, x02, x03], [x10, x11, x12, x13], [x20, x21, x22, x23], [x30, x31, x32, x33]], iD 0, iD 1] = chE 0 1 (some (bD false)) (some (bD true)) [[x00, x01, x02, x03], [x10, x11, x12, x13], [x20, x21, x22, x23], [x30, x31, x32, x33]] := by kernel_rfl
theorem u46_401 (x00 x01 x02 x03 x10 x11 x12 x13 x20 x21 x22 x23 x30 x31 x32 x33 : Int) : pureE aeC6 Ev.nil 30 46 Try.f46 [matD [[x00, x01, x02, x03], [x10, x11, x12, x13], [x20, x21, x22, x23], [x30, x31, x32, x33]], iD 0, iD 1] = chN (some (.tup [z0, bD false])) (some (.tup [matD (mergeM [[x00, x01, x02, x03], [x10, x11, x12, x13], [x20, x21, x22, x23], [x30, x31, x32, x33]] 0 1), bD true])) (mergeM [[x00, x01, x02, x03], [x10, x11, x12, x13], [x20, x21, x22, x23], [x30, x31, x32, x33]] 0 1).flatten := by kernel_rfl
theorem u44_402 (ok : Nat → List DV → Bool) (x00 x01 x02 x03 x10 x11 x12 x13 x20 x21 x22 x23 x30 x31 x32 x33 : Int) : pureE aeC6 (ev6 ok (fun _ _ => .tup [mtx [[x00, x01, x02, x03], [x10, x11, x12, x13], [x20, x21, x22, x23], [x30, x31, x32, x33]], iD 0])) 30 44 Try.f44 [matD [[x00, x01, x02, x03], [x10, x11, x12, x13], [x20, x21, x22, x23], [x30, x31, x32, x33]], iD 0, iD 2] = bif ok 61 [matD [[x00, x01, x02, x03], [x10, x11, x12, x13], [x20, x21, x22, x23], [x30, x31, x32, x33]]] then (bif !eqC 0 2 [[x00, x01, x02, x03], [x10, x11, x12, x13], [x20, x21, x22, x23], [x30, x31, x32, x33]] then some (nilD2 4) else bif decide (9 < mxL ((mergeM [[x00, x01, x02, x03], [x10, x11, x12, x13], [x20, x21, x22, x23], [x30, x31, x32, x33]] 0 2).getD 0 [])) then some (nilD2 8) else some (.tup [matD (mergeM [[x00, x01, x02, x03], [x10, x11, x12, x13], [x20, x21, x22, x23], [x30, x31, x32, x33]] 0 2), iD 0])) else none := by kernel_rfl
theorem u45_402 (x00 x01 x02 x03 x10 x11 x12 x13 x20 x21 x22 x23 x30 x31 x32 x33 : Int) : pureE aeC6 Ev.nil 30 45 Try.f45 [matD [[x00, x01, x02, x03], [x10, x11, x12, x13], [x20, x21, x22, x23], [x30, x31, x32, x33]], iD 0, iD 2] = chE 0 2 (some (bD false)) (some (bD true)) [[x00, x01, x02, x03], [x10, x11, x12, x13], [x20, x21, x22, x23], [x30, x31, x32, x33]] := by kernel_rfl
theorem u46_402 (x00 x01 x02 x03 x10 x11 x12 x13 x20 x21 x22 x23 x30 x31 x32 x33 : Int) : pureE aeC6 Ev.nil 30 46 Try.f46 [matD [[x00, x01, x02, x03], [x10, x11, x12, x13], [x20, x21, x22, x23], [x30, x31, x32, x33]], iD 0, iD 2] = chN (some (.tup [z0, bD false])) (some (.tup [matD (mergeM [[x00, x01, x02, x03], [x10, x11, x12, x13], [x20, x21, x22, x23], [x30, x31, x32, x33]] 0 2), bD true])) (mergeM [[x00, x01, x02, x03], [x10, x11, x12, x13], [x20, x21, x22, x23], [x30, x31, x32, x33]] 0 2).flatten := by kernel_rfl
theorem u44_403 (ok : Nat → List DV → Bool) (x00 x01 x02 x03 x10 x11 x12 x13 x20 x21 x22 x23 x30 x31 x32 x33 : Int) : pureE aeC6 (ev6 ok (fun _ _ => .tup [mtx [[x00, x01, x02, x03], [x10, x11, x12, x13], [x20, x21, x22, x23], [x30, x31, x32, x33]], iD 0])) 30 44 Try.f44 [matD [[x00, x01, x02, x03], [x10, x11, x12, x13], [x20, x21, x22, x23], [x30, x31, x32, x33]], iD 0, iD 3] = bif ok 61 [matD [[x00, x01, x02, x03], [x10, x11, x12, x13], [x20, x21, x22, x23], [x30, x31, x32, x33]]] then (bif !eqC 0 3 [[x00, x01, x02, x03], [x10, x11, x12, x13], [x20, x21, x22, x23], [x30, x31, x32, x33]] then some (nilD2 4) else bif decide (9 < mxL ((mergeM [[x00, x01, x02, x03], [x10, x11, x12, x13], [x20, x21, x22, x23], [x30, x31, x32, x33]] 0 3).getD 0 [])) then some (nilD2 8) else some (.tup [matD (mergeM [[x00, x01, x02, x03], [x10, x11, x12, x13], [x20, x21, x22, x23], [x30, x31, x32, x33]] 0 3), iD 0])) else none := by kernel_rfl
theorem u45_403 (x00 x01 x02 x03 x10 x11 x12 x13 x20 x21 x22 x23 x30 x31 x32 x33 : Int) : pureE aeC6 Ev.nil 30 45 Try.f45 [matD [[x00, x01, x02, x03], [x10, x11, x12, x13], [x20, x21, x22, x23], [x30, x31, x32, x33]], iD 0, iD 3] = chE 0 3 (some (bD false)) (some (bD true)) [[x00, x01, x02, x03], [x10, x11, x12, x13], [x20, x21, x22, x23], [x30, x31, x32, x33]] := by kernel_rfl
theorem u46_403 (x00 x01 x02 x03 x10 x11 x12 x13 x20 x21 x22 x23 x30 x31 x32 x33 : Int) : pureE aeC6 Ev.nil 30 46 Try.f46 [matD [[x00, x01, x02, x03], [x10, x11, x12, x13], [x20, x21, x22, x23], [x30, x31, x32, x33]], iD 0, iD 3] = chN (some (.tup [z0, bD false])) (some (.tup [matD (mergeM [[x00, x01, x02, x03], [x10, x11, x12, x13], [x20, x21, x22, x23], [x30, x31, x32, x33]] 0 3), bD true])) (mergeM [[x00, x01, x02, x03], [x10, x11, x12, x13], [x20, x21, x22, x23], [x30, x31, x32, x33]] 0 3).flatten := by kernel_rfl
theorem u44_412 (ok : Nat → List DV → Bool) (x00 x01 x02 x03 x10 x11 x12 x13 x20 x21 x22 x23 x30 x31 x32 x33 : Int) : pureE aeC6 (ev6 ok (fun _ _ => .tup [mtx [[x00, x01, x02, x03], [x10, x11, x12, x13], [x20, x21, x22, x23], [x30, x31, x32, x33]], iD 0])) 30 44 Try.f44 [matD [[x00, x01, x02, x03], [x10, x11, x12, x13], [x20, x21, x22, x23], [x30, x31, x32, x33]], iD 1, iD 2] = bif ok 61 [matD [[x00, x01, x02, x03], [x10, x11, x12, x13], [x20, x21, x22, x23], [x30, x31, x32, x33]]] then (bif !eqC 1 2 [[x00, x01, x02, x03], [x10, x11, x12, x13], [x20, x21, x22, x23], [x30, x31, x32, x33]] then some (nilD2 4) else bif decide (9 < mxL ((mergeM [[x00, x01, x02, x03], [x10, x11, x12, x13], [x20, x21, x22, x23], [x30, x31, x32, x33]] 1 2).getD 1 [])) then some (nilD2 8) else some (.tup [matD (mergeM [[x00, x01, x02, x03], [x10, x11, x12, x13], [x20, x21, x22, x23], [x30, x31, x32, x33]] 1 2), iD 0])) else none := by kernel_rfl
theorem u45_412 (x00 x01 x02 x03 x10 x11 x12 x13 x20 x21 x22 x23 x30 x31 x32 x33 : Int) : pureE aeC6 Ev.nil 30 45 Try.f45 [matD [[x00, x01, x02, x03], [x10, x11, x12, x13], [x20, x21, x22, x23], [x30, x31, x32, x33]], iD 1, iD 2] = chE 1 2 (some (bD false)) (some (bD true)) [[x00, x01, x02, x03], [x10, x11, x12, x13], [x20, x21, x22, x23], [x30, x31, x32, x33]] := by kernel_rfl
theorem u46_412 (x00 x01 x02 x03 x10 x11 x12 x13 x20 x21 x22 x23 x30 x31 x32 x33 : Int) : pureE aeC6 Ev.nil 30 46 Try.f46 [matD [[x00, x01, x02, x03], [x10, x11, x12, x13], [x20, x21, x22, x23], [x30, x31, x32, x33]], iD 1, iD 2] = chN (some (.tup [z0, bD false])) (some (.tup [matD (mergeM [[x00, x01, x02, x03], [x10, x11, x12, x13], [x20, x21, x22, x23], [x30, x31, x32, x33]] 1 2), bD true])) (mergeM [[x00, x01, x02, x03], [x10, x11, x12, x13], [x20, x21, x22, x23], [x30, x31, x32, x33]] 1 2).flatten := by kernel_rfl
theorem u44_413 (ok : Nat → List DV → Bool) (x00 x01 x02 x03 x10 x11 x12 x13 x20 x21 x22 x23 x30 x31 x32 x33 : Int) : pureE aeC6 (ev6 ok (fun _ _ => .tup [mtx [[x00, x01, x02, x03], [x10, x11, x12, x13], [x20, x21, x22, x23], [x30, x31, x32, x33]], iD 0])) 30 44 Try.f44 [matD [[x00, x01, x02, x03], [x10, x11, x12, x13], [x20, x21, x22, x23], [x30, x31, x32, x33]], iD 1, iD 3] = bif ok 61 [matD [[x00, x01, x02, x03], [x10, x11, x12, x13], [x20, x21, x22, x23], [x30, x31, x32, x33]]] then (bif !eqC 1 3 [[x00, x01, x02, x03], [x10, x11, x12, x13], [x20, x21, x22, x23], [x30, x31, x32, x33]] then some (nilD2 4) else bif decide (9 < mxL ((mergeM [[x00, x01, x02, x03], [x10, x11, x12, x13], [x20, x21, x22, x23], [x30, x31, x32, x33]] 1 3).getD 1 [])) then some (nilD2 8) else some (.tup [matD (mergeM [[x00, x01, x02, x03], [x10, x11, x12, x13], [x20, x21, x22, x23], [x30, x31, x32, x33]] 1 3), iD 0])) else none := by kernel_rfl
theorem u45_413 (x00 x01 x02 x03 x10 x11 x12 x13 x20 x21 x22 x23 x30 x31 x32 x33 : Int) : pureE aeC6 Ev.nil 30 45 Try.f45 [matD [[x00, x01, x02, x03], [x10, x11, x12, x13], [x20, x21, x22, x23], [x30, x31, x32, x33]], iD 1, iD 3] = chE 1 3 (some (bD false)) (some (bD true)) [[x00, x01, x02, x03], [x10, x11, x12, x13], [x20, x21, x22, x23], [x30, x31, x32, x33]] := by kernel_rfl
theorem u46_413 (x00 x01 x02 x03 x10 x11 x12 x13 x20 x21 x22 x23 x30 x31 x32 x33 : Int) : pureE aeC6 Ev.nil 30 46 Try.f46 [matD [[x00, x01, x02, x03], [x10, x11, x12, x13], [x20, x21, x22, x23], [x30, x31, x32, x33]], iD 1, iD 3] = chN (some (.tup [z0, bD false])) (some (.tup [matD (mergeM [[x00, x01, x02, x03], [x10, x11, x12, x13], [x20, x21, x22, x23], [x30, x31, x32, x33]] 1 3), bD true])) (mergeM [[x00, x01, x02, x03], [x10, x11, x12, x13], [x20, x21, x22, x23], [x30, x31, x32, x33]] 1 3).flatten := by kernel_rfl
theorem u44_423 (ok : Nat → List DV → Bool) (x00 x01 x02 x03 x10 x11 x12 x13 x20 x21 x22 x23 x30 x31 x32 x33 : Int) : pureE aeC6 (ev6 ok (fun _ _ => .tup [mtx [[x00, x01, x02, x03], [x10, x11, x12, x13], [x20, x21, x22, x23], [x30, x31, x32, x33]], iD 0])) 30 44 Try.f44 [matD [[x00, x01, x02, x03], [x10, x11, x12, x13], [x20, x21, x22, x23], [x30, x31, x32, x33]], iD 2, iD 3] = bif ok 61 [matD [[x00, x01, x02, x03], [x10, x11, x12, x13], [x20, x21, x22, x23], [x30, x31, x32, x33]]] then (bif !eqC 2 3 [[x00, x01, x02, x03], [x10, x11, x12, x13], [x20, x21, x22, x23], [x30, x31, x32, x33]] then some (nilD2 4) else bif decide (9 < mxL ((mergeM [[x00, x01, x02, x03], [x10, x11, x12, x13], [x20, x21, x22, x23], [x30, x31, x32, x33]] 2 3).getD 2 [])) then some (nilD2 8) else some (.tup [matD (mergeM [[x00, x01, x02, x03], [x10, x11, x12, x13], [x20, x21, x22, x23], [x30, x31, x32, x33]] 2 3), iD 0])) else none := by kernel_rfl
theorem u45_423 (x00 x01 x02 x03 x10 x11 x12 x13 x20 x21 x22 x23 x30 x31 x32 x33 : Int) : pureE aeC6 Ev.nil 30 45 Try.f45 [matD [[x00, x01, x02, x03], [x10, x11, x12, x13], [x20, x21, x22, x23], [x30, x31, x32, x33]], iD 2, iD 3] = chE 2 3 (some (bD false)) (some (bD true)) [[x00, x01, x02, x03], [x10, x11, x12, x13], [x20, x21, x22, x23], [x30, x31, x32, x33]] := by kernel_rfl
theorem u46_423 (x00 x01 x02 x03 x10 x11 x12 x13 x20 x21 x22 x23 x30 x31 x32 x33 : Int) : pureE aeC6 Ev.nil 30 46 Try.f46 [matD [[x00, x01, x02, x03], [x10, x11, x12, x13], [x20, x21, x22, x23], [x30, x31, x32, x33]], iD 2, iD 3] = chN (some (.tup [z0, bD false])) (some (.tup [matD (mergeM [[x00, x01, x02, x03], [x10, x11, x12, x13], [x20, x21, x22, x23], [x30, x31, x32, x33]] 2 3), bD true])) (mergeM [[x00, x01, x02, x03], [x10, x11, x12, x13], [x20, x21, x22, x23], [x30, x31, x32, x33]] 2 3).flatten := by kernel_rfl
theorem u44_501 (ok : Nat → List DV → Bool) (x00 x01 x02 x03 x04 x10 x11 x12 x13 x14 x20 x21 x22 x23 x24 x30 x31 x32 x33 x34 x40 x41 x42 x43 x44 : Int) : pureE aeC6 (ev6 ok (fun _ _ => .tup [mtx [[x00, x01, x02, x03, x04], [x10, x11, x12, x13, x14], [x20, x21, x22, x23, x24], [x30, x31, x32, x33, x34], [x40, x41, x42, x43, x44]], iD 0])) 30 44 Try.f44 [matD [[x00, x01, x02, x03, x04], [x10, x11, x12, x13, x14], [x20, x21, x22, x23, x24], [x30, x31, x32, x33, x34], [x40, x41, x42, x43, x44]], iD 0, iD 1] = bif ok 61 [matD [[x00, x01, x02, x03, x04], [x10, x11, x12, x13, x14], [x20, x21, x22, x23, x24], [x30, x31, x32, x33, x34], [x40, x41, x42, x43, x44]]] then (bif !eqC 0 1 [[x00, x01, x02, x03, x04], [x10, x11, x12, x13, x14], [x20, x21, x22, x23, x24], [x30, x31, x32, x33, x34], [x40, x41, x42, x43, x44]] then some (nilD2 4) else bif decide (9 < mxL ((mergeM [[x00, x01, x02, x03, x04], [x10, x11, x12, x13, x14], [x20, x21, x22, x23, x24], [x30, x31, x32, x33, x34], [x40, x41, x42, x43, x44]] 0 1).getD 0 [])) then some (nilD2 8) else some (.tup [matD (mergeM [[x00, x01, x02, x03, x04], [x10, x11, x12, x13, x14], [x20, x21, x22, x23, x24], [x30, x31, x32, x33, x34], [x40, x41, x42, x43, x44]] 0 1), iD 0])) else none := by kernel_rfl
theorem u45_501 (x00 x01 x02 x03 x04 x10 x11 x12 x13 x14 x20 x21 x22 x23 x24 x30 x31 x32 x33 x34 x40 x41 x42 x43 x44 : Int) : pureE aeC6 Ev.nil 30 45 Try.f45 [matD [[x00, x01, x02, x03, x04], [x10, x11, x12, x13, x14], [x20, x21, x22, x23, x24], [x30, x31, x32, x33, x34], [x40, x41, x42, x43, x44]], iD 0, iD 1] = chE 0 1 (some (bD false)) (some (bD true)) [[x00, x01, x02, x03, x04], [x10, x11, x12, x13, x14], [x20, x21, x22, x23, x24], [x30, x31, x32, x33, x34], [x40, x41, x42, x43, x44]] := by kernel_rfl
theorem u46_501 (x00 x01 x02 x03 x04 x10 x11 x12 x13 x14 x20 x21 x22 x23 x24 x30 x31 x32 x33 x34 x40 x41 x42 x43 x44 : Int) : pureE aeC6 Ev.nil 30 46 Try.f46 [matD [[x00, x01, x02, x03, x04], [x10, x11, x12, x13, x14], [x20, x21, x22, x23, x24], [x30, x31, x32, x33, x34], [x40, x41, x42, x43, x44]], iD 0, iD 1] = chN (some (.tup [z0, bD false])) (some (.tup [matD (mergeM [[x00, x01, x02, x03, x04], [x10, x11, x12, x13, x14], [x20, x21, x22, x23, x24], [x30, x31, x32, x33, x34], [x40, x41, x42, x43, x44]] 0 1), bD true])) (mergeM [[x00, x01, x02, x03, x04], [x10, x11, x12, x13, x14], [x20, x21, x22, x23, x24], [x30, x31, x32, x33, x34], [x40, x41, x42, x43, x44]] 0 1).flatten := by kernel_rfl
theorem u44_502 (ok : Nat → List DV → Bool) (x00 x01 x02 x03 x04 x10 x11 x12 x13 x14 x20 x21 x22 x23 x24 x30 x31 x32 x33 x34 x40 x41 x42 x43 x44 : Int) : pureE aeC6 (ev6 ok (fun _ _ => .tup [mtx [[x00, x01, x02, x03, x04], [x10, x11, x12, x13, x14], [x20, x21, x22, x23, x24], [x30, x31, x32, x33, x34], [x40, x41, x42, x43, x44]], iD 0])) 30 44 Try.f44 [matD [[x00, x01, x02, x03, x04], [x10, x11, x12, x13, x14], [x20, x21, x22, x23, x24], [x30, x31, x32, x33, x34], [x40, x41, x42, x43, x44]], iD 0, iD 2] = bif ok 61 [matD [[x00, x01, x02, x03, x04], [x10, x11, x12, x13, x14], [x20, x21, x22, x23, x24], [x30, x31, x32, x33, x34], [x40, x41, x42, x43, x44]]] then (bif !eqC 0 2 [[x00, x01, x02, x03, x04], [x10, x11, x12, x13, x14], [x20, x21, x22, x23, x24], [x30, x31, x32, x33, x34], [x40, x41, x42, x43, x44]] then some (nilD2 4) else bif decide (9 < mxL ((mergeM [[x00, x01, x02, x03, x04], [x10, x11, x12, x13, x14], [x20, x21, x22, x23, x24], [x30, x31, x32, x33, x34], [x40, x41, x42, x43, x44]] 0 2).getD 0 [])) then some (nilD2 8) else some (.tup [matD (mergeM [[x00, x01, x02, x03, x04], [x10, x11, x12, x13, x14], [x20, x21, x22, x23, x24], [x30, x31, x32, x33, x34], [x40, x41, x42, x43, x44]] 0 2), iD 0])) else none := by kernel_rfl
theorem u45_502 (x00 x01 x02 x03 x04 x10 x11 x12 x13 x14 x20 x21 x22 x23 x24 x30 x31 x32 x33 x34 x40 x41 x42 x43 x44 : Int) : pureE aeC6 Ev.nil 30 45 Try.f45 [matD [[x00, x01, x02, x03, x04], [x10, x11, x12, x13, x14], [x20, x21, x22, x23, x24], [x30, x31, x32, x33, x34], [x40, x41, x42, x43, x44]], iD 0, iD 2] = chE 0 2 (some (bD false)) (some (bD true)) [[x00, x01, x02, x03, x04], [x10, x11, x12, x13, x14], [x20, x21, x22, x23, x24], [x30, x31, x32, x33, x34], [x40, x41, x42, x43, x44]] := by kernel_rfl
theorem u46_502 (x00 x01 x02 x03 x04 x10 x11 x12 x13 x14 x20 x21 x22 x23 x24 x30 x31 x32 x33 x34 x40 x41 x42 x43 x44 : Int) : pureE aeC6 Ev.nil 30 46 Try.f46 [matD [[x00, x01, x02, x03, x04], [x10, x11, x12, x13, x14], [x20, x21, x22, x23, x24], [x30, x31, x32, x33, x34], [x40, x41, x42, x43, x44]], iD 0, iD 2] = chN (some (.tup [z0, bD false])) (some (.tup [matD (mergeM [[x00, x01, x02, x03, x04], [x10, x11, x12, x13, x14], [x20, x21, x22, x23, x24], [x30, x31, x32, x33, x34], [x40, x41, x42, x43, x44]] 0 2), bD true])) (mergeM [[x00, x01, x02, x03, x04], [x10, x11, x12, x13, x14], [x20, x21, x22, x23, x24], [x30, x31, x32, x33, x34], [x40, x41, x42, x43, x44]] 0 2).flatten := by kernel_rfl
theorem u44_503 (ok : Nat → List DV → Bool) (x00 x01 x02 x03 x04 x10 x11 x12 x13 x14 x20 x21 x22 x23 x24 x30 x31 x32 x33 x34 x40 x41 x42 x43 x44 : Int) : pureE aeC6 (ev6 ok (fun _ _ => .tup [mtx [[x00, x01, x02, x03, x04], [x10, x11, x12, x13, x14], [x20, x21, x22, x23, x24], [x30, x31, x32, x33, x34], [x40, x41, x42, x43, x44]], iD 0])) 30 44 Try.f44 [matD [[x00, x01, x02, x03, x04], [x10, x11, x12, x13, x14], [x20, x21, x22, x23, x24], [x30, x31, x32, x33, x34], [x40, x41, x42, x43, x44]], iD 0, iD 3] = bif ok 61 [matD [[x00, x01, x02, x03, x04], [x10, x11, x12, x13, x14], [x20, x21, x22, x23, x24], [x30, x31, x32, x33, x34], [x40, x41, x42, x43, x44]]] then (bif !eqC 0 3 [[x00, x01, x02, x03, x04], [x10, x11, x12, x13, x14], [x20, x21, x22, x23, x24], [x30, x31, x32, x33, x34], [x40, x41, x42, x43, x44]] then some (nilD2 4) else bif decide (9 < mxL ((mergeM [[x00, x01, x02, x03, x04], [x10, x11, x12, x13, x14], [x20, x21, x22, x23, x24], [x30, x31, x32, x33, x34], [x40, x41, x42, x43, x44]] 0 3).getD 0 [])) then some (nilD2 8) else some (.tup [matD (mergeM [[x00, x01, x02, x03, x04], [x10, x11, x12, x13, x14], [x20, x21, x22, x23, x24], [x30, x31, x32, x33, x34], [x40, x41, x42, x43, x44]] 0 3), iD 0])) else none := by kernel_rfl
theorem u45_503 (x00 x01 x02 x03 x04 x10 x11 x12 x13 x14 x20 x21 x22 x23 x24 x30 x31 x32 x33 x34 x40 x41 x42 x43 x44 : Int) : pureE aeC6 Ev.nil 30 45 Try.f45 [matD [[x00, x01, x02, x03, x04], [x10, x11, x12, x13, x14], [x20, x21, x22, x23, x24], [x30, x31, x32, x33, x34], [x40, x41, x42, x43, x44]], iD 0, iD 3] = chE 0 3 (some (bD false)) (some (bD true)) [[x00, x01, x02, x03, x04], [x10, x11, x12, x13, x14], [x20, x21, x22, x23, x24], [x30, x31, x32, x33, x34], [x40, x41, x42, x43, x44]] := by kernel_rfl
theorem u46_503 (x00 x01 x02 x03 x04 x10 x11 x12 x13 x14 x20 x21 x22 x23 x24 x30 x31 x32 x33 x34 x40 x41 x42 x43 x44 : Int) : pureE aeC6 Ev.nil 30 46 Try.f46 [matD [[x00, x01, x02, x03, x04], [x10, x11, x12, x13, x14], [x20, x21, x22, x23, x24], [x30, x31, x32, x33, x34], [x40, x41, x42, x43, x44]], iD 0, iD 3] = chN (some (.tup [z0, bD false])) (some (.tup [matD (mergeM [[x00, x01, x02, x03, x04], [x10, x11, x12, x13, x14], [x20, x21, x22, x23, x24], [x30, x31, x32, x33, x34], [x40, x41, x42, x43, x44]] 0 3), bD true])) (mergeM [[x00, x01, x02, x03, x04], [x10, x11, x12, x13, x14], [x20, x21, x22, x23, x24], [x30, x31, x32, x33, x34], [x40, x41, x42, x43, x44]] 0 3).flatten := by kernel_rfl
theorem u44_504 (ok : Nat → List DV → Bool) (x00 x01 x02 x03 x04 x10 x11 x12 x13 x14 x20 x21 x22 x23 x24 x30 x31 x32 x33 x34 x40 x41 x42 x43 x44 : Int) : pureE aeC6 (ev6 ok (fun _ _ => .tup [mtx [[x00, x01, x02, x03, x04], [x10, x11, x12, x13, x14], [x20, x21, x22, x23, x24], [x30, x31, x32, x33, x34], [x40, x41, x42, x43, x44]], iD 0])) 30 44 Try.f44 [matD [[x00, x01, x02, x03, x04], [x10, x11, x12, x13, x14], [x20, x21, x22, x23, x24], [x30, x31, x32, x33, x34], [x40, x41, x42, x43, x44]], iD 0, iD 4] = bif ok 61 [matD [[x00, x01, x02, x03, x04], [x10, x11, x12, x13, x14], [x20, x21, x22, x23, x24], [x30, x31, x32, x33, x34], [x40, x41, x42, x43, x44]]] then (bif !eqC 0 4 [[x00, x01, x02, x03, x04], [x10, x11, x12, x13, x14], [x20, x21, x22, x23, x24], [x30, x31, x32, x33, x34], [x40, x41, x42, x43, x44]] then some (nilD2 4) else bif decide (9 < mxL ((mergeM [[x00, x01, x02, x03, x04], [x10, x11, x12, x13, x14], [x20, x21, x22, x23, x24], [x30, x31, x32, x33, x34], [x40, x41, x42, x43, x44]] 0 4).getD 0 [])) then some (nilD2 8) else some (.tup [matD (mergeM [[x00, x01, x02, x03, x04], [x10, x11, x12, x13, x14], [x20, x21, x22, x23, x24], [x30, x31, x32, x33, x34], [x40, x41, x42, x43, x44]] 0 4), iD 0])) else none := by kernel_rfl
theorem u45_504 (x00 x01 x02 x03 x04 x10 x11 x12 x13 x14 x20 x21 x22 x23 x24 x30 x31 x32 x33 x34 x40 x41 x42 x43 x44 : Int) : pureE aeC6 Ev.nil 30 45 Try.f45 [matD [[x00, x01, x02, x03, x04], [x10, x11, x12, x13, x14], [x20, x21, x22, x23, x24], [x30, x31, x32, x33, x34], [x40, x41, x42, x43, x44]], iD 0, iD 4] = chE 0 4 (some (bD false)) (some (bD true)) [[x00, x01, x02, x03, x04], [x10, x11, x12, x13, x14], [x20, x21, x22, x23, x24], [x30, x31, x32, x33, x34], [x40, x41, x42, x43, x44]] := by kernel_rfl
theorem u46_504 (x00 x01 x02 x03 x04 x10 x11 x12 x13 x14 x20 x21 x22 x23 x24 x30 x31 x32 x33 x34 x40 x41 x42 x43 x44 : Int) : pureE aeC6 Ev.nil 30 46 Try.f46 [matD [[x00, x01, x02, x03, x04], [x10, x11, x12, x13, x14], [x20, x21, x22, x23, x24], [x30, x31, x32, x33, x34], [x40, x41, x42, x43, x44]], iD 0, iD 4] = chN (some (.tup [z0, bD false])) (some (.tup [matD (mergeM [[x00, x01, x02, x03, x04], [x10, x11, x12, x13, x14], [x20, x21, x22, x23, x24], [x30, x31, x32, x33, x34], [x40, x41, x42, x43, x44]] 0 4), bD true])) (mergeM [[x00, x01, x02, x03, x04], [x10, x11, x12, x13, x14], [x20, x21, x22, x23, x24], [x30, x31, x32, x33, x34], [x40, x41, x42, x43, x44]] 0 4).flatten := by kernel_rfl
theorem u44_512 (ok : Nat → List DV → Bool) (x00 x01 x02 x03 x04 x10 x11 x12 x13 x14 x20 x21 x22 x23 x24 x30 x31 x32 x33 x34 x40 x41 x42 x43 x44 : Int) : pureE aeC6 (ev6 ok (fun _ _ => .tup [mtx [[x00, x01, x02, x03, x04], [x10, x11, x12, x13, x14], [x20, x21, x22, x23, x24], [x30, x31, x32, x33, x34], [x40, x41, x42, x43, x44]], iD 0])) 30 44 Try.f44 [matD [[x00, x01, x02, x03, x04], [x10, x11, x12, x13, x14], [x20, x21, x22, x23, x24], [x30, x31, x32, x33, x34], [x40, x41, x42, x43, x44]], iD 1, iD 2] = bif ok 61 [matD [[x00, x01, x02, x03, x04], [x10, x11, x12, x13, x14], [x20, x21, x22, x23, x24], [x30, x31, x32, x33, x34], [x40, x41, x42, x43, x44]]] then (bif !eqC 1 2 [[x00, x01, x02, x03, x04], [x10, x11, x12, x13, x14], [x20, x21, x22, x23, x24], [x30, x31, x32, x33, x34], [x40, x41, x42, x43, x44]] then some (nilD2 4) else bif decide (9 < mxL ((mergeM [[x00, x01, x02, x03, x04], [x10, x11, x12, x13, x14], [x20, x21, x22, x23, x24], [x30, x31, x32, x33, x34], [x40, x41, x42, x43, x44]] 1 2).getD 1 [])) then some (nilD2 8) else some (.tup [matD (mergeM [[x00, x01, x02, x03, x04], [x10, x11, x12, x13, x14], [x20, x21, x22, x23, x24], [x30, x31, x32, x33, x34], [x40, x41, x42, x43, x44]] 1 2), iD 0])) else none := by kernel_rfl
theorem u45_512 (x00 x01 x02 x03 x04 x10 x11 x12 x13 x14 x20 x21 x22 x23 x24 x30 x31 x32 x33 x34 x40 x41 x42 x43 x44 : Int) : pureE aeC6 Ev.nil 30 45 Try.f45 [matD [[x00, x01, x02, x03, x04], [x10, x11, x12, x13, x14], [x20, x21, x22, x23, x24], [x30, x31, x32, x33, x34], [x40, x41, x42, x43, x44]], iD 1, iD 2] = chE 1 2 (some (bD false)) (some (bD true)) [[x00, x01, x02, x03, x04], [x10, x11, x12, x13, x14], [x20, x21, x22, x23, x24], [x30, x31, x32, x33, x34], [x40, x41, x42, x43, x44]] := by kernel_rfl
theorem u46_512 (x00 x01 x02 x03 x04 x10 x11 x12 x13 x14 x20 x21 x22 x23 x24 x30 x31 x32 x33 x34 x40 x41 x42 x43 x44 : Int) : pureE aeC6 Ev.nil 30 46 Try.f46 [matD [[x00, x01, x02, x03, x04], [x10, x11, x12, x13, x14], [x20, x21, x22, x23, x24], [x30, x31, x32, x33, x34], [x40, x41, x42, x43, x44]], iD 1, iD 2] = chN (some (.tup [z0, bD false])) (some (.tup [matD (mergeM [[x00, x01, x02, x03, x04], [x10, x11, x12, x13, x14], [x20, x21, x22, x23, x24], [x30, x31, x32, x33, x34], [x40, x41, x42, x43, x44]] 1 2), bD true])) (mergeM [[x00, x01, x02, x03, x04], [x10, x11, x12, x13, x14], [x20, x21, x22, x23, x24], [x30, x31, x32, x33, x34], [x40, x41, x42, x43, x44]] 1 2).flatten := by kernel_rfl
theorem u44_513 (ok : Nat → List DV → Bool) (x00 x01 x02 x03 x04 x10 x11 x12 x13 x14 x20 x21 x22 x23 x24 x30 x31 x32 x33 x34 x40 x41 x42 x43 x44 : Int) : pureE aeC6 (ev6 ok (fun _ _ => .tup [mtx [[x00, x01, x02, x03, x04], [x10, x11, x12, x13, x14], [x20, x21, x22, x23, x24], [x30, x31, x32, x33, x34], [x40, x41, x42, x43, x44]], iD 0])) 30 44 Try.f44 [matD [[x00, x01, x02, x03, x04], [x10, x11, x12, x13, x14], [x20, x21, x22, x23, x24], [x30, x31, x32, x33, x34], [x40, x41, x42, x43, x44]], iD 1, iD 3] = bif ok 61 [matD [[x00, x01, x02, x03, x04], [x10, x11, x12, x13, x14], [x20, x21, x22, x23, x24], [x30, x31, x32, x33, x34], [x40, x41, x42, x43, x44]]] then (bif !eqC 1 3 [[x00, x01, x02, x03, x04], [x10, x11, x12, x13, x14], [x20, x21, x22, x23, x24], [x30, x31, x32, x33, x34], [x40, x41, x42, x43, x44]] then some (nilD2 4) else bif decide (9 < mxL ((mergeM [[x00, x01, x02, x03, x04], [x10, x11, x12, x13, x14], [x20, x21, x22, x23, x24], [x30, x31, x32, x33, x34], [x40, x41, x42, x43, x44]] 1 3).getD 1 [])) then some (nilD2 8) else some (.tup [matD (mergeM [[x00, x01, x02, x03, x04], [x10, x11, x12, x13, x14], [x20, x21, x22, x23, x24], [x30, x31, x32, x33, x34], [x40, x41, x42, x43, x44]] 1 3), iD 0])) else none := by kernel_rfl
theorem u45_513 (x00 x01 x02 x03 x04 x10 x11 x12 x13 x14 x20 x21 x22 x23 x24 x30 x31 x32 x33 x34 x40 x41 x42 x43 x44 : Int) : pureE aeC6 Ev.nil 30 45 Try.f45 [matD [[x00, x01, x02, x03, x04], [x10, x11, x12, x13, x14], [x20, x21, x22, x23, x24], [x30, x31, x32, x33, x34], [x40, x41, x42, x43, x44]], iD 1, iD 3] = chE 1 3 (some (bD false)) (some (bD true)) [[x00, x01, x02, x03, x04], [x10, x11, x12, x13, x14], [x20, x21, x22, x23, x24], [x30, x31, x32, x33, x34], [x40, x41, x42, x43, x44]] := by kernel_rfl
theorem u46_513 (x00 x01 x02 x03 x04 x10 x11 x12 x13 x14 x20 x21 x22 x23 x24 x30 x31 x32 x33 x34 x40 x41 x42 x43 x44 : Int) : pureE aeC6 Ev.nil 30 46 Try.f46 [matD [[x00, x01, x02, x03, x04], [x10, x11, x12, x13, x14], [x20, x21, x22, x23, x24], [x30, x31, x32, x33, x34], [x40, x41, x42, x43, x44]], iD 1, iD 3] = chN (some (.tup [z0, bD false])) (some (.tup [matD (mergeM [[x00, x01, x02, x03, x04], [x10, x11, x12, x13, x14], [x20, x21, x22, x23, x24], [x30, x31, x32, x33, x34], [x40, x41, x42, x43, x44]] 1 3), bD true])) (mergeM [[x00, x01, x02, x03, x04], [x10, x11, x12, x13, x14], [x20, x21, x22, x23, x24], [x30, x31, x32, x33, x34], [x40, x41, x42, x43, x44]] 1 3).flatten := by kernel_rfl
theorem u44_514 (ok : Nat → List DV → Bool) (x00 x01 x02 x03 x04 x10 x11 x12 x13 x14 x20 x21 x22 x23 x24 x30 x31 x32 x33 x34 x40 x41 x42 x43 x44 : Int) : pureE aeC6 (ev6 ok (fun _ _ => .tup [mtx [[x00, x01, x02, x03, x04], [x10, x11, x12, x13, x14], [x20, x21, x22, x23, x24], [x30, x31, x32, x33, x34], [x40, x41, x42, x43, x44]], iD 0])) 30 44 Try.f44 [matD [[x00, x01, x02, x03, x04], [x10, x11, x12, x13, x14], [x20, x21, x22, x23, x24], [x30, x31, x32, x33, x34], [x40, x41, x42, x43, x44]], iD 1, iD 4] = bif ok 61 [matD [[x00, x01, x02, x03, x04], [x10, x11, x12, x13, x14], [x20, x21, x22, x23, x24], [x30, x31, x32, x33, x34], [x40, x41, x42, x43, x44]]] then (bif !eqC 1 4 [[x00, x01, x02, x03, x04], [x10, x11, x12, x13, x14], [x20, x21, x22, x23, x24], [x30, x31, x32, x33, x34], [x40, x41, x42, x43, x44]] then some (nilD2 4) else bif decide (9 < mxL ((mergeM [[x00, x01, x02, x03, x04], [x10, x11, x12, x13, x14], [x20, x21, x22, x23, x24], [x30, x31, x32, x33, x34], [x40, x41, x42, x43, x44]] 1 4).getD 1 [])) then some (nilD2 8) else some (.tup [matD (mergeM [[x00, x01, x02, x03, x04], [x10, x11, x12, x13, x14], [x20, x21, x22, x23, x24], [x30, x31, x32, x33, x34], [x40, x41, x42, x43, x44]] 1 4), iD 0])) else none := by kernel_rfl
theorem u45_514 (x00 x01 x02 x03 x04 x10 x11 x12 x13 x14 x20 x21 x22 x23 x24 x30 x31 x32 x33 x34 x40 x41 x42 x43 x44 : Int) : pureE aeC6 Ev.nil 30 45 Try.f45 [matD [[x00, x01, x02, x03, x04], [x10, x11, x12, x13, x14], [x20, x21, x22, x23, x24], [x30, x31, x32, x33, x34], [x40, x41, x42, x43, x44]], iD 1, iD 4] = chE 1 4 (some (bD false)) (some (bD true)) [[x00, x01, x02, x03, x04], [x10, x11, x12, x13, x14], [x20, x21, x22, x23, x24], [x30, x31, x32, x33, x34], [x40, x41, x42, x43, x44]] := by kernel_rfl
theorem u46_514 (x00 x01 x02 x03 x04 x10 x11 x12 x13 x14 x20 x21 x22 x23 x24 x30 x31 x32 x33 x34 x40 x41 x42 x43 x44 : Int) : pureE aeC6 Ev.nil 30 46 Try.f46 [matD [[x00, x01, x02, x03, x04], [x10, x11, x12, x13, x14], [x20, x21, x22, x23, x24], [x30, x31, x32, x33, x34], [x40, x41, x42, x43, x44]], iD 1, iD 4] = chN (some (.tup [z0, bD false])) (some (.tup [matD (mergeM [[x00, x01, x02, x03, x04], [x10, x11, x12, x13, x14], [x20, x21, x22, x23, x24], [x30, x31, x32, x33, x34], [x40, x41, x42, x43, x44]] 1 4), bD true])) (mergeM [[x00, x01, x02, x03, x04], [x10, x11, x12, x13, x14], [x20, x21, x22, x23, x24], [x30, x31, x32, x33, x34], [x40, x41, x42, x43, x44]] 1 4).flatten := by kernel_rfl
theorem u44_523 (ok : Nat → List DV → Bool) (x00 x01 x02 x03 x04 x10 x11 x12 x13 x14 x20 x21 x22 x23 x24 x30 x31 x32 x33 x34 x40 x41 x42 x43 x44 : Int) : pureE aeC6 (ev6 ok (fun _ _ => .tup [mtx [[x00, x01, x02, x03, x04], [x10, x11, x12, x13, x14], [x20, x21, x22, x23, x24], [x30, x31, x32, x33, x34], [x40, x41, x42, x43, x44]], iD 0])) 30 44 Try.f44 [matD [[x00, x01, x02, x03, x04], [x10, x11, x12, x13, x14], [x20, x21, x22, x23, x24], [x30, x31, x32, x33, x34], [x40, x41, x42, x43, x44]], iD 2, iD 3] = bif ok 61 [matD [[x00, x01, x02, x03, x04], [x10, x11, x12, x13, x14], [x20, x21, x22, x23, x24], [x30, x31, x32, x33, x34], [x40, x41, x42, x43, x44]]] then (bif !eqC 2 3 [[x00, x01, x02, x03, x04], [x10, x11, x12, x13, x14], [x20, x21, x22, x23, x24], [x30, x31, x32, x33, x34], [x40, x41, x42, x43, x44]] then some (nilD2 4) else bif decide (9 < mxL ((mergeM [[x00, x01, x02, x03, x04], [x10, x11, x12, x13, x14], [x20, x21, x22, x23, x24], [x30, x31, x32, x33, x34], [x40, x41, x42, x43, x44]] 2 3).getD 2 [])) then some (nilD2 8) else some (.tup [matD (mergeM [[x00, x01, x02, x03, x04], [x10, x11, x12, x13, x14], [x20, x21, x22, x23, x24], [x30, x31, x32, x33, x34], [x40, x41, x42, x43, x44]] 2 3), iD 0])) else none := by kernel_rfl
theorem u45_523 (x00 x01 x02 x03 x04 x10 x11 x12 x13 x14 x20 x21 x22 x23 x24 x30 x31 x32 x33 x34 x40 x41 x42 x43 x44 : Int) : pureE aeC6 Ev.nil 30 45 Try.f45 [matD [[x00, x01, x02, x03, x04], [x10, x11, x12, x13, x14], [x20, x21, x22, x23, x24], [x30, x31, x32, x33, x34], [x40, x41, x42, x43, x44]], iD 2, iD 3] = chE 2 3 (some (bD false)) (some (bD true)) [[x00, x01, x02, x03, x04], [x10, x11, x12, x13, x14], [x20, x21, x22, x23, x24], [x30, x31, x32, x33, x34], [x40, x41, x42, x43, x44]] := by kernel_rfl
theorem u46_523 (x00 x01 x02 x03 x04 x10 x11 x12 x13 x14 x20 x21 x22 x23 x24 x30 x31 x32 x33 x34 x40 x41 x42 x43 x44 : Int) : pureE aeC6 Ev.nil 30 46 Try.f46 [matD [[x00, x01, x02, x03, x04], [x10, x11, x12, x13, x14], [x20, x21, x22, x23, x24], [x30, x31, x32, x33, x34], [x40, x41, x42, x43, x44]], iD 2, iD 3] = chN (some (.tup [z0, bD false])) (some (.tup [matD (mergeM [[x00, x01, x02, x03, x04], [x10, x11, x12, x13, x14], [x20, x21, x22, x23, x24], [x30, x31, x32, x33, x34], [x40, x41, x42, x43, x44]] 2 3), bD true])) (mergeM [[x00, x01, x02, x03, x04], [x10, x11, x12, x13, x14], [x20, x21, x22, x23, x24], [x30, x31, x32, x33, x34], [x40, x41, x42, x43, x44]] 2 3).flatten := by kernel_rfl
theorem u44_524 (ok : Nat → List DV → Bool) (x00 x01 x02 x03 x04 x10 x11 x12 x13 x14 x20 x21 x22 x23 x24 x30 x31 x32 x33 x34 x40 x41 x42 x43 x44 : Int) : pureE aeC6 (ev6 ok (fun _ _ => .tup [mtx [[x00, x01, x02, x03, x04], [x10, x11, x12, x13, x14], [x20, x21, x22, x23, x24], [x30, x31, x32, x33, x34], [x40, x41, x42, x43, x44]], iD 0])) 30 44 Try.f44 [matD [[x00, x01, x02, x03, x04], [x10, x11, x12, x13, x14], [x20, x21, x22, x23, x24], [x30, x31, x32, x33, x34], [x40, x41, x42, x43, x44]], iD 2, iD 4] = bif ok 61 [matD [[x00, x01, x02, x03, x04], [x10, x11, x12, x13, x14], [x20, x21, x22, x23, x24], [x30, x31, x32, x33, x34], [x40, x41, x42, x43, x44]]] then (bif !eqC 2 4 [[x00, x01, x02, x03, x04], [x10, x11, x12, x13, x14], [x20, x21, x22, x23, x24], [x30, x31, x32, x33, x34], [x40, x41, x42, x43, x44]] then some (nilD2 4) else bif decide (9 < mxL ((mergeM [[x00, x01, x02, x03, x04], [x10, x11, x12, x13, x14], [x20, x21, x22, x23, x24], [x30, x31, x32, x33, x34], [x40, x41, x42, x43, x44]] 2 4).getD 2 [])) then some (nilD2 8) else some (.tup [matD (mergeM [[x00, x01, x02, x03, x04], [x10, x11, x12, x13, x14], [x20, x21, x22, x23, x24], [x30, x31, x32, x33, x34], [x40, x41, x42, x43, x44]] 2 4), iD 0])) else none := by kernel_rfl
theorem u45_524 (x00 x01 x02 x03 x04 x10 x11 x12 x13 x14 x20 x21 x22 x23 x24 x30 x31 x32 x33 x34 x40 x41 x42 x43 x44 : Int) : pureE aeC6 Ev.nil 30 45 Try.f45 [matD [[x00, x01, x02, x03, x04], [x10, x11, x12, x13, x14], [x20, x21, x22, x23, x24], [x30, x31, x32, x33, x34], [x40, x41, x42, x43, x44]], iD 2, iD 4] = chE 2 4 (some (bD false)) (some (bD true)) [[x00, x01, x02, x03, x04], [x10, x11, x12, x13, x14], [x20, x21, x22, x23, x24], [x30, x31, x32, x33, x34], [x40, x41, x42, x43, x44]] := by kernel_rfl
theorem u46_524 (x00 x01 x02 x03 x04 x10 x11 x12 x13 x14 x20 x21 x22 x23 x24 x30 x31 x32 x33 x34 x40 x41 x42 x43 x44 : Int) : pureE aeC6 Ev.nil 30 46 Try.f46 [matD [[x00, x01, x02, x03, x04], [x10, x11, x12, x13, x14], [x20, x21, x22, x23, x24], [x30, x31, x32, x33, x34], [x40, x41, x42, x43, x44]], iD 2, iD 4] = chN (some (.tup [z0, bD false])) (some (.tup [matD (mergeM [[x00, x01, x02, x03, x04], [x10, x11, x12, x13, x14], [x20, x21, x22, x23, x24], [x30, x31, x32, x33, x34], [x40, x41, x42, x43, x44]] 2 4), bD true])) (mergeM [[x00, x01, x02, x03, x04], [x10, x11, x12, x13, x14], [x20, x21, x22, x23, x24], [x30, x31, x32, x33, x34], [x40, x41, x42, x43, x44]] 2 4).flatten := by kernel_rfl
theorem u44_534 (ok : Nat → List DV → Bool) (x00 x01 x02 x03 x04 x10 x11 x12 x13 x14 x20 x21 x22 x23 x24 x30 x31 x32 x33 x34 x40 x41 x42 x43 x44 : Int) : pureE aeC6 (ev6 ok (fun _ _ => .tup [mtx [[x00, x01, x02, x03, x04], [x10, x11, x12, x13, x14], [x20, x21, x22, x23, x24], [x30, x31, x32, x33, x34], [x40, x41, x42, x43, x44]], iD 0])) 30 44 Try.f44 [matD [[x00, x01, x02, x03, x04], [x10, x11, x12, x13, x14], [x20, x21, x22, x23, x24], [x30, x31, x32, x33, x34], [x40, x41, x42, x43, x44]], iD 3, iD 4] = bif ok 61 [matD [[x00, x01, x02, x03, x04], [x10, x11, x12, x13, x14], [x20, x21, x22, x23, x24], [x30, x31, x32, x33, x34], [x40, x41, x42, x43, x44]]] then (bif !eqC 3 4 [[x00, x01, x02, x03, x04], [x10, x11, x12, x13, x14], [x20, x21, x22, x23, x24], [x30, x31, x32, x33, x34], [x40, x41, x42, x43, x44]] then some (nilD2 4) else bif decide (9 < mxL ((mergeM [[x00, x01, x02, x03, x04], [x10, x11, x12, x13, x14], [x20, x21, x22, x23, x24], [x30, x31, x32, x33, x34], [x40, x41, x42, x43, x44]] 3 4).getD 3 [])) then some (nilD2 8) else some (.tup [matD (mergeM [[x00, x01, x02, x03, x04], [x10, x11, x12, x13, x14], [x20, x21, x22, x23, x24], [x30, x31, x32, x33, x34], [x40, x41, x42, x43, x44]] 3 4), iD 0])) else none := by kernel_rfl
theorem u45_534 (x00 x01 x02 x03 x04 x10 x11 x12 x13 x14 x20 x21 x22 x23 x24 x30 x31 x32 x33 x34 x40 x41 x42 x43 x44 : Int) : pureE aeC6 Ev.nil 30 45 Try.f45 [matD [[x00, x01, x02, x03, x04], [x10, x11, x12, x13, x14], [x20, x21, x22, x23, x24], [x30, x31, x32, x33, x34], [x40, x41, x42, x43, x44]], iD 3, iD 4] = chE 3 4 (some (bD false)) (some (bD true)) [[x00, x01, x02, x03, x04], [x10, x11, x12, x13, x14], [x20, x21, x22, x23, x24], [x30, x31, x32, x33, x34], [x40, x41, x42, x43, x44]] := by kernel_rfl
theorem u46_534 (x00 x01 x02 x03 x04 x10 x11 x12 x13 x14 x20 x21 x22 x23 x24 x30 x31 x32 x33 x34 x40 x41 x42 x43 x44 : Int) : pureE aeC6 Ev.nil 30 46 Try.f46 [matD [[x00, x01, x02, x03, x04], [x10, x11, x12, x13, x14], [x20, x21, x22, x23, x24], [x30, x31, x32, x33, x34], [x40, x41, x42, x43, x44]], iD 3, iD 4] = chN (some (.tup [z0, bD false])) (some (.tup [matD (mergeM [[x00, x01, x02, x03, x04], [x10, x11, x12, x13, x14], [x20, x21, x22, x23, x24], [x30, x31, x32, x33, x34], [x40, x41, x42, x43, x44]] 3 4), bD true])) (mergeM [[x00, x01, x02, x03, x04], [x10, x11, x12, x13, x14], [x20, x21, x22, x23, x24], [x30, x31, x32, x33, x34], [x40, x41, x42, x43, x44]] 3 4).flatten := by kernel_rfl
end Go.Proofs.Ytjfopbpkophoeaa

/- Chapter 06: what Merge (44), Columns (45), R.Merge (46) answer. Written by wip/tools/genE3.py. -/
namespace Go.Proofs.Ytjfopbpkophoeaa
open Go Go.AE
set_option maxRecDepth 100000
def rest44 (L : List DV) (s t : Int) : Option DV :=
  bif inRange s 5 then (getI (nth L (1 + Int.toNat s * 5)) fun x0 => getI (nth L (1 + Int.toNat s * 5 + 1)) fun x1 => getI (nth L (1 + Int.toNat s * 5 + 1 + 1)) fun x2 => getI (nth L (1 + Int.toNat s * 5 + 1 + 1 + 1)) fun x3 => getI (nth L (1 + Int.toNat s * 5 + 1 + 1 + 1 + 1)) fun x4 =>
   bif inRange t 5 then (getI (nth L (1 + Int.toNat t * 5)) fun x5 => getI (nth L (1 + Int.toNat t * 5 + 1)) fun x6 => getI (nth L (1 + Int.toNat t * 5 + 1 + 1)) fun x7 => getI (nth L (1 + Int.toNat t * 5 + 1 + 1 + 1)) fun x8 => getI (nth L (1 + Int.toNat t * 5 + 1 + 1 + 1 + 1)) fun x9 =>
     bif !(decide (x0 = x5) && (decide (x1 = x6) && (decide (x2 = x7) && (decide (x3 = x8) && (decide (x4 = x9) && true))))) then some (nilD2 4) else none) else none) else none
def W44 (ok : Nat → List DV → Bool) (A : DV) (k : Nat) (s t : Int) (rest : Option DV) : Option DV := bif ok 61 [A] then (bif decide (s < 0) then some (nilD2 1) else bif decide (t ≤ s) then some (nilD2 1) else bif decide ((k : Int) ≤ t) then some (nilD2 1) else rest) else none

theorem d44_1 (ok : Nat → List DV → Bool) (s t : Int) (x00 : Int) : startS aeC6 (ev6 ok (fun _ _ => .tup [mtx [[x00]], iD 0])) 44 0 Try.f44 none ⟨envOf 0 [.d (matD [[x00]]), .d (iD s), .d (iD t)], [], []⟩ (doneE aeC6 Try.f44 0 fun v h => freezeP 44 h v) = W44 ok (matD [[x00]]) 1 s t (rest44 [iD 1, iD x00, iD 0, iD 0, iD 0, iD 0, iD 0, iD 0, iD 0, iD 0, iD 0, iD 0, iD 0, iD 0, iD 0, iD 0, iD 0, iD 0, iD 0, iD 0, iD 0, iD 0, iD 0, iD 0, iD 0, iD 0] s t) := by kernel_rfl
theorem d44_2 (ok : Nat → List DV → Bool) (s t : Int) (x00 x01 x10 x11 : Int) : startS aeC6 (ev6 ok (fun _ _ => .tup [mtx [[x00, x01], [x10, x11]], iD 0])) 44 0 Try.f44 none ⟨envOf 0 [.d (matD [[x00, x01], [x10, x11]]), .d (iD s), .d (iD t)], [], []⟩ (doneE aeC6 Try.f44 0 fun v h => freezeP 44 h v) = W44 ok (matD [[x00, x01], [x10, x11]]) 2 s t (rest44 [iD 2, iD x00, iD x10, iD 0, iD 0, iD 0, iD x01, iD x11, iD 0, iD 0, iD 0, iD 0, iD 0, iD 0, iD 0, iD 0, iD 0, iD 0, iD 0, iD 0, iD 0, iD 0, iD 0, iD 0, iD 0, iD 0] s t) := by kernel_rfl
theorem d44_3 (ok : Nat → List DV → Bool) (s t : Int) (x00 x01 x02 x10 x11 x12 x20 x21 x22 : Int) : startS aeC6 (ev6 ok (fun _ _ => .tup [mtx [[x00, x01, x02], [x10, x11, x12], [x20, x21, x22]], iD 0])) 44 0 Try.f44 none ⟨envOf 0 [.d (matD [[x00, x01, x02], [x10, x11, x12], [x20, x21, x22]]), .d (iD s), .d (iD t)], [], []⟩ (doneE aeC6 Try.f44 0 fun v h => freezeP 44 h v) = W44 ok (matD [[x00, x01, x02], [x10, x11, x12], [x20, x21, x22]]) 3 s t (rest44 [iD 3, iD x00, iD x10, iD x20, iD 0, iD 0, iD x01, iD x11, iD x21, iD 0, iD 0, iD x02, iD x12, iD x22, iD 0, iD 0, iD 0, iD 0, iD 0, iD 0, iD 0, iD 0, iD 0, iD 0, iD 0, iD 0] s t) := by kernel_rfl
theorem d44_4 (ok : Nat → List DV → Bool) (s t : Int) (x00 x01 x02 x03 x10 x11 x12 x13 x20 x21 x22 x23 x30 x31 x32 x33 : Int) : startS aeC6 (ev6 ok (fun _ _ => .tup [mtx [[x00, x01, x02, x03], [x10, x11, x12, x13], [x20, x21, x22, x23], [x30, x31, x32, x33]], iD 0])) 44 0 Try.f44 none ⟨envOf 0 [.d (matD [[x00, x01, x02, x03], [x10, x11, x12, x13], [x20, x21, x22, x23], [x30, x31, x32, x33]]), .d (iD s), .d (iD t)], [], []⟩ (doneE aeC6 Try.f44 0 fun v h => freezeP 44 h v) = W44 ok (matD [[x00, x01, x02, x03], [x10, x11, x12, x13], [x20, x21, x22, x23], [x30, x31, x32, x33]]) 4 s t (rest44 [iD 4, iD x00, iD x10, iD x20, iD x30, iD 0, iD x01, iD x11, iD x21, iD x31, iD 0, iD x02, iD x12, iD x22, iD x32, iD 0, iD x03, iD x13, iD x23, iD x33, iD 0, iD 0, iD 0, iD 0, iD 0, iD 0] s t) := by kernel_rfl
theorem d44_5 (ok : Nat → List DV → Bool) (s t : Int) (x00 x01 x02 x03 x04 x10 x11 x12 x13 x14 x20 x21 x22 x23 x24 x30 x31 x32 x33 x34 x40 x41 x42 x43 x44 : Int) : startS aeC6 (ev6 ok (fun _ _ => .tup [mtx [[x00, x01, x02, x03, x04], [x10, x11, x12, x13, x14], [x20, x21, x22, x23, x24], [x30, x31, x32, x33, x34], [x40, x41, x42, x43, x44]], iD 0])) 44 0 Try.f44 none ⟨envOf 0 [.d (matD [[x00, x01, x02, x03, x04], [x10, x11, x12, x13, x14], [x20, x21, x22, x23, x24], [x30, x31, x32, x33, x34], [x40, x41, x42, x43, x44]]), .d (iD s), .d (iD t)], [], []⟩ (doneE aeC6 Try.f44 0 fun v h => freezeP 44 h v) = W44 ok (matD [[x00, x01, x02, x03, x04], [x10, x11, x12, x13, x14], [x20, x21, x22, x23, x24], [x30, x31, x32, x33, x34], [x40, x41, x42, x43, x44]]) 5 s t (rest44 [iD 5, iD x00, iD x10, iD x20, iD x30, iD x40, iD x01, iD x11, iD x21, iD x31, iD x41, iD x02, iD x12, iD x22, iD x32, iD x42, iD x03, iD x13, iD x23, iD x33, iD x43, iD x04, iD x14, iD x24, iD x34, iD x44] s t) := by kernel_rfl

theorem pureP6 {E : Ev} (hE : EvOK Try.prog E) {f : FuncId} {fn : Func} {ids : List Nat} {ds : List DV} {d : DV} (ok : OkSeg fn none ids) (h : tget aeF f = some fn) (hb : (fn.body.isSome && Nat.ble ds.length fn.ntmps) = true)
    (e : startF aeC6 E f 0 fn none ⟨envOf 0 (ds.map .d), [], []⟩ (doneE aeC6 fn 0 fun v h => freezeP f h v) = some d) : PureOK Try.prog f ds d := by
  have hb' := Bool.and_eq_true_iff.1 hb
  obtain ⟨c, hc⟩ := Option.isSome_iff_exists.1 hb'.1
  have hbo : bodyOf fn = c := by unfold bodyOf; rw [hc]; rfl
  have hl : LoopsOK aeC6 E (loF aeC6 E f 0 fn) f 0 (resTmps fn.results.toList) (some fn.ntmps) 0 (bodyOf fn) := ok.loopsOK
  unfold startF at e
  have ea : atL fn none = (0, bodyOf fn) := rfl
  rw [ea] at e
  dsimp only at e
  rw [hbo] at hl e
  obtain ⟨ex, s', h1, h2⟩ := (fac_codeL (C := aeC6) (E := E) (Lo := loF aeC6 E f 0 fn) (fid := f) (base := 0) (res := resTmps fn.results.toList) (out := some fn.ntmps) c 0 ⟨envOf 0 (ds.map .d), [], []⟩).keep e
  obtain ⟨k0, hr⟩ := codeL_runs c 0 _ ex s' hl h2
  refine pureE_ok (C := aeC6) ae_T ae_Q ae_mixed hE (k := k0) (ae_fn6 h) ?_
  unfold pureE bodyE
  rw [hc]
  simp only [List.length_map, List.length_nil, hb'.2, cond_true]
  rw [hr k0 (Nat.le_refl _)]
  exact h1
theorem k44 : OkSeg Try.f44 none [0, 2] := ⟨by kernel_rfl, by kernel_rfl, by decide⟩
def badST (k : Nat) (s t : Int) : Bool := decide (s < 0) || (decide (t ≤ s) || decide ((k : Int) ≤ t))
def code10 (M : List (List Int)) (s t : Int) : Int := bif badST M.length s t then 1 else bif !eqC s.toNat t.toNat M then 4 else bif decide (9 < mxL ((mergeM M s.toNat t.toNat).getD s.toNat [])) then 8 else 0
def mD (G : DV) (c : Int) : DV := bif decide (c = 0) then G else nilD2 c
theorem mD_two (G : DV) (e m : Bool) : (bif !e then some (nilD2 4) else bif m then some (nilD2 8) else some G) = some (mD G (bif !e then 4 else bif m then 8 else 0)) := by cases e <;> cases m <;> rfl
def mergeD (M : List (List Int)) (s t : Int) : DV := mD (.tup [matD (mergeM M s.toNat t.toNat), iD 0]) (code10 M s t)
def fitB (M : List (List Int)) (s t : Nat) : Bool := !decide (9 < mxL ((mergeM M s t).getD s []))
theorem W44_bad {ok : Nat → List DV → Bool} {A : DV} {k : Nat} {s t : Int} {r : Option DV} (h : ok 61 [A] = true) (hb : badST k s t = true) : W44 ok A k s t r = some (nilD2 1) := by
  unfold W44
  rw [h]
  unfold badST at hb
  simp only [cond_true]
  cases h1 : decide (s < 0)
  · cases h2 : decide (t ≤ s)
    · rw [h1, h2, Bool.false_or, Bool.false_or] at hb
      rw [hb]; rfl
    · rfl
  · rfl
theorem merge_bad {M : List (List Int)} {s t : Int} (hb : badST M.length s t = true) : mergeD M s t = nilD2 1 := by
  unfold mergeD code10; rw [hb]; rfl
theorem R44 {ok : Nat → List DV → Bool} {A : DV} {M : List (List Int)} {s t : Nat} (h : ok 61 [A] = true) (hb : badST M.length s t = false) :
    (bif ok 61 [A] then (bif !eqC s t M then some (nilD2 4) else bif decide (9 < mxL ((mergeM M s t).getD s [])) then some (nilD2 8) else some (.tup [matD (mergeM M s t), iD 0])) else none) = some (mergeD M s t) := by
  unfold mergeD code10
  rw [h, hb]
  simp only [cond_true, cond_false, Int.toNat_natCast]
  exact mD_two _ _ _
theorem h61m {k : Nat} {M : List (List Int)} (h : matB k M) (h1 : 1 ≤ k) (h5 : k ≤ 5) : okS (fun _ _ => .tup [mtx M, iD 0]) 61 [matD M] = true := okS_is (c61 h h1 h5)
theorem badST_no {k : Nat} {s t : Int} (h : badST k s t = false) : ∃ i j : Nat, s = i ∧ t = j ∧ i < j ∧ j < k := by
  simp only [badST, Bool.or_eq_false_iff, decide_eq_false_iff_not] at h
  exact ⟨s.toNat, t.toNat, by omega, by omega, by omega, by omega⟩
theorem badST_in {k i j : Nat} (h1 : i < j) (h2 : j < k) : badST k i j = false := by
  simp only [badST, Bool.or_eq_false_iff, decide_eq_false_iff_not]
  omega
theorem chE_eq (s t : Nat) : ∀ M : List (List Int), chE s t (some (bD false)) (some (bD true)) M = some (bD (eqC s t M))
  | [] => rfl
  | r :: R => by
    unfold chE eqC
    rw [chE_eq s t R]
    cases decide (r.getD s 0 = r.getD t 0) <;> rfl
theorem chN_eq {X : Type} (a b : X) : ∀ l : List Int, chN a b l = bif l.any (fun x => decide (9 < x)) then a else b
  | [] => rfl
  | x :: l => by
    unfold chN
    rw [chN_eq a b l, List.any_cons]
    cases decide (9 < x) <;> rfl
theorem mxF_gt : ∀ (l : List Int) (m : Int), 9 < mxF m l ↔ 9 < m ∨ ∃ x ∈ l, 9 < x
  | [], m => by simp [mxF]
  | x :: l, m => by
    unfold mxF
    rw [mxF_gt l]
    simp only [List.mem_cons, exists_eq_or_imp]
    by_cases h : x > m
    · rw [if_pos h]; constructor
      · rintro (h1 | h1)
        · exact .inr (.inl h1)
        · exact .inr (.inr h1)
      · rintro (h1 | h1 | h1)
        · exact .inl (by omega)
        · exact .inl h1
        · exact .inr h1
    · rw [if_neg h]; constructor
      · rintro (h1 | h1)
        · exact .inl h1
        · exact .inr (.inr h1)
      · rintro (h1 | h1 | h1)
        · exact .inl h1
        · exact .inl (by omega)
        · exact .inr h1
theorem mxL_gt (l : List Int) : 9 < mxL l ↔ ∃ x ∈ l, 9 < x := by
  cases l with
  | nil => simp [mxL]
  | cons x l => unfold mxL; rw [mxF_gt]; simp
theorem dropAt_mem {α : Type} : ∀ {l : List α} {n : Nat} {x : α}, x ∈ dropAt n l → x ∈ l
  | [], n, x, h => by cases n <;> exact h
  | y :: l, 0, x, h => List.mem_cons_of_mem _ h
  | y :: l, n + 1, x, h => by
    simp only [dropAt, List.mem_cons] at h
    rcases h with h | h
    · exact List.mem_cons.2 (.inl h)
    · exact List.mem_cons_of_mem _ (dropAt_mem h)
theorem dropAt_lt {α : Type} : ∀ {l : List α} {n i : Nat} {d : α}, i < n → (dropAt n l).getD i d = l.getD i d
  | [], n, i, d, h => by cases n <;> rfl
  | y :: l, 0, i, d, h => absurd h (by omega)
  | y :: l, n + 1, 0, d, h => rfl
  | y :: l, n + 1, i + 1, d, h => by
    show (dropAt n l).getD i d = l.getD i d
    exact dropAt_lt (by omega)
theorem dropAt_len {α : Type} : ∀ (l : List α) (n : Nat), (dropAt n l).length ≤ l.length
  | [], n => by cases n <;> exact Nat.le_refl _
  | y :: l, 0 => Nat.le_succ _
  | y :: l, n + 1 => by simp only [dropAt, List.length_cons]; have := dropAt_len l n; omega
theorem addR_len : ∀ a b : List Int, (addR a b).length ≤ a.length
  | [], b => by cases b <;> exact Nat.le_refl _
  | x :: a, [] => Nat.zero_le _
  | x :: a, y :: b => by simp only [addR, List.length_cons]; have := addR_len a b; omega
theorem merge_row {M : List (List Int)} {s t : Nat} (h : s < t) (hs : s < M.length) : (mergeM M s t).getD s [] = dropAt t (addR (M.getD s []) (M.getD t [])) := by
  unfold mergeM
  rw [dropAt_lt h]
  simp [List.getD_eq_getElem?_getD, hs]
theorem merge_any {k : Nat} {M : List (List Int)} (hM : matB k M) {s t : Nat} (h : s < t) (ht : t < k) : (mergeM M s t).flatten.any (fun x => decide (9 < x)) = !fitB M s t := by
  have hs : s < M.length := by rw [hM.1]; omega
  unfold fitB
  rw [Bool.not_not, Bool.eq_iff_iff]
  simp only [decide_eq_true_eq, List.any_eq_true, mxL_gt, List.mem_flatten]
  constructor
  · rintro ⟨x, ⟨r, hr, hx⟩, h9⟩
    have h1 := dropAt_mem hr
    rw [List.mem_map] at h1
    obtain ⟨r', h2, rfl⟩ := h1
    rcases List.mem_or_eq_of_mem_set h2 with h3 | rfl
    · have := smallB_at (hM.2 r' h3).2 x (dropAt_mem hx)
      omega
    · exact ⟨x, by rw [merge_row h hs]; exact hx, h9⟩
  · rintro ⟨x, hx, h9⟩
    refine ⟨x, ⟨_, ?_, hx⟩, h9⟩
    have hlt : s < (mergeM M s t).length := by
      rcases Nat.lt_or_ge s (mergeM M s t).length with q | q
      · exact q
      · rw [List.getD_eq_getElem?_getD, List.getElem?_eq_none q] at hx; simp at hx
    rw [List.getD_eq_getElem?_getD, List.getElem?_eq_getElem hlt]
    exact List.getElem_mem hlt
theorem merge_size {k : Nat} {M : List (List Int)} (hM : matB k M) (h5 : k ≤ 5) (s t : Nat) : (mergeM M s t).length ≤ 100 ∧ ∀ r ∈ mergeM M s t, r.length ≤ 100 := by
  constructor
  · have := dropAt_len ((M.set s (addR (M.getD s []) (M.getD t []))).map (dropAt t)) t
    simp only [List.length_map, List.length_set, hM.1] at this
    unfold mergeM; omega
  · intro r hr
    have h1 := dropAt_mem hr
    rw [List.mem_map] at h1
    obtain ⟨r', h2, rfl⟩ := h1
    have h4 := dropAt_len r' t
    rcases List.mem_or_eq_of_mem_set h2 with h3 | rfl
    · have := (hM.2 r' h3).1; omega
    · have h6 := addR_len (M.getD s []) (M.getD t [])
      have h7 : (M.getD s []).length ≤ 5 := by
        rw [List.getD_eq_getElem?_getD]
        rcases Nat.lt_or_ge s M.length with q | q
        · rw [List.getElem?_eq_getElem q]
          have := (hM.2 _ (List.getElem_mem q)).1
          simp only [Option.getD_some]; omega
        · rw [List.getElem?_eq_none q]; simp
      omega

theorem c44_bad {k : Nat} {M : List (List Int)} (hM : matB k M) (h1 : 1 ≤ k) (h5 : k ≤ 5) {s t : Int} (hb : badST M.length s t = true) : PureOK Try.prog 44 [matD M, iD s, iD t] (mergeD M s t) := by
  rw [merge_bad hb]
  have h6 := h61m hM h1 h5
  rcases mat_forms hM h1 h5 with ⟨rfl, x00, rfl⟩ | ⟨rfl, x00, x01, x10, x11, rfl⟩ | ⟨rfl, x00, x01, x02, x10, x11, x12, x20, x21, x22, rfl⟩ | ⟨rfl, x00, x01, x02, x03, x10, x11, x12, x13, x20, x21, x22, x23, x30, x31, x32, x33, rfl⟩ | ⟨rfl, x00, x01, x02, x03, x04, x10, x11, x12, x13, x14, x20, x21, x22, x23, x24, x30, x31, x32, x33, x34, x40, x41, x42, x43, x44, rfl⟩
  · exact pureP6 (ev6_ok _) (fn := Try.f44) k44 (by kernel_rfl) (by kernel_rfl) (startF_done k44 done_plain ((d44_1 ..).trans (W44_bad h6 hb)))
  · exact pureP6 (ev6_ok _) (fn := Try.f44) k44 (by kernel_rfl) (by kernel_rfl) (startF_done k44 done_plain ((d44_2 ..).trans (W44_bad h6 hb)))
  · exact pureP6 (ev6_ok _) (fn := Try.f44) k44 (by kernel_rfl) (by kernel_rfl) (startF_done k44 done_plain ((d44_3 ..).trans (W44_bad h6 hb)))
  · exact pureP6 (ev6_ok _) (fn := Try.f44) k44 (by kernel_rfl) (by kernel_rfl) (startF_done k44 done_plain ((d44_4 ..).trans (W44_bad h6 hb)))
  · exact pureP6 (ev6_ok _) (fn := Try.f44) k44 (by kernel_rfl) (by kernel_rfl) (startF_done k44 done_plain ((d44_5 ..).trans (W44_bad h6 hb)))
theorem c44_in {k : Nat} {M : List (List Int)} (hM : matB k M) (h1 : 1 ≤ k) (h5 : k ≤ 5) {i j : Nat} (hi : i < j) (hj : j < k) : PureOK Try.prog 44 [matD M, iD (i : Int), iD (j : Int)] (mergeD M i j) := by
  have h6 := h61m hM h1 h5
  have hb : badST M.length i j = false := by rw [hM.1]; exact badST_in hi hj
  rcases mat_forms hM h1 h5 with ⟨rfl, x00, rfl⟩ | ⟨rfl, x00, x01, x10, x11, rfl⟩ | ⟨rfl, x00, x01, x02, x10, x11, x12, x20, x21, x22, rfl⟩ | ⟨rfl, x00, x01, x02, x03, x10, x11, x12, x13, x20, x21, x22, x23, x30, x31, x32, x33, rfl⟩ | ⟨rfl, x00, x01, x02, x03, x04, x10, x11, x12, x13, x14, x20, x21, x22, x23, x24, x30, x31, x32, x33, x34, x40, x41, x42, x43, x44, rfl⟩
  · skip
    omega
  · skip
    have hc : (i = 0 ∧ j = 1) := by omega
    rcases hc with ⟨rfl, rfl⟩
    · exact ae_direct6 (ev6_ok _) 30 (by kernel_rfl : tget aeF 44 = some Try.f44) ((u44_201 ..).trans (R44 (s := 0) (t := 1) h6 hb))
  · skip
    have hc : (i = 0 ∧ j = 1) ∨ (i = 0 ∧ j = 2) ∨ (i = 1 ∧ j = 2) := by omega
    rcases hc with ⟨rfl, rfl⟩ | ⟨rfl, rfl⟩ | ⟨rfl, rfl⟩
    · exact ae_direct6 (ev6_ok _) 30 (by kernel_rfl : tget aeF 44 = some Try.f44) ((u44_301 ..).trans (R44 (s := 0) (t := 1) h6 hb))
    · exact ae_direct6 (ev6_ok _) 30 (by kernel_rfl : tget aeF 44 = some Try.f44) ((u44_302 ..).trans (R44 (s := 0) (t := 2) h6 hb))
    · exact ae_direct6 (ev6_ok _) 30 (by kernel_rfl : tget aeF 44 = some Try.f44) ((u44_312 ..).trans (R44 (s := 1) (t := 2) h6 hb))
  · skip
    have hc : (i = 0 ∧ j = 1) ∨ (i = 0 ∧ j = 2) ∨ (i = 0 ∧ j = 3) ∨ (i = 1 ∧ j = 2) ∨ (i = 1 ∧ j = 3) ∨ (i = 2 ∧ j = 3) := by omega
    rcases hc with ⟨rfl, rfl⟩ | ⟨rfl, rfl⟩ | ⟨rfl, rfl⟩ | ⟨rfl, rfl⟩ | ⟨rfl, rfl⟩ | ⟨rfl, rfl⟩
    · exact ae_direct6 (ev6_ok _) 30 (by kernel_rfl : tget aeF 44 = some Try.f44) ((u44_401 ..).trans (R44 (s := 0) (t := 1) h6 hb))
    · exact ae_direct6 (ev6_ok _) 30 (by kernel_rfl : tget aeF 44 = some Try.f44) ((u44_402 ..).trans (R44 (s := 0) (t := 2) h6 hb))
    · exact ae_direct6 (ev6_ok _) 30 (by kernel_rfl : tget aeF 44 = some Try.f44) ((u44_403 ..).trans (R44 (s := 0) (t := 3) h6 hb))
    · exact ae_direct6 (ev6_ok _) 30 (by kernel_rfl : tget aeF 44 = some Try.f44) ((u44_412 ..).trans (R44 (s := 1) (t := 2) h6 hb))
    · exact ae_direct6 (ev6_ok _) 30 (by kernel_rfl : tget aeF 44 = some Try.f44) ((u44_413 ..).trans (R44 (s := 1) (t := 3) h6 hb))
    · exact ae_direct6 (ev6_ok _) 30 (by kernel_rfl : tget aeF 44 = some Try.f44) ((u44_423 ..).trans (R44 (s := 2) (t := 3) h6 hb))
  · skip
    have hc : (i = 0 ∧ j = 1) ∨ (i = 0 ∧ j = 2) ∨ (i = 0 ∧ j = 3) ∨ (i = 0 ∧ j = 4) ∨ (i = 1 ∧ j = 2) ∨ (i = 1 ∧ j = 3) ∨ (i = 1 ∧ j = 4) ∨ (i = 2 ∧ j = 3) ∨ (i = 2 ∧ j = 4) ∨ (i = 3 ∧ j = 4) := by omega
    rcases hc with ⟨rfl, rfl⟩ | ⟨rfl, rfl⟩ | ⟨rfl, rfl⟩ | ⟨rfl, rfl⟩ | ⟨rfl, rfl⟩ | ⟨rfl, rfl⟩ | ⟨rfl, rfl⟩ | ⟨rfl, rfl⟩ | ⟨rfl, rfl⟩ | ⟨rfl, rfl⟩
    · exact ae_direct6 (ev6_ok _) 30 (by kernel_rfl : tget aeF 44 = some Try.f44) ((u44_501 ..).trans (R44 (s := 0) (t := 1) h6 hb))
    · exact ae_direct6 (ev6_ok _) 30 (by kernel_rfl : tget aeF 44 = some Try.f44) ((u44_502 ..).trans (R44 (s := 0) (t := 2) h6 hb))
    · exact ae_direct6 (ev6_ok _) 30 (by kernel_rfl : tget aeF 44 = some Try.f44) ((u44_503 ..).trans (R44 (s := 0) (t := 3) h6 hb))
    · exact ae_direct6 (ev6_ok _) 30 (by kernel_rfl : tget aeF 44 = some Try.f44) ((u44_504 ..).trans (R44 (s := 0) (t := 4) h6 hb))
    · exact ae_direct6 (ev6_ok _) 30 (by kernel_rfl : tget aeF 44 = some Try.f44) ((u44_512 ..).trans (R44 (s := 1) (t := 2) h6 hb))
    · exact ae_direct6 (ev6_ok _) 30 (by kernel_rfl : tget aeF 44 = some Try.f44) ((u44_513 ..).trans (R44 (s := 1) (t := 3) h6 hb))
    · exact ae_direct6 (ev6_ok _) 30 (by kernel_rfl : tget aeF 44 = some Try.f44) ((u44_514 ..).trans (R44 (s := 1) (t := 4) h6 hb))
    · exact ae_direct6 (ev6_ok _) 30 (by kernel_rfl : tget aeF 44 = some Try.f44) ((u44_523 ..).trans (R44 (s := 2) (t := 3) h6 hb))
    · exact ae_direct6 (ev6_ok _) 30 (by kernel_rfl : tget aeF 44 = some Try.f44) ((u44_524 ..).trans (R44 (s := 2) (t := 4) h6 hb))
    · exact ae_direct6 (ev6_ok _) 30 (by kernel_rfl : tget aeF 44 = some Try.f44) ((u44_534 ..).trans (R44 (s := 3) (t := 4) h6 hb))
theorem c45 {k : Nat} {M : List (List Int)} (hM : matB k M) (h1 : 1 ≤ k) (h5 : k ≤ 5) {i j : Nat} (hi : i < j) (hj : j < k) : PureOK Try.prog 45 [matD M, iD (i : Int), iD (j : Int)] (bD (eqC i j M)) := by
  rcases mat_forms hM h1 h5 with ⟨rfl, x00, rfl⟩ | ⟨rfl, x00, x01, x10, x11, rfl⟩ | ⟨rfl, x00, x01, x02, x10, x11, x12, x20, x21, x22, rfl⟩ | ⟨rfl, x00, x01, x02, x03, x10, x11, x12, x13, x20, x21, x22, x23, x30, x31, x32, x33, rfl⟩ | ⟨rfl, x00, x01, x02, x03, x04, x10, x11, x12, x13, x14, x20, x21, x22, x23, x24, x30, x31, x32, x33, x34, x40, x41, x42, x43, x44, rfl⟩
  · skip
    omega
  · skip
    have hc : (i = 0 ∧ j = 1) := by omega
    rcases hc with ⟨rfl, rfl⟩
    · exact ae_direct6 EvOK.nil 30 (by kernel_rfl : tget aeF 45 = some Try.f45) ((u45_201 ..).trans (chE_eq 0 1 _))
  · skip
    have hc : (i = 0 ∧ j = 1) ∨ (i = 0 ∧ j = 2) ∨ (i = 1 ∧ j = 2) := by omega
    rcases hc with ⟨rfl, rfl⟩ | ⟨rfl, rfl⟩ | ⟨rfl, rfl⟩
    · exact ae_direct6 EvOK.nil 30 (by kernel_rfl : tget aeF 45 = some Try.f45) ((u45_301 ..).trans (chE_eq 0 1 _))
    · exact ae_direct6 EvOK.nil 30 (by kernel_rfl : tget aeF 45 = some Try.f45) ((u45_302 ..).trans (chE_eq 0 2 _))
    · exact ae_direct6 EvOK.nil 30 (by kernel_rfl : tget aeF 45 = some Try.f45) ((u45_312 ..).trans (chE_eq 1 2 _))
  · skip
    have hc : (i = 0 ∧ j = 1) ∨ (i = 0 ∧ j = 2) ∨ (i = 0 ∧ j = 3) ∨ (i = 1 ∧ j = 2) ∨ (i = 1 ∧ j = 3) ∨ (i = 2 ∧ j = 3) := by omega
    rcases hc with ⟨rfl, rfl⟩ | ⟨rfl, rfl⟩ | ⟨rfl, rfl⟩ | ⟨rfl, rfl⟩ | ⟨rfl, rfl⟩ | ⟨rfl, rfl⟩
    · exact ae_direct6 EvOK.nil 30 (by kernel_rfl : tget aeF 45 = some Try.f45) ((u45_401 ..).trans (chE_eq 0 1 _))
    · exact ae_direct6 EvOK.nil 30 (by kernel_rfl : tget aeF 45 = some Try.f45) ((u45_402 ..).trans (chE_eq 0 2 _))
    · exact ae_direct6 EvOK.nil 30 (by kernel_rfl : tget aeF 45 = some Try.f45) ((u45_403 ..).trans (chE_eq 0 3 _))
    · exact ae_direct6 EvOK.nil 30 (by kernel_rfl : tget aeF 45 = some Try.f45) ((u45_412 ..).trans (chE_eq 1 2 _))
    · exact ae_direct6 EvOK.nil 30 (by kernel_rfl : tget aeF 45 = some Try.f45) ((u45_413 ..).trans (chE_eq 1 3 _))
    · exact ae_direct6 EvOK.nil 30 (by kernel_rfl : tget aeF 45 = some Try.f45) ((u45_423 ..).trans (chE_eq 2 3 _))
  · skip
    have hc : (i = 0 ∧ j = 1) ∨ (i = 0 ∧ j = 2) ∨ (i = 0 ∧ j = 3) ∨ (i = 0 ∧ j = 4) ∨ (i = 1 ∧ j = 2) ∨ (i = 1 ∧ j = 3) ∨ (i = 1 ∧ j = 4) ∨ (i = 2 ∧ j = 3) ∨ (i = 2 ∧ j = 4) ∨ (i = 3 ∧ j = 4) := by omega
    rcases hc with ⟨rfl, rfl⟩ | ⟨rfl, rfl⟩ | ⟨rfl, rfl⟩ | ⟨rfl, rfl⟩ | ⟨rfl, rfl⟩ | ⟨rfl, rfl⟩ | ⟨rfl, rfl⟩ | ⟨rfl, rfl⟩ | ⟨rfl, rfl⟩ | ⟨rfl, rfl⟩
    · exact ae_direct6 EvOK.nil 30 (by kernel_rfl : tget aeF 45 = some Try.f45) ((u45_501 ..).trans (chE_eq 0 1 _))
    · exact ae_direct6 EvOK.nil 30 (by kernel_rfl : tget aeF 45 = some Try.f45) ((u45_502 ..).trans (chE_eq 0 2 _))
    · exact ae_direct6 EvOK.nil 30 (by kernel_rfl : tget aeF 45 = some Try.f45) ((u45_503 ..).trans (chE_eq 0 3 _))
    · exact ae_direct6 EvOK.nil 30 (by kernel_rfl : tget aeF 45 = some Try.f45) ((u45_504 ..).trans (chE_eq 0 4 _))
    · exact ae_direct6 EvOK.nil 30 (by kernel_rfl : tget aeF 45 = some Try.f45) ((u45_512 ..).trans (chE_eq 1 2 _))
    · exact ae_direct6 EvOK.nil 30 (by kernel_rfl : tget aeF 45 = some Try.f45) ((u45_513 ..).trans (chE_eq 1 3 _))
    · exact ae_direct6 EvOK.nil 30 (by kernel_rfl : tget aeF 45 = some Try.f45) ((u45_514 ..).trans (chE_eq 1 4 _))
    · exact ae_direct6 EvOK.nil 30 (by kernel_rfl : tget aeF 45 = some Try.f45) ((u45_523 ..).trans (chE_eq 2 3 _))
    · exact ae_direct6 EvOK.nil 30 (by kernel_rfl : tget aeF 45 = some Try.f45) ((u45_524 ..).trans (chE_eq 2 4 _))
    · exact ae_direct6 EvOK.nil 30 (by kernel_rfl : tget aeF 45 = some Try.f45) ((u45_534 ..).trans (chE_eq 3 4 _))
theorem c46 {k : Nat} {M : List (List Int)} (hM : matB k M) (h1 : 1 ≤ k) (h5 : k ≤ 5) {i j : Nat} (hi : i < j) (hj : j < k) : PureOK Try.prog 46 [matD M, iD (i : Int), iD (j : Int)] (.tup [bif fitB M i j then matD (mergeM M i j) else z0, bD (fitB M i j)]) := by
  have ha := merge_any hM hi hj
  have hq : (bif (mergeM M i j).flatten.any (fun x => decide (9 < x)) then some (DV.tup [z0, bD false]) else some (.tup [matD (mergeM M i j), bD true])) = some (.tup [bif fitB M i j then matD (mergeM M i j) else z0, bD (fitB M i j)]) := by rw [ha]; cases fitB M i j <;> rfl
  rcases mat_forms hM h1 h5 with ⟨rfl, x00, rfl⟩ | ⟨rfl, x00, x01, x10, x11, rfl⟩ | ⟨rfl, x00, x01, x02, x10, x11, x12, x20, x21, x22, rfl⟩ | ⟨rfl, x00, x01, x02, x03, x10, x11, x12, x13, x20, x21, x22, x23, x30, x31, x32, x33, rfl⟩ | ⟨rfl, x00, x01, x02, x03, x04, x10, x11, x12, x13, x14, x20, x21, x22, x23, x24, x30, x31, x32, x33, x34, x40, x41, x42, x43, x44, rfl⟩
  · skip
    omega
  · skip
    have hc : (i = 0 ∧ j = 1) := by omega
    rcases hc with ⟨rfl, rfl⟩
    · exact ae_direct6 EvOK.nil 30 (by kernel_rfl : tget aeF 46 = some Try.f46) ((u46_201 ..).trans ((chN_eq ..).trans hq))
  · skip
    have hc : (i = 0 ∧ j = 1) ∨ (i = 0 ∧ j = 2) ∨ (i = 1 ∧ j = 2) := by omega
    rcases hc with ⟨rfl, rfl⟩ | ⟨rfl, rfl⟩ | ⟨rfl, rfl⟩
    · exact ae_direct6 EvOK.nil 30 (by kernel_rfl : tget aeF 46 = some Try.f46) ((u46_301 ..).trans ((chN_eq ..).trans hq))
    · exact ae_direct6 EvOK.nil 30 (by kernel_rfl : tget aeF 46 = some Try.f46) ((u46_302 ..).trans ((chN_eq ..).trans hq))
    · exact ae_direct6 EvOK.nil 30 (by kernel_rfl : tget aeF 46 = some Try.f46) ((u46_312 ..).trans ((chN_eq ..).trans hq))
  · skip
    have hc : (i = 0 ∧ j = 1) ∨ (i = 0 ∧ j = 2) ∨ (i = 0 ∧ j = 3) ∨ (i = 1 ∧ j = 2) ∨ (i = 1 ∧ j = 3) ∨ (i = 2 ∧ j = 3) := by omega
    rcases hc with ⟨rfl, rfl⟩ | ⟨rfl, rfl⟩ | ⟨rfl, rfl⟩ | ⟨rfl, rfl⟩ | ⟨rfl, rfl⟩ | ⟨rfl, rfl⟩
    · exact ae_direct6 EvOK.nil 30 (by kernel_rfl : tget aeF 46 = some Try.f46) ((u46_401 ..).trans ((chN_eq ..).trans hq))
    · exact ae_direct6 EvOK.nil 30 (by kernel_rfl : tget aeF 46 = some Try.f46) ((u46_402 ..).trans ((chN_eq ..).trans hq))
    · exact ae_direct6 EvOK.nil 30 (by kernel_rfl : tget aeF 46 = some Try.f46) ((u46_403 ..).trans ((chN_eq ..).trans hq))
    · exact ae_direct6 EvOK.nil 30 (by kernel_rfl : tget aeF 46 = some Try.f46) ((u46_412 ..).trans ((chN_eq ..).trans hq))
    · exact ae_direct6 EvOK.nil 30 (by kernel_rfl : tget aeF 46 = some Try.f46) ((u46_413 ..).trans ((chN_eq ..).trans hq))
    · exact ae_direct6 EvOK.nil 30 (by kernel_rfl : tget aeF 46 = some Try.f46) ((u46_423 ..).trans ((chN_eq ..).trans hq))
  · skip
    have hc : (i = 0 ∧ j = 1) ∨ (i = 0 ∧ j = 2) ∨ (i = 0 ∧ j = 3) ∨ (i = 0 ∧ j = 4) ∨ (i = 1 ∧ j = 2) ∨ (i = 1 ∧ j = 3) ∨ (i = 1 ∧ j = 4) ∨ (i = 2 ∧ j = 3) ∨ (i = 2 ∧ j = 4) ∨ (i = 3 ∧ j = 4) := by omega
    rcases hc with ⟨rfl, rfl⟩ | ⟨rfl, rfl⟩ | ⟨rfl, rfl⟩ | ⟨rfl, rfl⟩ | ⟨rfl, rfl⟩ | ⟨rfl, rfl⟩ | ⟨rfl, rfl⟩ | ⟨rfl, rfl⟩ | ⟨rfl, rfl⟩ | ⟨rfl, rfl⟩
    · exact ae_direct6 EvOK.nil 30 (by kernel_rfl : tget aeF 46 = some Try.f46) ((u46_501 ..).trans ((chN_eq ..).trans hq))
    · exact ae_direct6 EvOK.nil 30 (by kernel_rfl : tget aeF 46 = some Try.f46) ((u46_502 ..).trans ((chN_eq ..).trans hq))
    · exact ae_direct6 EvOK.nil 30 (by kernel_rfl : tget aeF 46 = some Try.f46) ((u46_503 ..).trans ((chN_eq ..).trans hq))
    · exact ae_direct6 EvOK.nil 30 (by kernel_rfl : tget aeF 46 = some Try.f46) ((u46_504 ..).trans ((chN_eq ..).trans hq))
    · exact ae_direct6 EvOK.nil 30 (by kernel_rfl : tget aeF 46 = some Try.f46) ((u46_512 ..).trans ((chN_eq ..).trans hq))
    · exact ae_direct6 EvOK.nil 30 (by kernel_rfl : tget aeF 46 = some Try.f46) ((u46_513 ..).trans ((chN_eq ..).trans hq))
    · exact ae_direct6 EvOK.nil 30 (by kernel_rfl : tget aeF 46 = some Try.f46) ((u46_514 ..).trans ((chN_eq ..).trans hq))
    · exact ae_direct6 EvOK.nil 30 (by kernel_rfl : tget aeF 46 = some Try.f46) ((u46_523 ..).trans ((chN_eq ..).trans hq))
    · exact ae_direct6 EvOK.nil 30 (by kernel_rfl : tget aeF 46 = some Try.f46) ((u46_524 ..).trans ((chN_eq ..).trans hq))
    · exact ae_direct6 EvOK.nil 30 (by kernel_rfl : tget aeF 46 = some Try.f46) ((u46_534 ..).trans ((chN_eq ..).trans hq))
theorem c44 {k : Nat} {M : List (List Int)} (hM : matB k M) (h1 : 1 ≤ k) (h5 : k ≤ 5) (s t : Int) : PureOK Try.prog 44 [matD M, iD s, iD t] (mergeD M s t) := by
  cases hb : badST M.length s t with
  | true => exact c44_bad hM h1 h5 hb
  | false =>
    obtain ⟨i, j, rfl, rfl, hi, hj⟩ := badST_no hb
    exact c44_in hM h1 h5 hi (by rw [hM.1] at hj; exact hj)
end Go.Proofs.Ytjfopbpkophoeaa

/- Chapter 06: a matrix is made of any rows, in memory. Written by wip/tools/genE4.py. -/
namespace Go.Proofs.Ytjfopbpkophoeaa
open Go Go.AE
set_option maxRecDepth 100000
def z14 (A : DV) (k i : Nat) (H : List Blk) : St := ⟨[(0, .d A), (5, .d (iD k)), (6, AV.grow 0 1 false), (7, .d (iD i))], H, []⟩
def z142 (A : DV) (k i : Nat) (H : List Blk) (j : Int) : St := ⟨[(0, .d A), (5, .d (iD k)), (6, AV.grow 0 1 false), (7, .d (iD i)), (8, AV.row (i + 1) 0 k k 1 true), (9, .d (iD j))], H, []⟩
def z142x (A : DV) (k i : Nat) (H : List Blk) : St := ⟨[(0, .d A), (5, .d (iD k)), (6, AV.grow 0 1 false), (7, .d (iD i)), (8, AV.row (i + 1) 0 k k 1 true)], H, []⟩
/-- The rows so far. -/
def Hk (k : Nat) (l : List (List DV)) : Blk := match l with
  | [] => .dc []
  | l => .ac ((List.range l.length).map fun i => AV.row (i + 1) 0 k k 1 true)
def W142 {X : Type} (A : List DV) (n k i j : Nat) (R : List DV) (out : Option X) (go : List DV → Int → Option X) : Option X :=
  bif decide ((j : Int) < (k : Int)) then (bif decide ((i : Int) < (n : Int)) then (bif inRange (i : Int) n then (getS (nth A (Int.toNat (i : Int) * 1)) fun cs0 n0 sz0 c0 nl0 => bif nl0 || Nat.beq sz0 1 then (bif decide ((j : Int) < (n0 : Int)) then
    (bif inRange (i : Int) n then (getS (nth A (Int.toNat (i : Int) * 1)) fun cs1 n1 sz1 c1 nl1 => bif nl1 || Nat.beq sz1 1 then (bif inRange (j : Int) n1 then (getI (nth cs1 (Int.toNat (j : Int) * 1)) fun x2 =>
      bif inRange (j : Int) k && true then (bif Nat.ble (0 + Int.toNat (j : Int) * 1 + 1) R.length && true then
        go (setNth R (0 + Int.toNat (j : Int) * 1) (iD (tv10 x2))) (IntKind.wrap IntKind.i64 ((j : Int) + 1)) else none) else none) else none) else none) else none)
      else out) else none) else none) else out) else out
section
variable {Y : List (List Int × Bool)} {k i : Nat} {P : List DV → Int → St} {Q : List DV → St}
theorem loop142g (hk : k ≤ 5) (hp : ∀ (R : List DV) (j : Nat), startS aeC6 Ev.nil 14 0 Try.f14 (some 2) (P R j) (roundD aeC6 14 0 2) = W142 (rowsD Y) Y.length k i j R (some (Ex.exit 2, Q R)) fun R' j' => some (Ex.norm, P R' j')) :
    ∀ (t j : Nat) (R : List Int), R.length = k → smallB R = true → j + t = k → ∃ R' : List Int, R'.length = k ∧ smallB R' = true ∧ LoopAt aeC6 Ev.nil 14 0 Try.f14 2 (P (ints R) j) (.exit 2) (Q (ints R'))
  | 0, j, R, hl, hs, hj => ⟨R, hl, hs, .out k14_2 (by simp) ((hp ..).trans (cnd_neg (by omega)))⟩
  | t + 1, j, R, hl, hs, hj => by
    by_cases h1 : i < Y.length
    · have e1 : Int.toNat (i : Int) * 1 = i := by simp
      have e2 : Int.toNat (j : Int) * 1 = j := by simp
      have ha := hp (ints R) j
      unfold W142 at ha
      rw [e1, nth_rows h1] at ha
      simp only [getS_some, e2, Nat.beq_refl, Bool.or_true, cond_true] at ha
      by_cases h2 : j < (Y.getD i ([], false)).1.length
      · rw [nth_ints_o h2, getI_some] at ha
        have hset : setNth (ints R) (0 + j) (iD (tv10 ((Y.getD i ([], false)).1.getD j 0))) = ints (R.set j (tv10 ((Y.getD i ([], false)).1.getD j 0))) := by rw [Nat.zero_add, setNth_ints_o]
        have hw : IntKind.wrap .i64 ((j : Int) + 1) = ((j + 1 : Nat) : Int) := by rw [wrap64_o (by omega) (by omega)]; rfl
        have hin : (inRange (j : Int) k && true) = true := by simp [inRange]; omega
        have hroom : (Nat.ble (0 + j + 1) (ints R).length && true) = true := by rw [len_ints, Bool.and_true]; exact Nat.ble_eq_true_of_le (by omega)
        rw [hset, hw, hin, hroom] at ha
        have hs' : smallB (R.set j (tv10 ((Y.getD i ([], false)).1.getD j 0))) = true := smallB_mk fun x hx => by
          rcases List.mem_or_eq_of_mem_set hx with hx | rfl
          · exact smallB_at hs x hx
          · exact tv10_b _
        obtain ⟨R', g1, g2, g3⟩ := loop142g hk hp t (j + 1) (R.set j (tv10 ((Y.getD i ([], false)).1.getD j 0))) (by simpa using hl) hs' (by omega)
        refine ⟨R', g1, g2, .next k14_2 (ha.trans ?_) g3⟩
        refine (cnd_pos (by omega)).trans ((cnd_pos (by omega)).trans ((inR_pos (by omega) (by omega)).trans ((cnd_pos (by omega)).trans ((inR_pos (by omega) (by omega)).trans ((inR_pos (by omega) (by omega)).trans rfl)))))
      · refine ⟨R, hl, hs, .out k14_2 (by simp) (ha.trans ?_)⟩
        exact (cnd_pos (by omega)).trans ((cnd_pos (by omega)).trans ((inR_pos (by omega) (by omega)).trans (cnd_neg (by omega))))
    · refine ⟨R, hl, hs, .out k14_2 (by simp) ((hp ..).trans ?_)⟩
      exact (cnd_pos (by omega)).trans (cnd_neg (by omega))
end
theorem z14_h (A : List DV) (n : Nat) (c z : Bool) (m : Int) : startS aeC6 Ev.nil 14 0 Try.f14 none ⟨envOf 0 [.d (.sl A n 1 c z), .d (iD m)], [], []⟩ (heldD aeC6 14 0) =
  some (0, ⟨[(0, .d (DV.sl A n 1 c z)), (5, .d (iD (if (bif false then if m > (n : Int) then m else (n : Int) else if m < (n : Int) then m else (n : Int)) > 1 then if m < (n : Int) then m else (n : Int) else 1))), (6, AV.grow 0 1 false), (7, .d (iD 0))], [.dc []], []⟩) := by kernel_rfl
theorem rep_z (k : Nat) : ints (List.replicate k 0) = List.replicate k (iD 0) := by unfold ints; rw [List.map_replicate]
theorem small_z (k : Nat) : smallB (List.replicate k 0) = true := smallB_mk fun x hx => by rw [List.eq_of_mem_replicate hx]; omega

theorem z0_10 (A : List DV) (n : Nat) (c z : Bool) : startS aeC6 Ev.nil 14 0 Try.f14 (some 0) (z14 (.sl A n 1 c z) 1 0 [Hk 1 []]) (heldD aeC6 14 0) = some (2, z142 (.sl A n 1 c z) 1 0 [Hk 1 [], .dc (List.replicate 1 (iD 0))] 0) := by kernel_rfl
theorem z2_10 (A : List DV) (n : Nat) (c z : Bool) (R : List DV) (j : Nat) : startS aeC6 Ev.nil 14 0 Try.f14 (some 2) (z142 (.sl A n 1 c z) 1 0 [Hk 1 [], .dc R] j) (roundD aeC6 14 0 2) = W142 A n 1 0 j R (some (Ex.exit 2, z142x (.sl A n 1 c z) 1 0 [Hk 1 [], .dc R])) fun R' j' => some (Ex.norm, z142 (.sl A n 1 c z) 1 0 [Hk 1 [], .dc R'] j') := by kernel_rfl
theorem zx_10 (A : List DV) (n : Nat) (c z : Bool) (R0 : List DV) : nextS aeC6 Ev.nil 14 0 Try.f14 (some 0) 2 (.exit 2) (z142x (.sl A n 1 c z) 1 0 [Hk 1 [], .dc R0]) (roundD aeC6 14 0 0) = some (Ex.norm, z14 (.sl A n 1 c z) 1 1 [Hk 1 [R0], .dc R0]) := by kernel_rfl
theorem zo_1 (A : List DV) (n : Nat) (c z : Bool) (R0 : List DV) : startS aeC6 Ev.nil 14 0 Try.f14 (some 0) (z14 (.sl A n 1 c z) 1 1 [Hk 1 [R0], .dc R0]) (roundD aeC6 14 0 0) = some (Ex.exit 0, ⟨[(6, AV.grow 0 1 false)], Hm [R0], []⟩) := by kernel_rfl
theorem ze_1 (R0 : List DV) : nextS aeC6 Ev.nil 14 0 Try.f14 none 0 (.exit 0) ⟨[(6, AV.grow 0 1 false)], Hm [R0], []⟩ (doneE aeC6 Try.f14 0 fun v h => some (v, h)) = some (AV.grow 0 1 false, Hm [R0]) := by kernel_rfl
theorem c14F_1 (Y : List (List Int × Bool)) (c z : Bool) : ∃ M, matB 1 M ∧ LoopAt aeC6 Ev.nil 14 0 Try.f14 0 (z14 (.sl (rowsD Y) Y.length 1 c z) 1 0 [.dc []]) (.exit 0) ⟨[(6, AV.grow 0 1 false)], Hm (M.map ints), []⟩ := by
  obtain ⟨M0, a0, b0, g0⟩ := loop142g (k := 1) (i := 0) (by decide) (fun R j => z2_10 (rowsD Y) Y.length c z  R j) 1 0 (List.replicate 1 0) (by simp) (small_z 1) (by omega)
  rw [rep_z] at g0
  refine ⟨[M0], ⟨rfl, ?_⟩, ?_⟩
  · intro r hr
    simp only [List.mem_cons, List.not_mem_nil, or_false] at hr
    rcases hr with rfl
    · exact ⟨a0, b0⟩
  · exact .nextF k14_0 ((startF_seg k14_0 (z0_10 _ _ _ _ ) g0).trans (nextF_done k14_0 roundD_plain (zx_10 _ _ _ _ (ints M0)))) (.out k14_0 (by simp) (zo_1 _ _ _ _ (ints M0)))
theorem z0_20 (A : List DV) (n : Nat) (c z : Bool) : startS aeC6 Ev.nil 14 0 Try.f14 (some 0) (z14 (.sl A n 1 c z) 2 0 [Hk 2 []]) (heldD aeC6 14 0) = some (2, z142 (.sl A n 1 c z) 2 0 [Hk 2 [], .dc (List.replicate 2 (iD 0))] 0) := by kernel_rfl
theorem z2_20 (A : List DV) (n : Nat) (c z : Bool) (R : List DV) (j : Nat) : startS aeC6 Ev.nil 14 0 Try.f14 (some 2) (z142 (.sl A n 1 c z) 2 0 [Hk 2 [], .dc R] j) (roundD aeC6 14 0 2) = W142 A n 2 0 j R (some (Ex.exit 2, z142x (.sl A n 1 c z) 2 0 [Hk 2 [], .dc R])) fun R' j' => some (Ex.norm, z142 (.sl A n 1 c z) 2 0 [Hk 2 [], .dc R'] j') := by kernel_rfl
theorem zx_20 (A : List DV) (n : Nat) (c z : Bool) (R0 : List DV) : nextS aeC6 Ev.nil 14 0 Try.f14 (some 0) 2 (.exit 2) (z142x (.sl A n 1 c z) 2 0 [Hk 2 [], .dc R0]) (roundD aeC6 14 0 0) = some (Ex.norm, z14 (.sl A n 1 c z) 2 1 [Hk 2 [R0], .dc R0]) := by kernel_rfl
theorem z0_21 (A : List DV) (n : Nat) (c z : Bool) (R0 : List DV) : startS aeC6 Ev.nil 14 0 Try.f14 (some 0) (z14 (.sl A n 1 c z) 2 1 [Hk 2 [R0], .dc R0]) (heldD aeC6 14 0) = some (2, z142 (.sl A n 1 c z) 2 1 [Hk 2 [R0], .dc R0, .dc (List.replicate 2 (iD 0))] 0) := by kernel_rfl
theorem z2_21 (A : List DV) (n : Nat) (c z : Bool) (R0 : List DV) (R : List DV) (j : Nat) : startS aeC6 Ev.nil 14 0 Try.f14 (some 2) (z142 (.sl A n 1 c z) 2 1 [Hk 2 [R0], .dc R0, .dc R] j) (roundD aeC6 14 0 2) = W142 A n 2 1 j R (some (Ex.exit 2, z142x (.sl A n 1 c z) 2 1 [Hk 2 [R0], .dc R0, .dc R])) fun R' j' => some (Ex.norm, z142 (.sl A n 1 c z) 2 1 [Hk 2 [R0], .dc R0, .dc R'] j') := by kernel_rfl
theorem zx_21 (A : List DV) (n : Nat) (c z : Bool) (R0 R1 : List DV) : nextS aeC6 Ev.nil 14 0 Try.f14 (some 0) 2 (.exit 2) (z142x (.sl A n 1 c z) 2 1 [Hk 2 [R0], .dc R0, .dc R1]) (roundD aeC6 14 0 0) = some (Ex.norm, z14 (.sl A n 1 c z) 2 2 [Hk 2 [R0, R1], .dc R0, .dc R1]) := by kernel_rfl
theorem zo_2 (A : List DV) (n : Nat) (c z : Bool) (R0 R1 : List DV) : startS aeC6 Ev.nil 14 0 Try.f14 (some 0) (z14 (.sl A n 1 c z) 2 2 [Hk 2 [R0, R1], .dc R0, .dc R1]) (roundD aeC6 14 0 0) = some (Ex.exit 0, ⟨[(6, AV.grow 0 1 false)], Hm [R0, R1], []⟩) := by kernel_rfl
theorem ze_2 (R0 R1 : List DV) : nextS aeC6 Ev.nil 14 0 Try.f14 none 0 (.exit 0) ⟨[(6, AV.grow 0 1 false)], Hm [R0, R1], []⟩ (doneE aeC6 Try.f14 0 fun v h => some (v, h)) = some (AV.grow 0 1 false, Hm [R0, R1]) := by kernel_rfl
theorem c14F_2 (Y : List (List Int × Bool)) (c z : Bool) : ∃ M, matB 2 M ∧ LoopAt aeC6 Ev.nil 14 0 Try.f14 0 (z14 (.sl (rowsD Y) Y.length 1 c z) 2 0 [.dc []]) (.exit 0) ⟨[(6, AV.grow 0 1 false)], Hm (M.map ints), []⟩ := by
  obtain ⟨M0, a0, b0, g0⟩ := loop142g (k := 2) (i := 0) (by decide) (fun R j => z2_20 (rowsD Y) Y.length c z  R j) 2 0 (List.replicate 2 0) (by simp) (small_z 2) (by omega)
  rw [rep_z] at g0
  obtain ⟨M1, a1, b1, g1⟩ := loop142g (k := 2) (i := 1) (by decide) (fun R j => z2_21 (rowsD Y) Y.length c z (ints M0) R j) 2 0 (List.replicate 2 0) (by simp) (small_z 2) (by omega)
  rw [rep_z] at g1
  refine ⟨[M0, M1], ⟨rfl, ?_⟩, ?_⟩
  · intro r hr
    simp only [List.mem_cons, List.not_mem_nil, or_false] at hr
    rcases hr with rfl | rfl
    · exact ⟨a0, b0⟩
    · exact ⟨a1, b1⟩
  · exact .nextF k14_0 ((startF_seg k14_0 (z0_20 _ _ _ _ ) g0).trans (nextF_done k14_0 roundD_plain (zx_20 _ _ _ _ (ints M0)))) (.nextF k14_0 ((startF_seg k14_0 (z0_21 _ _ _ _ (ints M0)) g1).trans (nextF_done k14_0 roundD_plain (zx_21 _ _ _ _ (ints M0) (ints M1)))) (.out k14_0 (by simp) (zo_2 _ _ _ _ (ints M0) (ints M1))))
theorem z0_30 (A : List DV) (n : Nat) (c z : Bool) : startS aeC6 Ev.nil 14 0 Try.f14 (some 0) (z14 (.sl A n 1 c z) 3 0 [Hk 3 []]) (heldD aeC6 14 0) = some (2, z142 (.sl A n 1 c z) 3 0 [Hk 3 [], .dc (List.replicate 3 (iD 0))] 0) := by kernel_rfl
theorem z2_30 (A : List DV) (n : Nat) (c z : Bool) (R : List DV) (j : Nat) : startS aeC6 Ev.nil 14 0 Try.f14 (some 2) (z142 (.sl A n 1 c z) 3 0 [Hk 3 [], .dc R] j) (roundD aeC6 14 0 2) = W142 A n 3 0 j R (some (Ex.exit 2, z142x (.sl A n 1 c z) 3 0 [Hk 3 [], .dc R])) fun R' j' => some (Ex.norm, z142 (.sl A n 1 c z) 3 0 [Hk 3 [], .dc R'] j') := by kernel_rfl
theorem zx_30 (A : List DV) (n : Nat) (c z : Bool) (R0 : List DV) : nextS aeC6 Ev.nil 14 0 Try.f14 (some 0) 2 (.exit 2) (z142x (.sl A n 1 c z) 3 0 [Hk 3 [], .dc R0]) (roundD aeC6 14 0 0) = some (Ex.norm, z14 (.sl A n 1 c z) 3 1 [Hk 3 [R0], .dc R0]) := by kernel_rfl
theorem z0_31 (A : List DV) (n : Nat) (c z : Bool) (R0 : List DV) : startS aeC6 Ev.nil 14 0 Try.f14 (some 0) (z14 (.sl A n 1 c z) 3 1 [Hk 3 [R0], .dc R0]) (heldD aeC6 14 0) = some (2, z142 (.sl A n 1 c z) 3 1 [Hk 3 [R0], .dc R0, .dc (List.replicate 3 (iD 0))] 0) := by kernel_rfl
theorem z2_31 (A : List DV) (n : Nat) (c z : Bool) (R0 : List DV) (R : List DV) (j : Nat) : startS aeC6 Ev.nil 14 0 Try.f14 (some 2) (z142 (.sl A n 1 c z) 3 1 [Hk 3 [R0], .dc R0, .dc R] j) (roundD aeC6 14 0 2) = W142 A n 3 1 j R (some (Ex.exit 2, z142x (.sl A n 1 c z) 3 1 [Hk 3 [R0], .dc R0, .dc R])) fun R' j' => some (Ex.norm, z142 (.sl A n 1 c z) 3 1 [Hk 3 [R0], .dc R0, .dc R'] j') := by kernel_rfl
theorem zx_31 (A : List DV) (n : Nat) (c z : Bool) (R0 R1 : List DV) : nextS aeC6 Ev.nil 14 0 Try.f14 (some 0) 2 (.exit 2) (z142x (.sl A n 1 c z) 3 1 [Hk 3 [R0], .dc R0, .dc R1]) (roundD aeC6 14 0 0) = some (Ex.norm, z14 (.sl A n 1 c z) 3 2 [Hk 3 [R0, R1], .dc R0, .dc R1]) := by kernel_rfl
theorem z0_32 (A : List DV) (n : Nat) (c z : Bool) (R0 R1 : List DV) : startS aeC6 Ev.nil 14 0 Try.f14 (some 0) (z14 (.sl A n 1 c z) 3 2 [Hk 3 [R0, R1], .dc R0, .dc R1]) (heldD aeC6 14 0) = some (2, z142 (.sl A n 1 c z) 3 2 [Hk 3 [R0, R1], .dc R0, .dc R1, .dc (List.replicate 3 (iD 0))] 0) := by kernel_rfl
theorem z2_32 (A : List DV) (n : Nat) (c z : Bool) (R0 R1 : List DV) (R : List DV) (j : Nat) : startS aeC6 Ev.nil 14 0 Try.f14 (some 2) (z142 (.sl A n 1 c z) 3 2 [Hk 3 [R0, R1], .dc R0, .dc R1, .dc R] j) (roundD aeC6 14 0 2) = W142 A n 3 2 j R (some (Ex.exit 2, z142x (.sl A n 1 c z) 3 2 [Hk 3 [R0, R1], .dc R0, .dc R1, .dc R])) fun R' j' => some (Ex.norm, z142 (.sl A n 1 c z) 3 2 [Hk 3 [R0, R1], .dc R0, .dc R1, .dc R'] j') := by kernel_rfl
theorem zx_32 (A : List DV) (n : Nat) (c z : Bool) (R0 R1 R2 : List DV) : nextS aeC6 Ev.nil 14 0 Try.f14 (some 0) 2 (.exit 2) (z142x (.sl A n 1 c z) 3 2 [Hk 3 [R0, R1], .dc R0, .dc R1, .dc R2]) (roundD aeC6 14 0 0) = some (Ex.norm, z14 (.sl A n 1 c z) 3 3 [Hk 3 [R0, R1, R2], .dc R0, .dc R1, .dc R2]) := by kernel_rfl
theorem zo_3 (A : List DV) (n : Nat) (c z : Bool) (R0 R1 R2 : List DV) : startS aeC6 Ev.nil 14 0 Try.f14 (some 0) (z14 (.sl A n 1 c z) 3 3 [Hk 3 [R0, R1, R2], .dc R0, .dc R1, .dc R2]) (roundD aeC6 14 0 0) = some (Ex.exit 0, ⟨[(6, AV.grow 0 1 false)], Hm [R0, R1, R2], []⟩) := by kernel_rfl
theorem ze_3 (R0 R1 R2 : List DV) : nextS aeC6 Ev.nil 14 0 Try.f14 none 0 (.exit 0) ⟨[(6, AV.grow 0 1 false)], Hm [R0, R1, R2], []⟩ (doneE aeC6 Try.f14 0 fun v h => some (v, h)) = some (AV.grow 0 1 false, Hm [R0, R1, R2]) := by kernel_rfl
theorem c14F_3 (Y : List (List Int × Bool)) (c z : Bool) : ∃ M, matB 3 M ∧ LoopAt aeC6 Ev.nil 14 0 Try.f14 0 (z14 (.sl (rowsD Y) Y.length 1 c z) 3 0 [.dc []]) (.exit 0) ⟨[(6, AV.grow 0 1 false)], Hm (M.map ints), []⟩ := by
  obtain ⟨M0, a0, b0, g0⟩ := loop142g (k := 3) (i := 0) (by decide) (fun R j => z2_30 (rowsD Y) Y.length c z  R j) 3 0 (List.replicate 3 0) (by simp) (small_z 3) (by omega)
  rw [rep_z] at g0
  obtain ⟨M1, a1, b1, g1⟩ := loop142g (k := 3) (i := 1) (by decide) (fun R j => z2_31 (rowsD Y) Y.length c z (ints M0) R j) 3 0 (List.replicate 3 0) (by simp) (small_z 3) (by omega)
  rw [rep_z] at g1
  obtain ⟨M2, a2, b2, g2⟩ := loop142g (k := 3) (i := 2) (by decide) (fun R j => z2_32 (rowsD Y) Y.length c z (ints M0) (ints M1) R j) 3 0 (List.replicate 3 0) (by simp) (small_z 3) (by omega)
  rw [rep_z] at g2
  refine ⟨[M0, M1, M2], ⟨rfl, ?_⟩, ?_⟩
  · intro r hr
    simp only [List.mem_cons, List.not_mem_nil, or_false] at hr
    rcases hr with rfl | rfl | rfl
    · exact ⟨a0, b0⟩
    · exact ⟨a1, b1⟩
    · exact ⟨a2, b2⟩
  · exact .nextF k14_0 ((startF_seg k14_0 (z0_30 _ _ _ _ ) g0).trans (nextF_done k14_0 roundD_plain (zx_30 _ _ _ _ (ints M0)))) (.nextF k14_0 ((startF_seg k14_0 (z0_31 _ _ _ _ (ints M0)) g1).trans (nextF_done k14_0 roundD_plain (zx_31 _ _ _ _ (ints M0) (ints M1)))) (.nextF k14_0 ((startF_seg k14_0 (z0_32 _ _ _ _ (ints M0) (ints M1)) g2).trans (nextF_done k14_0 roundD_plain (zx_32 _ _ _ _ (ints M0) (ints M1) (ints M2)))) (.out k14_0 (by simp) (zo_3 _ _ _ _ (ints M0) (ints M1) (ints M2)))))
theorem z0_40 (A : List DV) (n : Nat) (c z : Bool) : startS aeC6 Ev.nil 14 0 Try.f14 (some 0) (z14 (.sl A n 1 c z) 4 0 [Hk 4 []]) (heldD aeC6 14 0) = some (2, z142 (.sl A n 1 c z) 4 0 [Hk 4 [], .dc (List.replicate 4 (iD 0))] 0) := by kernel_rfl
theorem z2_40 (A : List DV) (n : Nat) (c z : Bool) (R : List DV) (j : Nat) : startS aeC6 Ev.nil 14 0 Try.f14 (some 2) (z142 (.sl A n 1 c z) 4 0 [Hk 4 [], .dc R] j) (roundD aeC6 14 0 2) = W142 A n 4 0 j R (some (Ex.exit 2, z142x (.sl A n 1 c z) 4 0 [Hk 4 [], .dc R])) fun R' j' => some (Ex.norm, z142 (.sl A n 1 c z) 4 0 [Hk 4 [], .dc R'] j') := by kernel_rfl
theorem zx_40 (A : List DV) (n : Nat) (c z : Bool) (R0 : List DV) : nextS aeC6 Ev.nil 14 0 Try.f14 (some 0) 2 (.exit 2) (z142x (.sl A n 1 c z) 4 0 [Hk 4 [], .dc R0]) (roundD aeC6 14 0 0) = some (Ex.norm, z14 (.sl A n 1 c z) 4 1 [Hk 4 [R0], .dc R0]) := by kernel_rfl
theorem z0_41 (A : List DV) (n : Nat) (c z : Bool) (R0 : List DV) : startS aeC6 Ev.nil 14 0 Try.f14 (some 0) (z14 (.sl A n 1 c z) 4 1 [Hk 4 [R0], .dc R0]) (heldD aeC6 14 0) = some (2, z142 (.sl A n 1 c z) 4 1 [Hk 4 [R0], .dc R0, .dc (List.replicate 4 (iD 0))] 0) := by kernel_rfl
theorem z2_41 (A : List DV) (n : Nat) (c z : Bool) (R0 : List DV) (R : List DV) (j : Nat) : startS aeC6 Ev.nil 14 0 Try.f14 (some 2) (z142 (.sl A n 1 c z) 4 1 [Hk 4 [R0], .dc R0, .dc R] j) (roundD aeC6 14 0 2) = W142 A n 4 1 j R (some (Ex.exit 2, z142x (.sl A n 1 c z) 4 1 [Hk 4 [R0], .dc R0, .dc R])) fun R' j' => some (Ex.norm, z142 (.sl A n 1 c z) 4 1 [Hk 4 [R0], .dc R0, .dc R'] j') := by kernel_rfl
theorem zx_41 (A : List DV) (n : Nat) (c z : Bool) (R0 R1 : List DV) : nextS aeC6 Ev.nil 14 0 Try.f14 (some 0) 2 (.exit 2) (z142x (.sl A n 1 c z) 4 1 [Hk 4 [R0], .dc R0, .dc R1]) (roundD aeC6 14 0 0) = some (Ex.norm, z14 (.sl A n 1 c z) 4 2 [Hk 4 [R0, R1], .dc R0, .dc R1]) := by kernel_rfl
theorem z0_42 (A : List DV) (n : Nat) (c z : Bool) (R0 R1 : List DV) : startS aeC6 Ev.nil 14 0 Try.f14 (some 0) (z14 (.sl A n 1 c z) 4 2 [Hk 4 [R0, R1], .dc R0, .dc R1]) (heldD aeC6 14 0) = some (2, z142 (.sl A n 1 c z) 4 2 [Hk 4 [R0, R1], .dc R0, .dc R1, .dc (List.replicate 4 (iD 0))] 0) := by kernel_rfl
theorem z2_42 (A : List DV) (n : Nat) (c z : Bool) (R0 R1 : List DV) (R : List DV) (j : Nat) : startS aeC6 Ev.nil 14 0 Try.f14 (some 2) (z142 (.sl A n 1 c z) 4 2 [Hk 4 [R0, R1], .dc R0, .dc R1, .dc R] j) (roundD aeC6 14 0 2) = W142 A n 4 2 j R (some (Ex.exit 2, z142x (.sl A n 1 c z) 4 2 [Hk 4 [R0, R1], .dc R0, .dc R1, .dc R])) fun R' j' => some (Ex.norm, z142 (.sl A n 1 c z) 4 2 [Hk 4 [R0, R1], .dc R0, .dc R1, .dc R'] j') := by kernel_rfl
theorem zx_42 (A : List DV) (n : Nat) (c z : Bool) (R0 R1 R2 : List DV) : nextS aeC6 Ev.nil 14 0 Try.f14 (some 0) 2 (.exit 2) (z142x (.sl A n 1 c z) 4 2 [Hk 4 [R0, R1], .dc R0, .dc R1, .dc R2]) (roundD aeC6 14 0 0) = some (Ex.norm, z14 (.sl A n 1 c z) 4 3 [Hk 4 [R0, R1, R2], .dc R0, .dc R1, .dc R2]) := by kernel_rfl
theorem z0_43 (A : List DV) (n : Nat) (c z : Bool) (R0 R1 R2 : List DV) : startS aeC6 Ev.nil 14 0 Try.f14 (some 0) (z14 (.sl A n 1 c z) 4 3 [Hk 4 [R0, R1, R2], .dc R0, .dc R1, .dc R2]) (heldD aeC6 14 0) = some (2, z142 (.sl A n 1 c z) 4 3 [Hk 4 [R0, R1, R2], .dc R0, .dc R1, .dc R2, .dc (List.replicate 4 (iD 0))] 0) := by kernel_rfl
theorem z2_43 (A : List DV) (n : Nat) (c z : Bool) (R0 R1 R2 : List DV) (R : List DV) (j : Nat) : startS aeC6 Ev.nil 14 0 Try.f14 (some 2) (z142 (.sl A n 1 c z) 4 3 [Hk 4 [R0, R1, R2], .dc R0, .dc R1, .dc R2, .dc R] j) (roundD aeC6 14 0 2) = W142 A n 4 3 j R (some (Ex.exit 2, z142x (.sl A n 1 c z) 4 3 [Hk 4 [R0, R1, R2], .dc R0, .dc R1, .dc R2, .dc R])) fun R' j' => some (Ex.norm, z142 (.sl A n 1 c z) 4 3 [Hk 4 [R0, R1, R2], .dc R0, .dc R1, .dc R2, .dc R'] j') := by kernel_rfl
theorem zx_43 (A : List DV) (n : Nat) (c z : Bool) (R0 R1 R2 R3 : List DV) : nextS aeC6 Ev.nil 14 0 Try.f14 (some 0) 2 (.exit 2) (z142x (.sl A n 1 c z) 4 3 [Hk 4 [R0, R1, R2], .dc R0, .dc R1, .dc R2, .dc R3]) (roundD aeC6 14 0 0) = some (Ex.norm, z14 (.sl A n 1 c z) 4 4 [Hk 4 [R0, R1, R2, R3], .dc R0, .dc R1, .dc R2, .dc R3]) := by kernel_rfl
theorem zo_4 (A : List DV) (n : Nat) (c z : Bool) (R0 R1 R2 R3 : List DV) : startS aeC6 Ev.nil 14 0 Try.f14 (some 0) (z14 (.sl A n 1 c z) 4 4 [Hk 4 [R0, R1, R2, R3], .dc R0, .dc R1, .dc R2, .dc R3]) (roundD aeC6 14 0 0) = some (Ex.exit 0, ⟨[(6, AV.grow 0 1 false)], Hm [R0, R1, R2, R3], []⟩) := by kernel_rfl
theorem ze_4 (R0 R1 R2 R3 : List DV) : nextS aeC6 Ev.nil 14 0 Try.f14 none 0 (.exit 0) ⟨[(6, AV.grow 0 1 false)], Hm [R0, R1, R2, R3], []⟩ (doneE aeC6 Try.f14 0 fun v h => some (v, h)) = some (AV.grow 0 1 false, Hm [R0, R1, R2, R3]) := by kernel_rfl
theorem c14F_4 (Y : List (List Int × Bool)) (c z : Bool) : ∃ M, matB 4 M ∧ LoopAt aeC6 Ev.nil 14 0 Try.f14 0 (z14 (.sl (rowsD Y) Y.length 1 c z) 4 0 [.dc []]) (.exit 0) ⟨[(6, AV.grow 0 1 false)], Hm (M.map ints), []⟩ := by
  obtain ⟨M0, a0, b0, g0⟩ := loop142g (k := 4) (i := 0) (by decide) (fun R j => z2_40 (rowsD Y) Y.length c z  R j) 4 0 (List.replicate 4 0) (by simp) (small_z 4) (by omega)
  rw [rep_z] at g0
  obtain ⟨M1, a1, b1, g1⟩ := loop142g (k := 4) (i := 1) (by decide) (fun R j => z2_41 (rowsD Y) Y.length c z (ints M0) R j) 4 0 (List.replicate 4 0) (by simp) (small_z 4) (by omega)
  rw [rep_z] at g1
  obtain ⟨M2, a2, b2, g2⟩ := loop142g (k := 4) (i := 2) (by decide) (fun R j => z2_42 (rowsD Y) Y.length c z (ints M0) (ints M1) R j) 4 0 (List.replicate 4 0) (by simp) (small_z 4) (by omega)
  rw [rep_z] at g2
  obtain ⟨M3, a3, b3, g3⟩ := loop142g (k := 4) (i := 3) (by decide) (fun R j => z2_43 (rowsD Y) Y.length c z (ints M0) (ints M1) (ints M2) R j) 4 0 (List.replicate 4 0) (by simp) (small_z 4) (by omega)
  rw [rep_z] at g3
  refine ⟨[M0, M1, M2, M3], ⟨rfl, ?_⟩, ?_⟩
  · intro r hr
    simp only [List.mem_cons, List.not_mem_nil, or_false] at hr
    rcases hr with rfl | rfl | rfl | rfl
    · exact ⟨a0, b0⟩
    · exact ⟨a1, b1⟩
    · exact ⟨a2, b2⟩
    · exact ⟨a3, b3⟩
  · exact .nextF k14_0 ((startF_seg k14_0 (z0_40 _ _ _ _ ) g0).trans (nextF_done k14_0 roundD_plain (zx_40 _ _ _ _ (ints M0)))) (.nextF k14_0 ((startF_seg k14_0 (z0_41 _ _ _ _ (ints M0)) g1).trans (nextF_done k14_0 roundD_plain (zx_41 _ _ _ _ (ints M0) (ints M1)))) (.nextF k14_0 ((startF_seg k14_0 (z0_42 _ _ _ _ (ints M0) (ints M1)) g2).trans (nextF_done k14_0 roundD_plain (zx_42 _ _ _ _ (ints M0) (ints M1) (ints M2)))) (.nextF k14_0 ((startF_seg k14_0 (z0_43 _ _ _ _ (ints M0) (ints M1) (ints M2)) g3).trans (nextF_done k14_0 roundD_plain (zx_43 _ _ _ _ (ints M0) (ints M1) (ints M2) (ints M3)))) (.out k14_0 (by simp) (zo_4 _ _ _ _ (ints M0) (ints M1) (ints M2) (ints M3))))))
theorem z0_50 (A : List DV) (n : Nat) (c z : Bool) : startS aeC6 Ev.nil 14 0 Try.f14 (some 0) (z14 (.sl A n 1 c z) 5 0 [Hk 5 []]) (heldD aeC6 14 0) = some (2, z142 (.sl A n 1 c z) 5 0 [Hk 5 [], .dc (List.replicate 5 (iD 0))] 0) := by kernel_rfl
theorem z2_50 (A : List DV) (n : Nat) (c z : Bool) (R : List DV) (j : Nat) : startS aeC6 Ev.nil 14 0 Try.f14 (some 2) (z142 (.sl A n 1 c z) 5 0 [Hk 5 [], .dc R] j) (roundD aeC6 14 0 2) = W142 A n 5 0 j R (some (Ex.exit 2, z142x (.sl A n 1 c z) 5 0 [Hk 5 [], .dc R])) fun R' j' => some (Ex.norm, z142 (.sl A n 1 c z) 5 0 [Hk 5 [], .dc R'] j') := by kernel_rfl
theorem zx_50 (A : List DV) (n : Nat) (c z : Bool) (R0 : List DV) : nextS aeC6 Ev.nil 14 0 Try.f14 (some 0) 2 (.exit 2) (z142x (.sl A n 1 c z) 5 0 [Hk 5 [], .dc R0]) (roundD aeC6 14 0 0) = some (Ex.norm, z14 (.sl A n 1 c z) 5 1 [Hk 5 [R0], .dc R0]) := by kernel_rfl
theorem z0_51 (A : List DV) (n : Nat) (c z : Bool) (R0 : List DV) : startS aeC6 Ev.nil 14 0 Try.f14 (some 0) (z14 (.sl A n 1 c z) 5 1 [Hk 5 [R0], .dc R0]) (heldD aeC6 14 0) = some (2, z142 (.sl A n 1 c z) 5 1 [Hk 5 [R0], .dc R0, .dc (List.replicate 5 (iD 0))] 0) := by kernel_rfl
theorem z2_51 (A : List DV) (n : Nat) (c z : Bool) (R0 : List DV) (R : List DV) (j : Nat) : startS aeC6 Ev.nil 14 0 Try.f14 (some 2) (z142 (.sl A n 1 c z) 5 1 [Hk 5 [R0], .dc R0, .dc R] j) (roundD aeC6 14 0 2) = W142 A n 5 1 j R (some (Ex.exit 2, z142x (.sl A n 1 c z) 5 1 [Hk 5 [R0], .dc R0, .dc R])) fun R' j' => some (Ex.norm, z142 (.sl A n 1 c z) 5 1 [Hk 5 [R0], .dc R0, .dc R'] j') := by kernel_rfl
theorem zx_51 (A : List DV) (n : Nat) (c z : Bool) (R0 R1 : List DV) : nextS aeC6 Ev.nil 14 0 Try.f14 (some 0) 2 (.exit 2) (z142x (.sl A n 1 c z) 5 1 [Hk 5 [R0], .dc R0, .dc R1]) (roundD aeC6 14 0 0) = some (Ex.norm, z14 (.sl A n 1 c z) 5 2 [Hk 5 [R0, R1], .dc R0, .dc R1]) := by kernel_rfl
theorem z0_52 (A : List DV) (n : Nat) (c z : Bool) (R0 R1 : List DV) : startS aeC6 Ev.nil 14 0 Try.f14 (some 0) (z14 (.sl A n 1 c z) 5 2 [Hk 5 [R0, R1], .dc R0, .dc R1]) (heldD aeC6 14 0) = some (2, z142 (.sl A n 1 c z) 5 2 [Hk 5 [R0, R1], .dc R0, .dc R1, .dc (List.replicate 5 (iD 0))] 0) := by kernel_rfl
theorem z2_52 (A : List DV) (n : Nat) (c z : Bool) (R0 R1 : List DV) (R : List DV) (j : Nat) : startS aeC6 Ev.nil 14 0 Try.f14 (some 2) (z142 (.sl A n 1 c z) 5 2 [Hk 5 [R0, R1], .dc R0, .dc R1, .dc R] j) (roundD aeC6 14 0 2) = W142 A n 5 2 j R (some (Ex.exit 2, z142x (.sl A n 1 c z) 5 2 [Hk 5 [R0, R1], .dc R0, .dc R1, .dc R])) fun R' j' => some (Ex.norm, z142 (.sl A n 1 c z) 5 2 [Hk 5 [R0, R1], .dc R0, .dc R1, .dc R'] j') := by kernel_rfl
theorem zx_52 (A : List DV) (n : Nat) (c z : Bool) (R0 R1 R2 : List DV) : nextS aeC6 Ev.nil 14 0 Try.f14 (some 0) 2 (.exit 2) (z142x (.sl A n 1 c z) 5 2 [Hk 5 [R0, R1], .dc R0, .dc R1, .dc R2]) (roundD aeC6 14 0 0) = some (Ex.norm, z14 (.sl A n 1 c z) 5 3 [Hk 5 [R0, R1, R2], .dc R0, .dc R1, .dc R2]) := by kernel_rfl
theorem z0_53 (A : List DV) (n : Nat) (c z : Bool) (R0 R1 R2 : List DV) : startS aeC6 Ev.nil 14 0 Try.f14 (some 0) (z14 (.sl A n 1 c z) 5 3 [Hk 5 [R0, R1, R2], .dc R0, .dc R1, .dc R2]) (heldD aeC6 14 0) = some (2, z142 (.sl A n 1 c z) 5 3 [Hk 5 [R0, R1, R2], .dc R0, .dc R1, .dc R2, .dc (List.replicate 5 (iD 0))] 0) := by kernel_rfl
theorem z2_53 (A : List DV) (n : Nat) (c z : Bool) (R0 R1 R2 : List DV) (R : List DV) (j : Nat) : startS aeC6 Ev.nil 14 0 Try.f14 (some 2) (z142 (.sl A n 1 c z) 5 3 [Hk 5 [R0, R1, R2], .dc R0, .dc R1, .dc R2, .dc R] j) (roundD aeC6 14 0 2) = W142 A n 5 3 j R (some (Ex.exit 2, z142x (.sl A n 1 c z) 5 3 [Hk 5 [R0, R1, R2], .dc R0, .dc R1, .dc R2, .dc R])) fun R' j' => some (Ex.norm, z142 (.sl A n 1 c z) 5 3 [Hk 5 [R0, R1, R2], .dc R0, .dc R1, .dc R2, .dc R'] j') := by kernel_rfl
theorem zx_53 (A : List DV) (n : Nat) (c z : Bool) (R0 R1 R2 R3 : List DV) : nextS aeC6 Ev.nil 14 0 Try.f14 (some 0) 2 (.exit 2) (z142x (.sl A n 1 c z) 5 3 [Hk 5 [R0, R1, R2], .dc R0, .dc R1, .dc R2, .dc R3]) (roundD aeC6 14 0 0) = some (Ex.norm, z14 (.sl A n 1 c z) 5 4 [Hk 5 [R0, R1, R2, R3], .dc R0, .dc R1, .dc R2, .dc R3]) := by kernel_rfl
theorem z0_54 (A : List DV) (n : Nat) (c z : Bool) (R0 R1 R2 R3 : List DV) : startS aeC6 Ev.nil 14 0 Try.f14 (some 0) (z14 (.sl A n 1 c z) 5 4 [Hk 5 [R0, R1, R2, R3], .dc R0, .dc R1, .dc R2, .dc R3]) (heldD aeC6 14 0) = some (2, z142 (.sl A n 1 c z) 5 4 [Hk 5 [R0, R1, R2, R3], .dc R0, .dc R1, .dc R2, .dc R3, .dc (List.replicate 5 (iD 0))] 0) := by kernel_rfl
theorem z2_54 (A : List DV) (n : Nat) (c z : Bool) (R0 R1 R2 R3 : List DV) (R : List DV) (j : Nat) : startS aeC6 Ev.nil 14 0 Try.f14 (some 2) (z142 (.sl A n 1 c z) 5 4 [Hk 5 [R0, R1, R2, R3], .dc R0, .dc R1, .dc R2, .dc R3, .dc R] j) (roundD aeC6 14 0 2) = W142 A n 5 4 j R (some (Ex.exit 2, z142x (.sl A n 1 c z) 5 4 [Hk 5 [R0, R1, R2, R3], .dc R0, .dc R1, .dc R2, .dc R3, .dc R])) fun R' j' => some (Ex.norm, z142 (.sl A n 1 c z) 5 4 [Hk 5 [R0, R1, R2, R3], .dc R0, .dc R1, .dc R2, .dc R3, .dc R'] j') := by kernel_rfl
theorem zx_54 (A : List DV) (n : Nat) (c z : Bool) (R0 R1 R2 R3 R4 : List DV) : nextS aeC6 Ev.nil 14 0 Try.f14 (some 0) 2 (.exit 2) (z142x (.sl A n 1 c z) 5 4 [Hk 5 [R0, R1, R2, R3], .dc R0, .dc R1, .dc R2, .dc R3, .dc R4]) (roundD aeC6 14 0 0) = some (Ex.norm, z14 (.sl A n 1 c z) 5 5 [Hk 5 [R0, R1, R2, R3, R4], .dc R0, .dc R1, .dc R2, .dc R3, .dc R4]) := by kernel_rfl
theorem zo_5 (A : List DV) (n : Nat) (c z : Bool) (R0 R1 R2 R3 R4 : List DV) : startS aeC6 Ev.nil 14 0 Try.f14 (some 0) (z14 (.sl A n 1 c z) 5 5 [Hk 5 [R0, R1, R2, R3, R4], .dc R0, .dc R1, .dc R2, .dc R3, .dc R4]) (roundD aeC6 14 0 0) = some (Ex.exit 0, ⟨[(6, AV.grow 0 1 false)], Hm [R0, R1, R2, R3, R4], []⟩) := by kernel_rfl
theorem ze_5 (R0 R1 R2 R3 R4 : List DV) : nextS aeC6 Ev.nil 14 0 Try.f14 none 0 (.exit 0) ⟨[(6, AV.grow 0 1 false)], Hm [R0, R1, R2, R3, R4], []⟩ (doneE aeC6 Try.f14 0 fun v h => some (v, h)) = some (AV.grow 0 1 false, Hm [R0, R1, R2, R3, R4]) := by kernel_rfl
theorem c14F_5 (Y : List (List Int × Bool)) (c z : Bool) : ∃ M, matB 5 M ∧ LoopAt aeC6 Ev.nil 14 0 Try.f14 0 (z14 (.sl (rowsD Y) Y.length 1 c z) 5 0 [.dc []]) (.exit 0) ⟨[(6, AV.grow 0 1 false)], Hm (M.map ints), []⟩ := by
  obtain ⟨M0, a0, b0, g0⟩ := loop142g (k := 5) (i := 0) (by decide) (fun R j => z2_50 (rowsD Y) Y.length c z  R j) 5 0 (List.replicate 5 0) (by simp) (small_z 5) (by omega)
  rw [rep_z] at g0
  obtain ⟨M1, a1, b1, g1⟩ := loop142g (k := 5) (i := 1) (by decide) (fun R j => z2_51 (rowsD Y) Y.length c z (ints M0) R j) 5 0 (List.replicate 5 0) (by simp) (small_z 5) (by omega)
  rw [rep_z] at g1
  obtain ⟨M2, a2, b2, g2⟩ := loop142g (k := 5) (i := 2) (by decide) (fun R j => z2_52 (rowsD Y) Y.length c z (ints M0) (ints M1) R j) 5 0 (List.replicate 5 0) (by simp) (small_z 5) (by omega)
  rw [rep_z] at g2
  obtain ⟨M3, a3, b3, g3⟩ := loop142g (k := 5) (i := 3) (by decide) (fun R j => z2_53 (rowsD Y) Y.length c z (ints M0) (ints M1) (ints M2) R j) 5 0 (List.replicate 5 0) (by simp) (small_z 5) (by omega)
  rw [rep_z] at g3
  obtain ⟨M4, a4, b4, g4⟩ := loop142g (k := 5) (i := 4) (by decide) (fun R j => z2_54 (rowsD Y) Y.length c z (ints M0) (ints M1) (ints M2) (ints M3) R j) 5 0 (List.replicate 5 0) (by simp) (small_z 5) (by omega)
  rw [rep_z] at g4
  refine ⟨[M0, M1, M2, M3, M4], ⟨rfl, ?_⟩, ?_⟩
  · intro r hr
    simp only [List.mem_cons, List.not_mem_nil, or_false] at hr
    rcases hr with rfl | rfl | rfl | rfl | rfl
    · exact ⟨a0, b0⟩
    · exact ⟨a1, b1⟩
    · exact ⟨a2, b2⟩
    · exact ⟨a3, b3⟩
    · exact ⟨a4, b4⟩
  · exact .nextF k14_0 ((startF_seg k14_0 (z0_50 _ _ _ _ ) g0).trans (nextF_done k14_0 roundD_plain (zx_50 _ _ _ _ (ints M0)))) (.nextF k14_0 ((startF_seg k14_0 (z0_51 _ _ _ _ (ints M0)) g1).trans (nextF_done k14_0 roundD_plain (zx_51 _ _ _ _ (ints M0) (ints M1)))) (.nextF k14_0 ((startF_seg k14_0 (z0_52 _ _ _ _ (ints M0) (ints M1)) g2).trans (nextF_done k14_0 roundD_plain (zx_52 _ _ _ _ (ints M0) (ints M1) (ints M2)))) (.nextF k14_0 ((startF_seg k14_0 (z0_53 _ _ _ _ (ints M0) (ints M1) (ints M2)) g3).trans (nextF_done k14_0 roundD_plain (zx_53 _ _ _ _ (ints M0) (ints M1) (ints M2) (ints M3)))) (.nextF k14_0 ((startF_seg k14_0 (z0_54 _ _ _ _ (ints M0) (ints M1) (ints M2) (ints M3)) g4).trans (nextF_done k14_0 roundD_plain (zx_54 _ _ _ _ (ints M0) (ints M1) (ints M2) (ints M3) (ints M4)))) (.out k14_0 (by simp) (zo_5 _ _ _ _ (ints M0) (ints M1) (ints M2) (ints M3) (ints M4)))))))
theorem c14F (Y : List (List Int × Bool)) (c z : Bool) : ∃ k M, 1 ≤ k ∧ k ≤ 5 ∧ matB k M ∧ CallOK Try.prog 14 [.d (.sl (rowsD Y) Y.length 1 c z), .d (iD 5)] [] (AV.grow 0 1 false) (Hm (M.map ints)) := by
  have hk : ∃ k : Nat, 1 ≤ k ∧ k ≤ 5 ∧ (if (bif false then if (5 : Int) > (Y.length : Int) then (5 : Int) else (Y.length : Int) else if (5 : Int) < (Y.length : Int) then (5 : Int) else (Y.length : Int)) > 1 then if (5 : Int) < (Y.length : Int) then (5 : Int) else (Y.length : Int) else 1) = (k : Int) := by
    refine ⟨max 1 (min 5 Y.length), by omega, by omega, ?_⟩
    simp only [cond_false]
    split <;> (split <;> omega)
  obtain ⟨k, k1, k2, ke⟩ := hk
  have hh := z14_h (rowsD Y) Y.length c z 5
  rw [ke] at hh
  have h5 : k = 1 ∨ k = 2 ∨ k = 3 ∨ k = 4 ∨ k = 5 := by omega
  rcases h5 with rfl | rfl | rfl | rfl | rfl
  · obtain ⟨M, q1, q2⟩ := c14F_1 Y c z
    obtain ⟨r0, rfl⟩ := len1 q1.1
    exact ⟨1, _, by omega, by omega, q1, ae_call6 EvOK.nil (fn := Try.f14) k14 (by kernel_rfl) (by kernel_rfl) ((startF_seg k14 hh q2).trans (nextF_done k14 done_plain (ze_1 (ints r0))))⟩
  · obtain ⟨M, q1, q2⟩ := c14F_2 Y c z
    obtain ⟨r0, r1, rfl⟩ := len2 q1.1
    exact ⟨2, _, by omega, by omega, q1, ae_call6 EvOK.nil (fn := Try.f14) k14 (by kernel_rfl) (by kernel_rfl) ((startF_seg k14 hh q2).trans (nextF_done k14 done_plain (ze_2 (ints r0) (ints r1))))⟩
  · obtain ⟨M, q1, q2⟩ := c14F_3 Y c z
    obtain ⟨r0, r1, r2, rfl⟩ := len3 q1.1
    exact ⟨3, _, by omega, by omega, q1, ae_call6 EvOK.nil (fn := Try.f14) k14 (by kernel_rfl) (by kernel_rfl) ((startF_seg k14 hh q2).trans (nextF_done k14 done_plain (ze_3 (ints r0) (ints r1) (ints r2))))⟩
  · obtain ⟨M, q1, q2⟩ := c14F_4 Y c z
    obtain ⟨r0, r1, r2, r3, rfl⟩ := len4 q1.1
    exact ⟨4, _, by omega, by omega, q1, ae_call6 EvOK.nil (fn := Try.f14) k14 (by kernel_rfl) (by kernel_rfl) ((startF_seg k14 hh q2).trans (nextF_done k14 done_plain (ze_4 (ints r0) (ints r1) (ints r2) (ints r3))))⟩
  · obtain ⟨M, q1, q2⟩ := c14F_5 Y c z
    obtain ⟨r0, r1, r2, r3, r4, rfl⟩ := len5 q1.1
    exact ⟨5, _, by omega, by omega, q1, ae_call6 EvOK.nil (fn := Try.f14) k14 (by kernel_rfl) (by kernel_rfl) ((startF_seg k14 hh q2).trans (nextF_done k14 done_plain (ze_5 (ints r0) (ints r1) (ints r2) (ints r3) (ints r4))))⟩
end Go.Proofs.Ytjfopbpkophoeaa

/- Chapter 06: law 10 on data. Written by wip/tools/genE5.py. -/
namespace Go.Proofs.Ytjfopbpkophoeaa
open Go Go.AE
set_option maxRecDepth 100000
theorem fz10_ok {k : Nat} {M : List (List Int)} (hM : matB k M) (h1 : 1 ≤ k) (h5 : k ≤ 5) (s t : Int) : fz10 (M.map ints) s t = some [matD M, iD s, iD t] := by
  rcases mat_forms hM h1 h5 with ⟨rfl, x00, rfl⟩ | ⟨rfl, x00, x01, x10, x11, rfl⟩ | ⟨rfl, x00, x01, x02, x10, x11, x12, x20, x21, x22, rfl⟩ | ⟨rfl, x00, x01, x02, x03, x10, x11, x12, x13, x20, x21, x22, x23, x30, x31, x32, x33, rfl⟩ | ⟨rfl, x00, x01, x02, x03, x04, x10, x11, x12, x13, x14, x20, x21, x22, x23, x24, x30, x31, x32, x33, x34, x40, x41, x42, x43, x44, rfl⟩
  · kernel_rfl
  · kernel_rfl
  · kernel_rfl
  · kernel_rfl
  · kernel_rfl
def unRow : DV → List Int
  | .sl cs _ _ _ _ => unI cs
  | _ => []
def argM : List DV → List (List Int)
  | .sl rs _ _ _ _ :: _ => rs.map unRow
  | _ => []
def argI (i : Nat) (ds : List DV) : Int := match nth ds i with
  | some (.int _ n) => n
  | _ => 0
theorem argM_mat (M : List (List Int)) (r : List DV) : argM (matD M :: r) = M := by
  show (M.map rowD).map unRow = M
  rw [List.map_map]
  have : (unRow ∘ rowD) = id := by funext l; exact unI_ints l
  rw [this, List.map_id]
def cz (M : List (List Int)) (s t : Int) : Bool := decide (code10 M s t = 0)
def tbF {α : Type} (f : List (List Int) → Int → Int → α) (ds : List DV) : α := f (argM ds) (argI 1 ds) (argI 2 ds)
theorem tbF_at {α : Type} (f : List (List Int) → Int → Int → α) (M : List (List Int)) (s t : Int) : tbF f [matD M, iD s, iD t] = f M s t := by
  show f (argM _) s t = _
  rw [argM_mat]
def tb10 : T10 where
  Y := tbF fun M s t => bif cz M s t then (mergeM M s.toNat t.toNat).map rowD else []
  N := tbF fun M s t => bif cz M s t then (mergeM M s.toNat t.toNat).length else 0
  Z := tbF fun M s t => bif cz M s t then 1 else 0
  L := tbF fun M s t => !cz M s t
  E := tbF code10
  C := tbF fun M s t => eqC s.toNat t.toNat M
  V := tbF fun M s t => bif fitB M s.toNat t.toNat then (mergeM M s.toNat t.toNat).map rowD else []
  W := tbF fun M s t => bif fitB M s.toNat t.toNat then (mergeM M s.toNat t.toNat).length else 0
  X := tbF fun M s t => bif fitB M s.toNat t.toNat then 1 else 0
  U := tbF fun M s t => !fitB M s.toNat t.toNat
  O := tbF fun M s t => fitB M s.toNat t.toNat
  S := fun _ => true
theorem tY (M : List (List Int)) (s t : Int) : tb10.Y [matD M, iD s, iD t] = bif cz M s t then (mergeM M s.toNat t.toNat).map rowD else [] := by simp only [tb10, tbF_at]
theorem tN (M : List (List Int)) (s t : Int) : tb10.N [matD M, iD s, iD t] = bif cz M s t then (mergeM M s.toNat t.toNat).length else 0 := by simp only [tb10, tbF_at]
theorem tZ (M : List (List Int)) (s t : Int) : tb10.Z [matD M, iD s, iD t] = bif cz M s t then 1 else 0 := by simp only [tb10, tbF_at]
theorem tL (M : List (List Int)) (s t : Int) : tb10.L [matD M, iD s, iD t] = !cz M s t := by simp only [tb10, tbF_at]
theorem tE (M : List (List Int)) (s t : Int) : tb10.E [matD M, iD s, iD t] = code10 M s t := by simp only [tb10, tbF_at]
theorem tC (M : List (List Int)) (s t : Int) : tb10.C [matD M, iD s, iD t] = eqC s.toNat t.toNat M := by simp only [tb10, tbF_at]
theorem tV (M : List (List Int)) (s t : Int) : tb10.V [matD M, iD s, iD t] = bif fitB M s.toNat t.toNat then (mergeM M s.toNat t.toNat).map rowD else [] := by simp only [tb10, tbF_at]
theorem tW' (M : List (List Int)) (s t : Int) : tb10.W [matD M, iD s, iD t] = bif fitB M s.toNat t.toNat then (mergeM M s.toNat t.toNat).length else 0 := by simp only [tb10, tbF_at]
theorem tX (M : List (List Int)) (s t : Int) : tb10.X [matD M, iD s, iD t] = bif fitB M s.toNat t.toNat then 1 else 0 := by simp only [tb10, tbF_at]
theorem tU (M : List (List Int)) (s t : Int) : tb10.U [matD M, iD s, iD t] = !fitB M s.toNat t.toNat := by simp only [tb10, tbF_at]
theorem tO (M : List (List Int)) (s t : Int) : tb10.O [matD M, iD s, iD t] = fitB M s.toNat t.toNat := by simp only [tb10, tbF_at]
noncomputable abbrev okT : Nat → List DV → Bool := okS (i10 tb10)
theorem i44 (M : List (List Int)) (s t : Int) : i10 tb10 44 [matD M, iD s, iD t] = mergeD M s t := by
  show DV.tup [.sl (tb10.Y _) (tb10.N _) (tb10.Z _) false (tb10.L _), iD (tb10.E _)] = _
  rw [tY, tN, tZ, tL, tE]
  unfold mergeD mD
  by_cases h : code10 M s t = 0
  · have hc : cz M s t = true := decide_eq_true h
    rw [hc, h]; rfl
  · have hc : cz M s t = false := decide_eq_false h
    rw [hc, decide_eq_false h]; rfl
theorem i46 (M : List (List Int)) (s t : Nat) : i10 tb10 46 [matD M, iD (s : Int), iD (t : Int)] = .tup [bif fitB M s t then matD (mergeM M s t) else z0, bD (fitB M s t)] := by
  show DV.tup [.sl (tb10.V _) (tb10.W _) (tb10.X _) false (tb10.U _), bD (tb10.O _)] = _
  rw [tV, tW', tX, tU, tO]
  simp only [Int.toNat_natCast]
  cases fitB M s t <;> rfl
theorem cd_bad {M : List (List Int)} {s t : Int} (h : badST M.length s t = true) : code10 M s t = 1 := by unfold code10; rw [h]; rfl
theorem cd_in {M : List (List Int)} {s t : Nat} (h : badST M.length s t = false) : code10 M s t = bif !eqC s t M then 4 else bif !fitB M s t then 8 else 0 := by unfold code10 fitB; rw [h, Bool.not_not]; rfl
theorem Q10_ok {X : Type} {k : Nat} {M : List (List Int)} (hM : matB k M) (h1 : 1 ≤ k) (h5 : k ≤ 5) (s t : Int) (cont bad : Option X) : Q10 okT tb10 (fz10 (M.map ints) s t) k s t cont bad = cont := by
  rw [fz10_ok hM h1 h5]
  unfold Q10
  have g44 : okT 44 [matD M, iD s, iD t] = true := okS_is (by rw [i44]; exact c44 hM h1 h5 s t)
  have hL : (tb10.L [matD M, iD s, iD t] || Nat.beq (tb10.Z [matD M, iD s, iD t]) 1) = true := by
    rw [tL, tZ]
    cases cz M s t <;> rfl
  have hE : tb10.E [matD M, iD s, iD t] = code10 M s t := tE ..
  have hN : code10 M s t ≠ 0 → (tb10.N [matD M, iD s, iD t] : Int) = 0 := fun h => by
    have hc : cz M s t = false := decide_eq_false h
    rw [tN, hc]; rfl
  simp only [Option.bind_some, g44, hL, cond_true, hE]
  have one : ∀ e : Int, e ≠ 0 → code10 M s t = e → (bif !decide (code10 M s t = e) then bad else bif !decide ((tb10.N [matD M, iD s, iD t] : Int) = 0) then bad else cont) = cont := fun e he hc => by
    rw [hc, hN (by rw [hc]; exact he), decide_eq_true (rfl : e = e), decide_eq_true (rfl : (0 : Int) = 0)]; rfl
  cases hb : badST M.length s t with
  | true =>
    have o1 := one 1 (by decide) (cd_bad hb)
    rw [o1]
    rw [hM.1] at hb
    unfold badST at hb
    cases q1 : decide (s < 0)
    · cases q2 : decide (t ≤ s)
      · rw [q1, q2, Bool.false_or, Bool.false_or] at hb
        rw [hb]; rfl
      · rfl
    · rfl
  | false =>
    obtain ⟨i, j, rfl, rfl, hi, hj⟩ := badST_no hb
    have hc := cd_in hb
    rw [hM.1] at hj
    have q1 : decide ((i : Int) < 0) = false := decide_eq_false (by omega)
    have q2 : decide ((j : Int) ≤ (i : Int)) = false := decide_eq_false (by omega)
    have q3 : decide ((k : Int) ≤ (j : Int)) = false := decide_eq_false (by omega)
    have g45 : okT 45 [matD M, iD (i : Int), iD (j : Int)] = true := okS_is (by
      show PureOK Try.prog 45 _ (bD (tb10.C _))
      rw [tC, Int.toNat_natCast, Int.toNat_natCast]
      exact c45 hM h1 h5 hi hj)
    have g46 : okT 46 [matD M, iD (i : Int), iD (j : Int)] = true := okS_is (by rw [i46]; exact c46 hM h1 h5 hi hj)
    have hC : tb10.C [matD M, iD (i : Int), iD (j : Int)] = eqC i j M := by
      rw [tC, Int.toNat_natCast, Int.toNat_natCast]
    have hO : tb10.O [matD M, iD (i : Int), iD (j : Int)] = fitB M i j := by
      rw [tO, Int.toNat_natCast, Int.toNat_natCast]
    have hU : (tb10.U [matD M, iD (i : Int), iD (j : Int)] || Nat.beq (tb10.X [matD M, iD (i : Int), iD (j : Int)]) 1) = true := by
      rw [tU, tX]
      cases fitB M ((i : Int)).toNat ((j : Int)).toNat <;> rfl
    simp only [q1, q2, q3, cond_false, g45, cond_true, hC]
    cases he : eqC i j M with
    | false =>
      rw [he] at hc
      exact one 4 (by decide) hc
    | true =>
      simp only [Bool.not_true, cond_false, g46, cond_true, hU, hO]
      cases hf : fitB M i j with
      | false =>
        rw [he, hf] at hc
        exact one 8 (by decide) hc
      | true =>
        rw [he, hf] at hc
        have hc0 : code10 M i j = 0 := hc
        have hz : cz M i j = true := decide_eq_true hc0
        have g41 : okT 41 [DV.sl (tb10.Y [matD M, iD (i : Int), iD (j : Int)]) (tb10.N [matD M, iD (i : Int), iD (j : Int)]) 1 false (tb10.L [matD M, iD (i : Int), iD (j : Int)]), DV.sl (tb10.V [matD M, iD (i : Int), iD (j : Int)]) (tb10.W [matD M, iD (i : Int), iD (j : Int)]) 1 false (tb10.U [matD M, iD (i : Int), iD (j : Int)])] = true := okS_is (by
          rw [tY, tN, tL, tV, tW', tU]
          simp only [hz, Int.toNat_natCast, hf]
          obtain ⟨z1, z2⟩ := merge_size hM h5 i j
          exact c41 z1 z2)
        rw [hc0, g41]
        rfl
def W3 {X : Type} (k : Nat) (s t : Int) (R : List DV) (f : List DV → Option X) : Option X := bif inRange s k && true then (getI (nth R (0 + s.toNat * 1)) fun x0 => bif inRange t k && true then (bif Nat.ble (0 + t.toNat * 1 + 1) R.length && true then f (setNth R (0 + t.toNat * 1) (iD x0)) else none) else none) else none
theorem W3_ok {X : Type} {k s t : Nat} (hs : s < k) (ht : t < k) {r : List Int} (hr : r.length = k) (f : List DV → Option X) : W3 k (s : Int) (t : Int) (ints r) f = f (ints (r.set t (r.getD s 0))) := by
  unfold W3
  have i1 : (inRange (s : Int) k && true) = true := by simp [inRange]; omega
  have i2 : (inRange (t : Int) k && true) = true := by simp [inRange]; omega
  have i3 : (Nat.ble (0 + t + 1) (ints r).length && true) = true := by rw [len_ints, Bool.and_true]; exact Nat.ble_eq_true_of_le (by omega)
  rw [i1]
  simp only [Int.toNat_natCast, Nat.mul_one, cond_true, Nat.zero_add]
  rw [nth_ints_o (by omega), getI_some, i2]
  simp only [Nat.zero_add] at i3
  simp only [cond_true, i3, setNth_ints_o]
theorem s2_ok {k : Nat} (h2 : 2 ≤ k) (h5 : k ≤ 5) (s : Int) : ∃ a : Nat, s2 k s = a ∧ a + 1 < k ∧ decide (IntKind.wrap IntKind.u64 (IntKind.wrap IntKind.i64 ((k : Int) - 1)) = 0) = false := by
  have hk : IntKind.wrap IntKind.i64 ((k : Int) - 1) = (k : Int) - 1 := wrap64_o (by omega) (by omega)
  have hu : IntKind.wrap IntKind.u64 ((k : Int) - 1) = (k : Int) - 1 := by rw [wrapU_eq]; omega
  have h0 : 0 ≤ IntKind.wrap .u64 s := by rw [wrapU_eq]; omega
  have hm : Int.tmod (IntKind.wrap .u64 s) ((k : Int) - 1) = (IntKind.wrap .u64 s) % ((k : Int) - 1) := Int.tmod_eq_emod_of_nonneg h0
  have m1 := Int.emod_nonneg (IntKind.wrap .u64 s) (show ((k : Int) - 1) ≠ 0 by omega)
  have m2 := Int.emod_lt_of_pos (IntKind.wrap .u64 s) (show (0 : Int) < (k : Int) - 1 by omega)
  refine ⟨((IntKind.wrap .u64 s) % ((k : Int) - 1)).toNat, ?_, by omega, ?_⟩
  · unfold s2
    rw [hk, hu, hm, wrap64_o (by omega) (by omega)]; omega
  · rw [hk, hu]; exact decide_eq_false (by omega)
theorem t2_ok {k a : Nat} (h5 : k ≤ 5) {s t : Int} (hs : s2 k s = a) (ha : a + 1 < k) : ∃ b : Nat, t2 k s t = b ∧ a < b ∧ b < k ∧ decide (IntKind.wrap IntKind.u64 (IntKind.wrap IntKind.i64 (IntKind.wrap IntKind.i64 ((k : Int) - 1) - s2 k s)) = 0) = false := by
  have hk : IntKind.wrap IntKind.i64 ((k : Int) - 1) = (k : Int) - 1 := wrap64_o (by omega) (by omega)
  have hd : IntKind.wrap IntKind.i64 ((k : Int) - 1 - a) = (k : Int) - 1 - a := wrap64_o (by omega) (by omega)
  have hu : IntKind.wrap IntKind.u64 ((k : Int) - 1 - a) = (k : Int) - 1 - a := by rw [wrapU_eq]; omega
  have h0 : 0 ≤ IntKind.wrap .u64 t := by rw [wrapU_eq]; omega
  have hm : Int.tmod (IntKind.wrap .u64 t) ((k : Int) - 1 - a) = (IntKind.wrap .u64 t) % ((k : Int) - 1 - a) := Int.tmod_eq_emod_of_nonneg h0
  have m1 := Int.emod_nonneg (IntKind.wrap .u64 t) (show ((k : Int) - 1 - a) ≠ 0 by omega)
  have m2 := Int.emod_lt_of_pos (IntKind.wrap .u64 t) (show (0 : Int) < (k : Int) - 1 - a by omega)
  refine ⟨(a + 1 + (IntKind.wrap .u64 t) % ((k : Int) - 1 - a)).toNat, ?_, by omega, by omega, ?_⟩
  · unfold t2
    rw [hs, hk, hd, hu, hm, wrap64_o (n := (a : Int) + 1) (by omega) (by omega), wrap64_o (n := IntKind.wrap IntKind.u64 t % _) (by omega) (by omega), wrap64_o (by omega) (by omega)]
    omega
  · rw [hs, hk, hd, hu]; exact decide_eq_false (by omega)
theorem set_mat {k : Nat} {M : List (List Int)} (hM : matB k M) {a b : Nat} (ha : a < k) : matB k (M.map fun r => r.set b (r.getD a 0)) := by
  refine ⟨by rw [List.length_map]; exact hM.1, fun r hr => ?_⟩
  obtain ⟨r', h1, rfl⟩ := List.mem_map.1 hr
  obtain ⟨h2, h3⟩ := hM.2 r' h1
  refine ⟨by rw [List.length_set]; exact h2, smallB_mk fun x hx => ?_⟩
  rcases List.mem_or_eq_of_mem_set hx with h4 | rfl
  · exact smallB_at h3 x h4
  · refine smallB_at h3 _ ?_
    rw [List.getD_eq_getElem?_getD, List.getElem?_eq_getElem (by omega)]
    exact List.getElem_mem _
theorem two_no {X : Type} {b c : Bool} {x : Option X} (h1 : b = false) (h2 : c = false) : (bif b then none else bif c then none else x) = x := by rw [h1, h2]; rfl
section
variable {F : List (Nat × RuleF)}

theorem law10_1 {M : List (List Int)} (hM : matB 1 M) (s t : Int) : LoopAt aeC6 (ev10 okT tb10 F) 10 0 Try.f10 0 (q10 s t 0 (Hm (M.map ints))) (.exit 0) ⟨[], [], []⟩ := by
  obtain ⟨r0, rfl⟩ := len1 hM.1
  exact .out k10_0 (by simp) ((t10_r1 okT tb10 F s t 0 (ints r0)).trans (Q10_ok hM (by decide) (by decide) s t _ _))
theorem t10_3_20 (ok : Nat → List DV → Bool) (T : T10) (F : List (Nat × RuleF)) (s t i : Int) (R0 R1 : List DV) : startS aeC6 (ev10 ok T F) 10 0 Try.f10 (some 3) (q103 s t i 0 (Hm [R0, R1])) (roundD aeC6 10 0 3) = W3 2 s t R0 fun R' => some (Ex.norm, q103 s t i 1 (Hm [R', R1])) := by kernel_rfl
theorem t10_3_21 (ok : Nat → List DV → Bool) (T : T10) (F : List (Nat × RuleF)) (s t i : Int) (R0 R1 : List DV) : startS aeC6 (ev10 ok T F) 10 0 Try.f10 (some 3) (q103 s t i 1 (Hm [R0, R1])) (roundD aeC6 10 0 3) = W3 2 s t R1 fun R' => some (Ex.norm, q103 s t i 2 (Hm [R0, R'])) := by kernel_rfl
theorem t10_3x_2 (ok : Nat → List DV → Bool) (T : T10) (F : List (Nat × RuleF)) (s t i : Int) (R0 R1 : List DV) : startS aeC6 (ev10 ok T F) 10 0 Try.f10 (some 3) (q103 s t i 2 (Hm [R0, R1])) (roundD aeC6 10 0 3) = some (Ex.exit 3, ⟨[(1, .d (iD s)), (2, .d (iD t)), (7, AV.grow 0 1 false), (8, .d (iD i))], (Hm [R0, R1]), []⟩) := by kernel_rfl
theorem r10_2 {M : List (List Int)} (hM : matB 2 M) (s t i : Int) (hi : i < 2) : ∃ s' t' M', matB 2 M' ∧ startF aeC6 (ev10 okT tb10 F) 10 0 Try.f10 (some 0) (q10 s t i (Hm (M.map ints))) (roundD aeC6 10 0 0) = some (.norm, q10 s' t' (IntKind.wrap .i64 (i + 1)) (Hm (M'.map ints))) := by
  obtain ⟨r0, r1, rfl⟩ := len2 hM.1
  obtain ⟨a, hs, ha1, hg1⟩ := s2_ok (k := 2) (by decide) (by decide) s
  obtain ⟨b, ht, hab, hb, hg2⟩ := t2_ok (k := 2) (by decide) (t := t) hs ha1
  have ha : a < 2 := by omega
  have hr := (t10_r2 okT tb10 F s t i (ints r0) (ints r1)).trans ((cnd_pos hi).trans ((Q10_ok hM (by decide) (by decide) s t _ _).trans (two_no hg1 hg2)))
  rw [hs, ht] at hr
  have hl : LoopAt aeC6 (ev10 okT tb10 F) 10 0 Try.f10 3 (q103 (a : Int) (b : Int) i 0 (Hm [ints r0, ints r1])) (.exit 3) ⟨[(1, .d (iD (a : Int))), (2, .d (iD (b : Int))), (7, AV.grow 0 1 false), (8, .d (iD i))], (Hm [ints (r0.set b (r0.getD a 0)), ints (r1.set b (r1.getD a 0))]), []⟩ := .next k10_3 ((t10_3_20 _ _ _ _ _ _ (ints r0) (ints r1)).trans (W3_ok ha hb (hM.2 r0 (by simp)).1 _)) (.next k10_3 ((t10_3_21 _ _ _ _ _ _ (ints (r0.set b (r0.getD a 0))) (ints r1)).trans (W3_ok ha hb (hM.2 r1 (by simp)).1 _)) (.out k10_3 (by simp) (t10_3x_2 _ _ _ _ _ _ (ints (r0.set b (r0.getD a 0))) (ints (r1.set b (r1.getD a 0))))))
  exact ⟨a, b, _, set_mat hM (b := b) ha, (startF_seg k10_0 hr hl).trans (nextF_done k10_0 roundD_plain (t10_x2 _ _ _ _ _ _ (ints (r0.set b (r0.getD a 0))) (ints (r1.set b (r1.getD a 0)))))⟩
theorem law10_2 {M : List (List Int)} (hM : matB 2 M) (s t : Int) : LoopAt aeC6 (ev10 okT tb10 F) 10 0 Try.f10 0 (q10 s t 0 (Hm (M.map ints))) (.exit 0) ⟨[], [], []⟩ := by
  obtain ⟨s1, t1, M1, hM1, e1⟩ := r10_2 (F := F) hM s t 0 (by decide)
  obtain ⟨s2, t2, M2, hM2, e2⟩ := r10_2 (F := F) hM1 s1 t1 1 (by decide)
  obtain ⟨r0, r1, rfl⟩ := len2 hM2.1
  exact .nextF k10_0 e1 (.nextF k10_0 e2 (.out k10_0 (by simp) (t10_o2 okT tb10 F s2 t2 (ints r0) (ints r1))))
theorem t10_3_30 (ok : Nat → List DV → Bool) (T : T10) (F : List (Nat × RuleF)) (s t i : Int) (R0 R1 R2 : List DV) : startS aeC6 (ev10 ok T F) 10 0 Try.f10 (some 3) (q103 s t i 0 (Hm [R0, R1, R2])) (roundD aeC6 10 0 3) = W3 3 s t R0 fun R' => some (Ex.norm, q103 s t i 1 (Hm [R', R1, R2])) := by kernel_rfl
theorem t10_3_31 (ok : Nat → List DV → Bool) (T : T10) (F : List (Nat × RuleF)) (s t i : Int) (R0 R1 R2 : List DV) : startS aeC6 (ev10 ok T F) 10 0 Try.f10 (some 3) (q103 s t i 1 (Hm [R0, R1, R2])) (roundD aeC6 10 0 3) = W3 3 s t R1 fun R' => some (Ex.norm, q103 s t i 2 (Hm [R0, R', R2])) := by kernel_rfl
theorem t10_3_32 (ok : Nat → List DV → Bool) (T : T10) (F : List (Nat × RuleF)) (s t i : Int) (R0 R1 R2 : List DV) : startS aeC6 (ev10 ok T F) 10 0 Try.f10 (some 3) (q103 s t i 2 (Hm [R0, R1, R2])) (roundD aeC6 10 0 3) = W3 3 s t R2 fun R' => some (Ex.norm, q103 s t i 3 (Hm [R0, R1, R'])) := by kernel_rfl
theorem t10_3x_3 (ok : Nat → List DV → Bool) (T : T10) (F : List (Nat × RuleF)) (s t i : Int) (R0 R1 R2 : List DV) : startS aeC6 (ev10 ok T F) 10 0 Try.f10 (some 3) (q103 s t i 3 (Hm [R0, R1, R2])) (roundD aeC6 10 0 3) = some (Ex.exit 3, ⟨[(1, .d (iD s)), (2, .d (iD t)), (7, AV.grow 0 1 false), (8, .d (iD i))], (Hm [R0, R1, R2]), []⟩) := by kernel_rfl
theorem r10_3 {M : List (List Int)} (hM : matB 3 M) (s t i : Int) (hi : i < 2) : ∃ s' t' M', matB 3 M' ∧ startF aeC6 (ev10 okT tb10 F) 10 0 Try.f10 (some 0) (q10 s t i (Hm (M.map ints))) (roundD aeC6 10 0 0) = some (.norm, q10 s' t' (IntKind.wrap .i64 (i + 1)) (Hm (M'.map ints))) := by
  obtain ⟨r0, r1, r2, rfl⟩ := len3 hM.1
  obtain ⟨a, hs, ha1, hg1⟩ := s2_ok (k := 3) (by decide) (by decide) s
  obtain ⟨b, ht, hab, hb, hg2⟩ := t2_ok (k := 3) (by decide) (t := t) hs ha1
  have ha : a < 3 := by omega
  have hr := (t10_r3 okT tb10 F s t i (ints r0) (ints r1) (ints r2)).trans ((cnd_pos hi).trans ((Q10_ok hM (by decide) (by decide) s t _ _).trans (two_no hg1 hg2)))
  rw [hs, ht] at hr
  have hl : LoopAt aeC6 (ev10 okT tb10 F) 10 0 Try.f10 3 (q103 (a : Int) (b : Int) i 0 (Hm [ints r0, ints r1, ints r2])) (.exit 3) ⟨[(1, .d (iD (a : Int))), (2, .d (iD (b : Int))), (7, AV.grow 0 1 false), (8, .d (iD i))], (Hm [ints (r0.set b (r0.getD a 0)), ints (r1.set b (r1.getD a 0)), ints (r2.set b (r2.getD a 0))]), []⟩ := .next k10_3 ((t10_3_30 _ _ _ _ _ _ (ints r0) (ints r1) (ints r2)).trans (W3_ok ha hb (hM.2 r0 (by simp)).1 _)) (.next k10_3 ((t10_3_31 _ _ _ _ _ _ (ints (r0.set b (r0.getD a 0))) (ints r1) (ints r2)).trans (W3_ok ha hb (hM.2 r1 (by simp)).1 _)) (.next k10_3 ((t10_3_32 _ _ _ _ _ _ (ints (r0.set b (r0.getD a 0))) (ints (r1.set b (r1.getD a 0))) (ints r2)).trans (W3_ok ha hb (hM.2 r2 (by simp)).1 _)) (.out k10_3 (by simp) (t10_3x_3 _ _ _ _ _ _ (ints (r0.set b (r0.getD a 0))) (ints (r1.set b (r1.getD a 0))) (ints (r2.set b (r2.getD a 0)))))))
  exact ⟨a, b, _, set_mat hM (b := b) ha, (startF_seg k10_0 hr hl).trans (nextF_done k10_0 roundD_plain (t10_x3 _ _ _ _ _ _ (ints (r0.set b (r0.getD a 0))) (ints (r1.set b (r1.getD a 0))) (ints (r2.set b (r2.getD a 0)))))⟩
theorem law10_3 {M : List (List Int)} (hM : matB 3 M) (s t : Int) : LoopAt aeC6 (ev10 okT tb10 F) 10 0 Try.f10 0 (q10 s t 0 (Hm (M.map ints))) (.exit 0) ⟨[], [], []⟩ := by
  obtain ⟨s1, t1, M1, hM1, e1⟩ := r10_3 (F := F) hM s t 0 (by decide)
  obtain ⟨s2, t2, M2, hM2, e2⟩ := r10_3 (F := F) hM1 s1 t1 1 (by decide)
  obtain ⟨r0, r1, r2, rfl⟩ := len3 hM2.1
  exact .nextF k10_0 e1 (.nextF k10_0 e2 (.out k10_0 (by simp) (t10_o3 okT tb10 F s2 t2 (ints r0) (ints r1) (ints r2))))
theorem t10_3_40 (ok : Nat → List DV → Bool) (T : T10) (F : List (Nat × RuleF)) (s t i : Int) (R0 R1 R2 R3 : List DV) : startS aeC6 (ev10 ok T F) 10 0 Try.f10 (some 3) (q103 s t i 0 (Hm [R0, R1, R2, R3])) (roundD aeC6 10 0 3) = W3 4 s t R0 fun R' => some (Ex.norm, q103 s t i 1 (Hm [R', R1, R2, R3])) := by kernel_rfl
theorem t10_3_41 (ok : Nat → List DV → Bool) (T : T10) (F : List (Nat × RuleF)) (s t i : Int) (R0 R1 R2 R3 : List DV) : startS aeC6 (ev10 ok T F) 10 0 Try.f10 (some 3) (q103 s t i 1 (Hm [R0, R1, R2, R3])) (roundD aeC6 10 0 3) = W3 4 s t R1 fun R' => some (Ex.norm, q103 s t i 2 (Hm [R0, R', R2, R3])) := by kernel_rfl
theorem t10_3_42 (ok : Nat → List DV → Bool) (T : T10) (F : List (Nat × RuleF)) (s t i : Int) (R0 R1 R2 R3 : List DV) : startS aeC6 (ev10 ok T F) 10 0 Try.f10 (some 3) (q103 s t i 2 (Hm [R0, R1, R2, R3])) (roundD aeC6 10 0 3) = W3 4 s t R2 fun R' => some (Ex.norm, q103 s t i 3 (Hm [R0, R1, R', R3])) := by kernel_rfl
theorem t10_3_43 (ok : Nat → List DV → Bool) (T : T10) (F : List (Nat × RuleF)) (s t i : Int) (R0 R1 R2 R3 : List DV) : startS aeC6 (ev10 ok T F) 10 0 Try.f10 (some 3) (q103 s t i 3 (Hm [R0, R1, R2, R3])) (roundD aeC6 10 0 3) = W3 4 s t R3 fun R' => some (Ex.norm, q103 s t i 4 (Hm [R0, R1, R2, R'])) := by kernel_rfl
theorem t10_3x_4 (ok : Nat → List DV → Bool) (T : T10) (F : List (Nat × RuleF)) (s t i : Int) (R0 R1 R2 R3 : List DV) : startS aeC6 (ev10 ok T F) 10 0 Try.f10 (some 3) (q103 s t i 4 (Hm [R0, R1, R2, R3])) (roundD aeC6 10 0 3) = some (Ex.exit 3, ⟨[(1, .d (iD s)), (2, .d (iD t)), (7, AV.grow 0 1 false), (8, .d (iD i))], (Hm [R0, R1, R2, R3]), []⟩) := by kernel_rfl
theorem r10_4 {M : List (List Int)} (hM : matB 4 M) (s t i : Int) (hi : i < 2) : ∃ s' t' M', matB 4 M' ∧ startF aeC6 (ev10 okT tb10 F) 10 0 Try.f10 (some 0) (q10 s t i (Hm (M.map ints))) (roundD aeC6 10 0 0) = some (.norm, q10 s' t' (IntKind.wrap .i64 (i + 1)) (Hm (M'.map ints))) := by
  obtain ⟨r0, r1, r2, r3, rfl⟩ := len4 hM.1
  obtain ⟨a, hs, ha1, hg1⟩ := s2_ok (k := 4) (by decide) (by decide) s
  obtain ⟨b, ht, hab, hb, hg2⟩ := t2_ok (k := 4) (by decide) (t := t) hs ha1
  have ha : a < 4 := by omega
  have hr := (t10_r4 okT tb10 F s t i (ints r0) (ints r1) (ints r2) (ints r3)).trans ((cnd_pos hi).trans ((Q10_ok hM (by decide) (by decide) s t _ _).trans (two_no hg1 hg2)))
  rw [hs, ht] at hr
  have hl : LoopAt aeC6 (ev10 okT tb10 F) 10 0 Try.f10 3 (q103 (a : Int) (b : Int) i 0 (Hm [ints r0, ints r1, ints r2, ints r3])) (.exit 3) ⟨[(1, .d (iD (a : Int))), (2, .d (iD (b : Int))), (7, AV.grow 0 1 false), (8, .d (iD i))], (Hm [ints (r0.set b (r0.getD a 0)), ints (r1.set b (r1.getD a 0)), ints (r2.set b (r2.getD a 0)), ints (r3.set b (r3.getD a 0))]), []⟩ := .next k10_3 ((t10_3_40 _ _ _ _ _ _ (ints r0) (ints r1) (ints r2) (ints r3)).trans (W3_ok ha hb (hM.2 r0 (by simp)).1 _)) (.next k10_3 ((t10_3_41 _ _ _ _ _ _ (ints (r0.set b (r0.getD a 0))) (ints r1) (ints r2) (ints r3)).trans (W3_ok ha hb (hM.2 r1 (by simp)).1 _)) (.next k10_3 ((t10_3_42 _ _ _ _ _ _ (ints (r0.set b (r0.getD a 0))) (ints (r1.set b (r1.getD a 0))) (ints r2) (ints r3)).trans (W3_ok ha hb (hM.2 r2 (by simp)).1 _)) (.next k10_3 ((t10_3_43 _ _ _ _ _ _ (ints (r0.set b (r0.getD a 0))) (ints (r1.set b (r1.getD a 0))) (ints (r2.set b (r2.getD a 0))) (ints r3)).trans (W3_ok ha hb (hM.2 r3 (by simp)).1 _)) (.out k10_3 (by simp) (t10_3x_4 _ _ _ _ _ _ (ints (r0.set b (r0.getD a 0))) (ints (r1.set b (r1.getD a 0))) (ints (r2.set b (r2.getD a 0))) (ints (r3.set b (r3.getD a 0))))))))
  exact ⟨a, b, _, set_mat hM (b := b) ha, (startF_seg k10_0 hr hl).trans (nextF_done k10_0 roundD_plain (t10_x4 _ _ _ _ _ _ (ints (r0.set b (r0.getD a 0))) (ints (r1.set b (r1.getD a 0))) (ints (r2.set b (r2.getD a 0))) (ints (r3.set b (r3.getD a 0)))))⟩
theorem law10_4 {M : List (List Int)} (hM : matB 4 M) (s t : Int) : LoopAt aeC6 (ev10 okT tb10 F) 10 0 Try.f10 0 (q10 s t 0 (Hm (M.map ints))) (.exit 0) ⟨[], [], []⟩ := by
  obtain ⟨s1, t1, M1, hM1, e1⟩ := r10_4 (F := F) hM s t 0 (by decide)
  obtain ⟨s2, t2, M2, hM2, e2⟩ := r10_4 (F := F) hM1 s1 t1 1 (by decide)
  obtain ⟨r0, r1, r2, r3, rfl⟩ := len4 hM2.1
  exact .nextF k10_0 e1 (.nextF k10_0 e2 (.out k10_0 (by simp) (t10_o4 okT tb10 F s2 t2 (ints r0) (ints r1) (ints r2) (ints r3))))
theorem t10_3_50 (ok : Nat → List DV → Bool) (T : T10) (F : List (Nat × RuleF)) (s t i : Int) (R0 R1 R2 R3 R4 : List DV) : startS aeC6 (ev10 ok T F) 10 0 Try.f10 (some 3) (q103 s t i 0 (Hm [R0, R1, R2, R3, R4])) (roundD aeC6 10 0 3) = W3 5 s t R0 fun R' => some (Ex.norm, q103 s t i 1 (Hm [R', R1, R2, R3, R4])) := by kernel_rfl
theorem t10_3_51 (ok : Nat → List DV → Bool) (T : T10) (F : List (Nat × RuleF)) (s t i : Int) (R0 R1 R2 R3 R4 : List DV) : startS aeC6 (ev10 ok T F) 10 0 Try.f10 (some 3) (q103 s t i 1 (Hm [R0, R1, R2, R3, R4])) (roundD aeC6 10 0 3) = W3 5 s t R1 fun R' => some (Ex.norm, q103 s t i 2 (Hm [R0, R', R2, R3, R4])) := by kernel_rfl
theorem t10_3_52 (ok : Nat → List DV → Bool) (T : T10) (F : List (Nat × RuleF)) (s t i : Int) (R0 R1 R2 R3 R4 : List DV) : startS aeC6 (ev10 ok T F) 10 0 Try.f10 (some 3) (q103 s t i 2 (Hm [R0, R1, R2, R3, R4])) (roundD aeC6 10 0 3) = W3 5 s t R2 fun R' => some (Ex.norm, q103 s t i 3 (Hm [R0, R1, R', R3, R4])) := by kernel_rfl
theorem t10_3_53 (ok : Nat → List DV → Bool) (T : T10) (F : List (Nat × RuleF)) (s t i : Int) (R0 R1 R2 R3 R4 : List DV) : startS aeC6 (ev10 ok T F) 10 0 Try.f10 (some 3) (q103 s t i 3 (Hm [R0, R1, R2, R3, R4])) (roundD aeC6 10 0 3) = W3 5 s t R3 fun R' => some (Ex.norm, q103 s t i 4 (Hm [R0, R1, R2, R', R4])) := by kernel_rfl
theorem t10_3_54 (ok : Nat → List DV → Bool) (T : T10) (F : List (Nat × RuleF)) (s t i : Int) (R0 R1 R2 R3 R4 : List DV) : startS aeC6 (ev10 ok T F) 10 0 Try.f10 (some 3) (q103 s t i 4 (Hm [R0, R1, R2, R3, R4])) (roundD aeC6 10 0 3) = W3 5 s t R4 fun R' => some (Ex.norm, q103 s t i 5 (Hm [R0, R1, R2, R3, R'])) := by kernel_rfl
theorem t10_3x_5 (ok : Nat → List DV → Bool) (T : T10) (F : List (Nat × RuleF)) (s t i : Int) (R0 R1 R2 R3 R4 : List DV) : startS aeC6 (ev10 ok T F) 10 0 Try.f10 (some 3) (q103 s t i 5 (Hm [R0, R1, R2, R3, R4])) (roundD aeC6 10 0 3) = some (Ex.exit 3, ⟨[(1, .d (iD s)), (2, .d (iD t)), (7, AV.grow 0 1 false), (8, .d (iD i))], (Hm [R0, R1, R2, R3, R4]), []⟩) := by kernel_rfl
theorem r10_5 {M : List (List Int)} (hM : matB 5 M) (s t i : Int) (hi : i < 2) : ∃ s' t' M', matB 5 M' ∧ startF aeC6 (ev10 okT tb10 F) 10 0 Try.f10 (some 0) (q10 s t i (Hm (M.map ints))) (roundD aeC6 10 0 0) = some (.norm, q10 s' t' (IntKind.wrap .i64 (i + 1)) (Hm (M'.map ints))) := by
  obtain ⟨r0, r1, r2, r3, r4, rfl⟩ := len5 hM.1
  obtain ⟨a, hs, ha1, hg1⟩ := s2_ok (k := 5) (by decide) (by decide) s
  obtain ⟨b, ht, hab, hb, hg2⟩ := t2_ok (k := 5) (by decide) (t := t) hs ha1
  have ha : a < 5 := by omega
  have hr := (t10_r5 okT tb10 F s t i (ints r0) (ints r1) (ints r2) (ints r3) (ints r4)).trans ((cnd_pos hi).trans ((Q10_ok hM (by decide) (by decide) s t _ _).trans (two_no hg1 hg2)))
  rw [hs, ht] at hr
  have hl : LoopAt aeC6 (ev10 okT tb10 F) 10 0 Try.f10 3 (q103 (a : Int) (b : Int) i 0 (Hm [ints r0, ints r1, ints r2, ints r3, ints r4])) (.exit 3) ⟨[(1, .d (iD (a : Int))), (2, .d (iD (b : Int))), (7, AV.grow 0 1 false), (8, .d (iD i))], (Hm [ints (r0.set b (r0.getD a 0)), ints (r1.set b (r1.getD a 0)), ints (r2.set b (r2.getD a 0)), ints (r3.set b (r3.getD a 0)), ints (r4.set b (r4.getD a 0))]), []⟩ := .next k10_3 ((t10_3_50 _ _ _ _ _ _ (ints r0) (ints r1) (ints r2) (ints r3) (ints r4)).trans (W3_ok ha hb (hM.2 r0 (by simp)).1 _)) (.next k10_3 ((t10_3_51 _ _ _ _ _ _ (ints (r0.set b (r0.getD a 0))) (ints r1) (ints r2) (ints r3) (ints r4)).trans (W3_ok ha hb (hM.2 r1 (by simp)).1 _)) (.next k10_3 ((t10_3_52 _ _ _ _ _ _ (ints (r0.set b (r0.getD a 0))) (ints (r1.set b (r1.getD a 0))) (ints r2) (ints r3) (ints r4)).trans (W3_ok ha hb (hM.2 r2 (by simp)).1 _)) (.next k10_3 ((t10_3_53 _ _ _ _ _ _ (ints (r0.set b (r0.getD a 0))) (ints (r1.set b (r1.getD a 0))) (ints (r2.set b (r2.getD a 0))) (ints r3) (ints r4)).trans (W3_ok ha hb (hM.2 r3 (by simp)).1 _)) (.next k10_3 ((t10_3_54 _ _ _ _ _ _ (ints (r0.set b (r0.getD a 0))) (ints (r1.set b (r1.getD a 0))) (ints (r2.set b (r2.getD a 0))) (ints (r3.set b (r3.getD a 0))) (ints r4)).trans (W3_ok ha hb (hM.2 r4 (by simp)).1 _)) (.out k10_3 (by simp) (t10_3x_5 _ _ _ _ _ _ (ints (r0.set b (r0.getD a 0))) (ints (r1.set b (r1.getD a 0))) (ints (r2.set b (r2.getD a 0))) (ints (r3.set b (r3.getD a 0))) (ints (r4.set b (r4.getD a 0)))))))))
  exact ⟨a, b, _, set_mat hM (b := b) ha, (startF_seg k10_0 hr hl).trans (nextF_done k10_0 roundD_plain (t10_x5 _ _ _ _ _ _ (ints (r0.set b (r0.getD a 0))) (ints (r1.set b (r1.getD a 0))) (ints (r2.set b (r2.getD a 0))) (ints (r3.set b (r3.getD a 0))) (ints (r4.set b (r4.getD a 0)))))⟩
theorem law10_5 {M : List (List Int)} (hM : matB 5 M) (s t : Int) : LoopAt aeC6 (ev10 okT tb10 F) 10 0 Try.f10 0 (q10 s t 0 (Hm (M.map ints))) (.exit 0) ⟨[], [], []⟩ := by
  obtain ⟨s1, t1, M1, hM1, e1⟩ := r10_5 (F := F) hM s t 0 (by decide)
  obtain ⟨s2, t2, M2, hM2, e2⟩ := r10_5 (F := F) hM1 s1 t1 1 (by decide)
  obtain ⟨r0, r1, r2, r3, r4, rfl⟩ := len5 hM2.1
  exact .nextF k10_0 e1 (.nextF k10_0 e2 (.out k10_0 (by simp) (t10_o5 okT tb10 F s2 t2 (ints r0) (ints r1) (ints r2) (ints r3) (ints r4))))
theorem law10_all {k : Nat} {M : List (List Int)} (hM : matB k M) (h1 : 1 ≤ k) (h5 : k ≤ 5) (s t : Int) : LoopAt aeC6 (ev10 okT tb10 F) 10 0 Try.f10 0 (q10 s t 0 (Hm (M.map ints))) (.exit 0) ⟨[], [], []⟩ := by
  have h : k = 1 ∨ k = 2 ∨ k = 3 ∨ k = 4 ∨ k = 5 := by omega
  rcases h with rfl | rfl | rfl | rfl | rfl
  · exact law10_1 hM s t
  · exact law10_2 hM s t
  · exact law10_3 hM s t
  · exact law10_4 hM s t
  · exact law10_5 hM s t
end
theorem F14_ok {a : DV} {v : AV} {H : List Blk} (h : CallOK Try.prog 14 [.d a, .d (iD 5)] [] v H) : RulesFOK Try.prog (F14 a v H) := ⟨oneF_ok h, trivial⟩
theorem head10 (a : DV) (s t : Int) {k : Nat} {M : List (List Int)} (hM : matB k M) (h1 : 1 ≤ k) (h5 : k ≤ 5) : startS aeC6 (ev10 okT tb10 (F14 a (AV.grow 0 1 false) (Hm (M.map ints)))) 10 0 Try.f10 none ⟨envOf 0 [.d a, .d (iD s), .d (iD t)], [], []⟩ (heldD aeC6 10 0) = some (0, q10 s t 0 (Hm (M.map ints))) := by
  have hi : (isAt [AV.d a, .d (iD 5)] [.d a, .d (iD 5)] && isAt ([] : List Blk) []) = true := by rw [isAt_self, isAt_self]; rfl
  have h : k = 1 ∨ k = 2 ∨ k = 3 ∨ k = 4 ∨ k = 5 := by omega
  rcases h with rfl | rfl | rfl | rfl | rfl
  · obtain ⟨r0, rfl⟩ := len1 hM.1
    exact (t10_h1 okT tb10 a s t (ints r0)).trans (by rw [hi]; rfl)
  · obtain ⟨r0, r1, rfl⟩ := len2 hM.1
    exact (t10_h2 okT tb10 a s t (ints r0) (ints r1)).trans (by rw [hi]; rfl)
  · obtain ⟨r0, r1, r2, rfl⟩ := len3 hM.1
    exact (t10_h3 okT tb10 a s t (ints r0) (ints r1) (ints r2)).trans (by rw [hi]; rfl)
  · obtain ⟨r0, r1, r2, r3, rfl⟩ := len4 hM.1
    exact (t10_h4 okT tb10 a s t (ints r0) (ints r1) (ints r2) (ints r3)).trans (by rw [hi]; rfl)
  · obtain ⟨r0, r1, r2, r3, r4, rfl⟩ := len5 hM.1
    exact (t10_h5 okT tb10 a s t (ints r0) (ints r1) (ints r2) (ints r3) (ints r4)).trans (by rw [hi]; rfl)
/-- Law 10 on data. -/
theorem merges_pure (Y : List (List Int × Bool)) (c z : Bool) (s t : Int) : PureOK Try.prog 10 [.sl (rowsD Y) Y.length 1 c z, iD s, iD t] (bD true) := by
  obtain ⟨k, M, h1, h5, hM, hc⟩ := c14F Y c z
  have g21 : okT 21 [] = true := okS_is awake_ok
  refine ae_pure6 (ev10_ok tb10 (F14_ok hc)) (fn := Try.f10) k10 (by kernel_rfl) (by kernel_rfl) ((startF_seg k10 (head10 _ s t hM h1 h5) (law10_all hM h1 h5 s t)).trans (nextF_done k10 done_plain ((t10_e ..).trans ?_)))
  rw [g21]; rfl
end Go.Proofs.Ytjfopbpkophoeaa
