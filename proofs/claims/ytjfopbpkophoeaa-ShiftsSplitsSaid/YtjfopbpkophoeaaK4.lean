/- Part 4 of what the law stands on: the abstract machine over the model, and what the functions answer. No condition. -/
import Derived.Test.YtjfopbpkophoeaaProg
import Derived.Test.YtjfopbpkophoeaaChecked
import Derived.Test.YtjfopbpkophoeaaK3
set_option linter.unusedSimpArgs false
set_option linter.unusedVariables false

/- The tables of the seat for the abstract machine, written by a program of this session (wip/tools/aectx.py). -/
namespace Go.Proofs.Ytjfopbpkophoeaa
open Go Go.AE

noncomputable def aeT : Tab TI :=
  (.node 65 (⟨(.array 2 22), 2, 48, [.sl [] 0 0 false true, .sl [] 0 0 false true]⟩) (.node 35 (⟨.other, 1, 8, [.nilf]⟩) (.node 20 (⟨.other, 1, 16, [.nili]⟩) (.node 9 (⟨.str, 1, 16, [.str ⟨#[]⟩]⟩) (.node 3 (⟨(.int .i64), 1, 8, [.int .i64 0]⟩) (.node 1 (⟨.other, 1, 8, [.nilf]⟩) (.node 0 (⟨.other, 1, 0, []⟩) .leaf .leaf) (.node 2 (⟨(.int .i64), 1, 8, [.int .i64 0]⟩) .leaf .leaf)) (.node 5 (⟨(.int .u8), 1, 1, [.int .u8 0]⟩) (.node 4 (⟨.bool, 1, 1, [.bool false]⟩) .leaf .leaf) (.node 6 (⟨(.int .u8), 1, 1, [.int .u8 0]⟩) .leaf .leaf))) (.node 15 (⟨(.ptr 116), 1, 8, [.nilp]⟩) (.node 11 (⟨.str, 1, 16, [.str ⟨#[]⟩]⟩) (.node 10 (⟨.str, 1, 16, [.str ⟨#[]⟩]⟩) .leaf .leaf) (.node 12 (⟨(.int .u64), 1, 8, [.int .u64 0]⟩) .leaf .leaf)) (.node 17 (⟨(.ptr 129), 1, 8, [.nilp]⟩) (.node 16 (⟨(.ptr 119), 1, 8, [.nilp]⟩) .leaf .leaf) .leaf))) (.node 28 (⟨(.int .u64), 1, 8, [.int .u64 0]⟩) (.node 24 (⟨(.int .i64), 1, 8, [.int .i64 0]⟩) (.node 22 (⟨(.slice 46), 1, 24, [.sl [] 0 0 false true]⟩) (.node 21 (⟨(.int .i32), 1, 4, [.int .i32 0]⟩) .leaf .leaf) (.node 23 (⟨.other, 1, 8, [.nilf]⟩) .leaf .leaf)) (.node 26 (⟨.other, 1, 8, [.nilf]⟩) (.node 25 (⟨.other, 1, 0, []⟩) .leaf .leaf) (.node 27 (⟨.other, 1, 8, [.nilf]⟩) .leaf .leaf))) (.node 32 (⟨.other, 1, 0, []⟩) (.node 30 (⟨.other, 1, 8, [.nilf]⟩) (.node 29 (⟨.other, 1, 8, [.nilf]⟩) .leaf .leaf) (.node 31 (⟨(.slice 2), 1, 24, [.sl [] 0 0 false true]⟩) .leaf .leaf)) (.node 34 (⟨.other, 1, 0, []⟩) (.node 33 (⟨.other, 1, 8, [.nilf]⟩) .leaf .leaf) .leaf)))) (.node 50 (⟨.other, 1, 8, [.nilf]⟩) (.node 43 (⟨.other, 1, 0, []⟩) (.node 39 (⟨.other, 1, 8, [.nilf]⟩) (.node 37 (⟨.other, 1, 8, [.nilf]⟩) (.node 36 (⟨.other, 1, 8, [.nilf]⟩) .leaf .leaf) (.node 38 (⟨.other, 1, 8, [.nilf]⟩) .leaf .leaf)) (.node 41 (⟨.other, 1, 0, []⟩) (.node 40 (⟨(.array 11 2), 11, 88, (List.replicate 11 (.int .i64 0))⟩) .leaf .leaf) (.node 42 (⟨.other, 1, 8, [.nilf]⟩) .leaf .leaf))) (.node 47 (⟨.other, 1, 0, []⟩) (.node 45 (⟨(.array 3 3), 3, 24, [.int .i64 0, .int .i64 0, .int .i64 0]⟩) (.node 44 (⟨.other, 1, 8, [.nilf]⟩) .leaf .leaf) (.node 46 (⟨(.slice 3), 1, 24, [.sl [] 0 0 false true]⟩) .leaf .leaf)) (.node 49 (⟨.other, 1, 8, [.nilf]⟩) (.node 48 (⟨.other, 1, 8, [.nilf]⟩) .leaf .leaf) .leaf))) (.node 58 (⟨.other, 1, 0, []⟩) (.node 54 (⟨.other, 1, 8, [.nilf]⟩) (.node 52 (⟨.other, 1, 8, [.nilf]⟩) (.node 51 (⟨.other, 1, 8, [.nilf]⟩) .leaf .leaf) (.node 53 (⟨.other, 1, 0, []⟩) .leaf .leaf)) (.node 56 (⟨.other, 1, 8, [.nilf]⟩) (.node 55 (⟨.other, 1, 8, [.nilf]⟩) .leaf .leaf) (.node 57 (⟨.other, 1, 8, [.nilf]⟩) .leaf .leaf))) (.node 62 (⟨.other, 1, 0, []⟩) (.node 60 (⟨.other, 1, 8, [.nilf]⟩) (.node 59 (⟨.other, 1, 8, [.nilf]⟩) .leaf .leaf) (.node 61 (⟨.other, 1, 8, [.nilf]⟩) .leaf .leaf)) (.node 64 (⟨.other, 1, 8, [.nilf]⟩) (.node 63 (⟨.other, 1, 8, [.nilf]⟩) .leaf .leaf) .leaf))))) (.node 95 (⟨.other, 1, 8, [.nilf]⟩) (.node 80 (⟨.other, 1, 8, [.nilf]⟩) (.node 73 (⟨.other, 1, 8, [.nilf]⟩) (.node 69 (⟨.other, 1, 8, [.nilf]⟩) (.node 67 (⟨.other, 1, 8, [.nilf]⟩) (.node 66 (⟨.other, 1, 0, []⟩) .leaf .leaf) (.node 68 (⟨.other, 1, 8, [.nilf]⟩) .leaf .leaf)) (.node 71 (⟨.other, 1, 8, [.nilf]⟩) (.node 70 (⟨.other, 1, 8, [.nilf]⟩) .leaf .leaf) (.node 72 (⟨.other, 1, 8, [.nilf]⟩) .leaf .leaf))) (.node 77 (⟨(.struct [(0, 3), (1, 75)]), 26, 208, (List.replicate 26 (.int .i64 0))⟩) (.node 75 (⟨(.array 5 74), 25, 200, (List.replicate 25 (.int .i64 0))⟩) (.node 74 (⟨(.array 5 2), 5, 40, [.int .i64 0, .int .i64 0, .int .i64 0, .int .i64 0, .int .i64 0]⟩) .leaf .leaf) (.node 76 (⟨(.struct [(0, 3), (1, 75)]), 26, 208, (List.replicate 26 (.int .i64 0))⟩) .leaf .leaf)) (.node 79 (⟨.other, 1, 8, [.nilf]⟩) (.node 78 (⟨.other, 1, 8, [.nilf]⟩) .leaf .leaf) .leaf))) (.node 88 (⟨.other, 1, 8, [.nilf]⟩) (.node 84 (⟨.other, 1, 8, [.nilf]⟩) (.node 82 (⟨.other, 1, 8, [.nilf]⟩) (.node 81 (⟨.other, 1, 0, []⟩) .leaf .leaf) (.node 83 (⟨(.map 3 2), 1, 8, [.nilm]⟩) .leaf .leaf)) (.node 86 (⟨.other, 1, 8, [.nilf]⟩) (.node 85 (⟨(.slice 31), 1, 24, [.sl [] 0 0 false true]⟩) .leaf .leaf) (.node 87 (⟨.other, 1, 8, [.nilf]⟩) .leaf .leaf))) (.node 92 (⟨.other, 1, 8, [.nilf]⟩) (.node 90 (⟨.other, 1, 8, [.nilf]⟩) (.node 89 (⟨.other, 1, 8, [.nilf]⟩) .leaf .leaf) (.node 91 (⟨.other, 1, 8, [.nilf]⟩) .leaf .leaf)) (.node 94 (⟨.other, 1, 8, [.nilf]⟩) (.node 93 (⟨.other, 1, 8, [.nilf]⟩) .leaf .leaf) .leaf)))) (.node 110 (⟨.other, 1, 8, [.nilf]⟩) (.node 103 (⟨.other, 1, 8, [.nilf]⟩) (.node 99 (⟨(.struct [(0, 3), (1, 74)]), 6, 48, [.int .i64 0, .int .i64 0, .int .i64 0, .int .i64 0, .int .i64 0, .int .i64 0]⟩) (.node 97 (⟨.other, 1, 8, [.nilf]⟩) (.node 96 (⟨.other, 1, 8, [.nilf]⟩) .leaf .leaf) (.node 98 (⟨.other, 1, 8, [.nilf]⟩) .leaf .leaf)) (.node 101 (⟨.other, 1, 8, [.nilf]⟩) (.node 100 (⟨(.struct [(0, 3), (1, 74)]), 6, 48, [.int .i64 0, .int .i64 0, .int .i64 0, .int .i64 0, .int .i64 0, .int .i64 0]⟩) .leaf .leaf) (.node 102 (⟨.other, 1, 8, [.nilf]⟩) .leaf .leaf))) (.node 107 (⟨(.array 2 3), 2, 16, [.int .i64 0, .int .i64 0]⟩) (.node 105 (⟨.other, 1, 8, [.nilf]⟩) (.node 104 (⟨.other, 1, 8, [.nilf]⟩) .leaf .leaf) (.node 106 (⟨(.ptr 77), 1, 8, [.nilp]⟩) .leaf .leaf)) (.node 109 (⟨.other, 1, 8, [.nilf]⟩) (.node 108 (⟨.other, 1, 8, [.nilf]⟩) .leaf .leaf) .leaf))) (.node 122 (⟨(.int .u8), 1, 1, [.int .u8 0]⟩) (.node 114 (⟨.other, 1, 8, [.nilf]⟩) (.node 112 (⟨.other, 1, 8, [.nilf]⟩) (.node 111 (⟨.other, 1, 8, [.nilf]⟩) .leaf .leaf) (.node 113 (⟨.other, 1, 8, [.nilf]⟩) .leaf .leaf)) (.node 121 (⟨(.int .u32), 1, 4, [.int .u32 0]⟩) (.node 120 (⟨.other, 1, 8, [.nilf]⟩) .leaf .leaf) .leaf)) (.node 126 (⟨(.int .i32), 1, 4, [.int .i32 0]⟩) (.node 124 (⟨.other, 1, 8, [.nilf]⟩) (.node 123 (⟨(.int .u8), 1, 1, [.int .u8 0]⟩) .leaf .leaf) (.node 125 (⟨(.ptr 5), 1, 8, [.nilp]⟩) .leaf .leaf)) (.node 130 (⟨.other, 1, 8, []⟩) (.node 127 (⟨(.int .i32), 1, 4, [.int .i32 0]⟩) .leaf .leaf) .leaf))))))

noncomputable def aeRets : Tab (List Nat) :=
  (.node 55 [22] (.node 27 [31] (.node 13 [4] (.node 6 [4] (.node 3 [4] (.node 1 [] (.node 0 [] .leaf .leaf) (.node 2 [] .leaf .leaf)) (.node 5 [4] (.node 4 [4] .leaf .leaf) .leaf)) (.node 10 [4] (.node 8 [4] (.node 7 [4] .leaf .leaf) (.node 9 [4] .leaf .leaf)) (.node 12 [4] (.node 11 [4] .leaf .leaf) .leaf))) (.node 20 [2] (.node 17 [2, 24] (.node 15 [2, 24] (.node 14 [22] .leaf .leaf) (.node 16 [2, 24] .leaf .leaf)) (.node 19 [2] (.node 18 [2] .leaf .leaf) .leaf)) (.node 24 [3, 24] (.node 22 [31, 24] (.node 21 [4] .leaf .leaf) (.node 23 [31, 24] .leaf .leaf)) (.node 26 [31] (.node 25 [4] .leaf .leaf) .leaf)))) (.node 41 [4] (.node 34 [3] (.node 31 [3, 4, 24] (.node 29 [4, 24] (.node 28 [3] .leaf .leaf) (.node 30 [3, 24] .leaf .leaf)) (.node 33 [4] (.node 32 [3] .leaf .leaf) .leaf)) (.node 38 [46] (.node 36 [46] (.node 35 [46, 4, 24] .leaf .leaf) (.node 37 [4] .leaf .leaf)) (.node 40 [4] (.node 39 [22, 24] .leaf .leaf) .leaf))) (.node 48 [65, 24] (.node 45 [4] (.node 43 [46, 4] (.node 42 [22] .leaf .leaf) (.node 44 [22, 24] .leaf .leaf)) (.node 47 [22] (.node 46 [22, 4] .leaf .leaf) .leaf)) (.node 52 [22] (.node 50 [22] (.node 49 [4] .leaf .leaf) (.node 51 [4] .leaf .leaf)) (.node 54 [22, 24] (.node 53 [24] .leaf .leaf) .leaf))))) (.node 83 [4] (.node 69 [2] (.node 62 [77] (.node 59 [2] (.node 57 [2, 24] (.node 56 [4] .leaf .leaf) (.node 58 [2] .leaf .leaf)) (.node 61 [77, 24] (.node 60 [2] .leaf .leaf) .leaf)) (.node 66 [77] (.node 64 [22] (.node 63 [85] .leaf .leaf) (.node 65 [31] .leaf .leaf)) (.node 68 [3] (.node 67 [2] .leaf .leaf) .leaf))) (.node 76 [3] (.node 73 [4] (.node 71 [2] (.node 70 [85] .leaf .leaf) (.node 72 [2] .leaf .leaf)) (.node 75 [77] (.node 74 [96] .leaf .leaf) .leaf)) (.node 80 [46] (.node 78 [22] (.node 77 [4] .leaf .leaf) (.node 79 [77] .leaf .leaf)) (.node 82 [3] (.node 81 [22] .leaf .leaf) .leaf)))) (.node 97 [] (.node 90 [4] (.node 87 [] (.node 85 [77] (.node 84 [22, 4] .leaf .leaf) (.node 86 [2] .leaf .leaf)) (.node 89 [4] (.node 88 [77] .leaf .leaf) .leaf)) (.node 94 [9] (.node 92 [3] (.node 91 [3] .leaf .leaf) (.node 93 [3] .leaf .leaf)) (.node 96 [9] (.node 95 [] .leaf .leaf) .leaf))) (.node 104 [9] (.node 101 [] (.node 99 [] (.node 98 [9] .leaf .leaf) (.node 100 [9] .leaf .leaf)) (.node 103 [] (.node 102 [9] .leaf .leaf) .leaf)) (.node 107 [9] (.node 106 [3] (.node 105 [] .leaf .leaf) .leaf) (.node 109 [9] (.node 108 [] .leaf .leaf) .leaf))))))

noncomputable def aeIsoT : Tab Bool :=
  (.node 44 true (.node 23 true (.node 12 true (.node 7 true (.node 4 true (.node 3 true (.node 2 true .leaf .leaf) .leaf) (.node 6 true (.node 5 true .leaf .leaf) .leaf)) (.node 10 true (.node 9 true (.node 8 true .leaf .leaf) .leaf) (.node 11 true .leaf .leaf))) (.node 18 true (.node 15 true (.node 14 true (.node 13 true .leaf .leaf) .leaf) (.node 17 true (.node 16 true .leaf .leaf) .leaf)) (.node 21 true (.node 20 true (.node 19 true .leaf .leaf) .leaf) (.node 22 true .leaf .leaf)))) (.node 34 true (.node 29 true (.node 26 true (.node 25 true (.node 24 true .leaf .leaf) .leaf) (.node 28 true (.node 27 true .leaf .leaf) .leaf)) (.node 32 true (.node 31 true (.node 30 true .leaf .leaf) .leaf) (.node 33 true .leaf .leaf))) (.node 39 true (.node 37 true (.node 36 true (.node 35 true .leaf .leaf) .leaf) (.node 38 true .leaf .leaf)) (.node 42 true (.node 41 true (.node 40 true .leaf .leaf) .leaf) (.node 43 true .leaf .leaf))))) (.node 68 true (.node 55 true (.node 50 true (.node 47 true (.node 46 true (.node 45 true .leaf .leaf) .leaf) (.node 49 true (.node 48 true .leaf .leaf) .leaf)) (.node 53 true (.node 52 true (.node 51 true .leaf .leaf) .leaf) (.node 54 true .leaf .leaf))) (.node 62 true (.node 59 true (.node 57 true (.node 56 true .leaf .leaf) .leaf) (.node 61 true (.node 60 true .leaf .leaf) .leaf)) (.node 65 true (.node 64 true (.node 63 true .leaf .leaf) .leaf) (.node 66 true .leaf .leaf)))) (.node 82 true (.node 74 true (.node 71 true (.node 70 true (.node 69 true .leaf .leaf) .leaf) (.node 73 true (.node 72 true .leaf .leaf) .leaf)) (.node 78 true (.node 76 true (.node 75 true .leaf .leaf) .leaf) (.node 79 true .leaf .leaf))) (.node 88 true (.node 85 true (.node 84 true (.node 83 true .leaf .leaf) .leaf) (.node 86 true .leaf .leaf)) (.node 92 true (.node 91 true (.node 89 true .leaf .leaf) .leaf) (.node 93 true .leaf .leaf))))))

noncomputable def aeIso (f : FuncId) : Bool := (tget aeIsoT f).isSome

noncomputable def aePolT : Tab (Tab Pol) :=
  (.node 49 (.node 2 ⟨[0, 1, 2, 7, 8], [], []⟩ (.node 0 ⟨[0, 1, 2, 7], [], []⟩ .leaf .leaf) .leaf) (.node 27 (.node 2 ⟨[3, 4, 5, 6, 7, 8, 9], [], []⟩ (.node 0 ⟨[3, 4, 5, 6, 7], [(5, 1)], []⟩ .leaf .leaf) (.node 4 ⟨[3, 4, 5, 6, 7, 8, 9, 10], [], []⟩ .leaf .leaf)) (.node 14 (.node 2 ⟨[0, 5, 6, 7, 8, 9], [], []⟩ (.node 0 ⟨[0, 5, 6, 7], [(6, 1)], []⟩ .leaf .leaf) .leaf) (.node 8 (.node 0 ⟨[1, 2, 7, 8, 9], [], []⟩ .leaf .leaf) (.node 5 (.node 6 ⟨[3, 4, 6, 7, 13, 14, 15, 16, 18], [], []⟩ (.node 2 ⟨[3, 4, 6, 7, 13], [], []⟩ (.node 0 ⟨[3, 4, 6, 7, 8], [], []⟩ .leaf .leaf) (.node 4 ⟨[3, 4, 6, 7, 13, 14, 15, 16, 17], [], []⟩ .leaf .leaf)) (.node 10 ⟨[4, 21, 23, 24, 25, 27], [], []⟩ (.node 8 ⟨[4, 19, 21, 23, 24, 25, 26], [], []⟩ .leaf .leaf) .leaf)) (.node 3 (.node 0 ⟨[1, 5, 6], [], []⟩ .leaf .leaf) .leaf .leaf) (.node 7 (.node 0 ⟨[5, 6, 7, 8, 9], [], []⟩ .leaf .leaf) .leaf .leaf)) (.node 10 (.node 3 ⟨[1, 2, 7, 8, 15], [], []⟩ (.node 0 ⟨[1, 2, 7, 8], [], []⟩ .leaf .leaf) .leaf) (.node 9 (.node 2 ⟨[3, 4, 9, 12, 13, 14, 15], [], []⟩ (.node 0 ⟨[3, 4, 9, 12, 13, 14], [], []⟩ .leaf .leaf) .leaf) .leaf .leaf) (.node 11 (.node 0 ⟨[0, 1, 5, 6, 7], [], []⟩ .leaf .leaf) .leaf .leaf))) (.node 20 (.node 0 ⟨[0, 1, 5, 6], [], []⟩ .leaf .leaf) (.node 18 (.node 2 ⟨[5, 6, 7, 8], [], []⟩ (.node 0 ⟨[5, 6, 7], [], []⟩ .leaf .leaf) .leaf) (.node 17 (.node 2 ⟨[1, 6, 8, 9, 10, 42], [], []⟩ (.node 0 ⟨[1, 6, 8, 9], [], []⟩ .leaf .leaf) .leaf) .leaf .leaf) (.node 19 (.node 0 ⟨[5, 6, 7], [], []⟩ .leaf .leaf) .leaf .leaf)) (.node 25 (.node 0 ⟨[0, 1, 5], [], []⟩ .leaf .leaf) (.node 23 (.node 2 ⟨[4, 6, 7, 24, 25, 29, 30], [], []⟩ (.node 0 ⟨[4, 6, 24, 25], [], []⟩ .leaf .leaf) (.node 4 ⟨[6, 9, 52, 53], [(9, 1)], []⟩ .leaf .leaf)) .leaf .leaf) (.node 26 (.node 4 ⟨[3, 4, 8, 9], [], []⟩ (.node 2 ⟨[0, 3, 4, 5, 6, 7], [(6, 1)], []⟩ (.node 0 ⟨[0, 3, 4, 5], [(4, 1)], []⟩ .leaf .leaf) .leaf) (.node 6 ⟨[3, 8], [], []⟩ .leaf .leaf)) .leaf .leaf)))) (.node 40 (.node 0 ⟨[0, 1, 2, 7, 8, 9], [], []⟩ .leaf .leaf) (.node 34 (.node 2 ⟨[0, 3, 4, 5], [], []⟩ (.node 0 ⟨[0, 3, 4], [], []⟩ .leaf .leaf) .leaf) (.node 32 (.node 2 ⟨[0, 3, 4, 5, 6], [], []⟩ (.node 0 ⟨[0, 3, 4, 5], [], []⟩ .leaf .leaf) .leaf) (.node 30 (.node 2 ⟨[6, 9], [], []⟩ .leaf .leaf) .leaf .leaf) (.node 33 (.node 2 ⟨[0, 3, 4, 5], [], []⟩ (.node 0 ⟨[0, 3], [], []⟩ .leaf .leaf) .leaf) .leaf .leaf)) (.node 37 (.node 0 ⟨[0, 1, 5], [], []⟩ .leaf .leaf) (.node 36 (.node 2 ⟨[0, 1, 2, 3, 9, 10], [], []⟩ (.node 0 ⟨[0, 1, 2, 3, 9], [(9, 1)], []⟩ .leaf .leaf) .leaf) .leaf .leaf) (.node 39 (.node 2 ⟨[1, 8, 10, 13, 88, 89], [], []⟩ (.node 0 ⟨[1, 8, 10, 41, 42, 43], [], []⟩ .leaf .leaf) (.node 4 ⟨[1, 8, 13, 120, 121], [], []⟩ .leaf .leaf)) .leaf .leaf))) (.node 44 (.node 2 ⟨[1, 2, 12, 71, 72, 73], [], []⟩ (.node 0 ⟨[1, 2, 8, 48, 49], [], []⟩ .leaf .leaf) .leaf) (.node 42 (.node 2 ⟨[0, 1, 2, 7, 8, 9, 10], [(9, 1)], []⟩ (.node 0 ⟨[0, 1, 2, 7, 8], [(7, 1)], []⟩ .leaf .leaf) .leaf) (.node 41 (.node 2 ⟨[0, 1, 5, 6], [], []⟩ (.node 0 ⟨[0, 1, 5], [], []⟩ .leaf .leaf) .leaf) .leaf .leaf) (.node 43 (.node 0 ⟨[0, 1, 2, 8, 9], [(8, 1)], []⟩ .leaf .leaf) .leaf .leaf)) (.node 46 (.node 2 ⟨[0, 1, 2, 8, 9, 10, 11], [(10, 1)], []⟩ (.node 0 ⟨[0, 1, 2, 8, 9], [(8, 1)], []⟩ .leaf .leaf) .leaf) (.node 45 (.node 0 ⟨[0, 1, 2, 7], [], []⟩ .leaf .leaf) .leaf .leaf) (.node 47 (.node 0 ⟨[0, 3, 4], [(3, 1)], []⟩ .leaf .leaf) .leaf .leaf))))) (.node 70 (.node 2 ⟨[0, 1, 5, 6, 7, 8], [(7, 1)], []⟩ (.node 0 ⟨[0, 1, 5, 6], [(5, 1)], []⟩ .leaf .leaf) .leaf) (.node 61 (.node 2 ⟨[2, 4, 5, 21, 22, 23, 34, 35, 36], [], []⟩ (.node 0 ⟨[2, 4, 21, 22, 23], [], []⟩ .leaf .leaf) .leaf) (.node 56 (.node 0 ⟨[0, 1, 5], [], []⟩ .leaf .leaf) (.node 52 (.node 2 ⟨[0, 1, 2, 7, 8, 9, 10], [], []⟩ (.node 0 ⟨[0, 1, 2, 7, 8], [(7, 1)], []⟩ .leaf .leaf) .leaf) (.node 50 (.node 2 ⟨[0, 1, 5, 6, 7, 8], [], []⟩ (.node 0 ⟨[0, 1, 5, 6], [(5, 1)], []⟩ .leaf .leaf) (.node 4 ⟨[0, 1, 5, 6, 7, 8, 9], [], []⟩ .leaf .leaf)) .leaf .leaf) (.node 55 (.node 2 ⟨[0, 3, 4, 5, 6], [(5, 1)], []⟩ (.node 0 ⟨[0, 3, 4], [(3, 1)], []⟩ .leaf .leaf) .leaf) .leaf .leaf)) (.node 59 (.node 0 ⟨[3, 6, 7, 8], [], []⟩ .leaf .leaf) (.node 58 (.node 0 ⟨[1, 3, 6, 7], [(3, 1)], []⟩ .leaf .leaf) .leaf .leaf) (.node 60 (.node 0 ⟨[1, 3, 6, 7], [(3, 1)], []⟩ .leaf .leaf) .leaf .leaf))) (.node 66 (.node 0 ⟨[2, 3, 7, 8], [], []⟩ .leaf .leaf) (.node 63 (.node 4 ⟨[0, 1, 5, 6, 8, 9, 10], [], []⟩ (.node 2 ⟨[0, 1, 5, 6, 8], [], []⟩ (.node 0 ⟨[0, 1, 5, 6, 7], [], []⟩ .leaf .leaf) .leaf) (.node 8 ⟨[0, 1, 5, 6, 8, 9, 10, 11, 12], [], []⟩ (.node 6 ⟨[0, 1, 5, 6, 8, 9, 10, 11], [], []⟩ .leaf .leaf) .leaf)) (.node 62 (.node 0 ⟨[4, 5, 6, 12, 13], [], []⟩ .leaf .leaf) .leaf .leaf) (.node 65 (.node 2 ⟨[1, 3, 4, 5, 14, 15], [], []⟩ (.node 0 ⟨[1, 3, 4], [(3, 1)], []⟩ .leaf .leaf) (.node 4 ⟨[3], [], []⟩ .leaf .leaf)) .leaf .leaf)) (.node 68 (.node 0 ⟨[0, 3, 4], [], []⟩ .leaf .leaf) (.node 67 (.node 10 ⟨[0, 1, 10, 11, 12, 13, 14], [], []⟩ (.node 4 ⟨[0, 1, 5, 6, 7], [], []⟩ (.node 2 ⟨[0, 1, 5, 6], [], []⟩ (.node 0 ⟨[0, 1], [], []⟩ .leaf .leaf) .leaf) (.node 8 ⟨[0, 1, 10, 11, 12], [], []⟩ (.node 6 ⟨[0, 1, 5, 105, 106], [], []⟩ .leaf .leaf) .leaf)) (.node 16 ⟨[0, 1, 10, 18, 19], [], []⟩ (.node 14 ⟨[0, 1, 10, 11, 15, 16, 17], [], []⟩ (.node 12 ⟨[0, 1, 10, 11, 15], [], []⟩ .leaf .leaf) .leaf) (.node 20 ⟨[0, 1, 18, 21], [], []⟩ (.node 18 ⟨[0, 1, 10, 18, 19, 20], [], []⟩ .leaf .leaf) .leaf))) .leaf .leaf) (.node 69 (.node 2 ⟨[0, 1, 2, 7, 8, 9, 10], [], []⟩ (.node 0 ⟨[0, 1, 2, 7], [], []⟩ .leaf .leaf) .leaf) .leaf .leaf)))) (.node 82 (.node 0 ⟨[0, 3, 4], [], []⟩ .leaf .leaf) (.node 76 (.node 2 ⟨[0, 2, 7, 8, 9, 10], [], []⟩ (.node 0 ⟨[0, 2, 7, 8], [], []⟩ .leaf .leaf) (.node 4 ⟨[0, 2, 7, 8, 9, 10, 11], [], []⟩ .leaf .leaf)) (.node 73 (.node 4 ⟨[1, 3, 5, 6, 22, 23, 27, 28], [], []⟩ (.node 2 ⟨[1, 3, 5, 22, 23], [], []⟩ .leaf .leaf) .leaf) (.node 71 (.node 0 ⟨[0, 1], [], []⟩ .leaf .leaf) .leaf .leaf) (.node 75 (.node 2 ⟨[0, 2, 3, 4, 8, 9, 12, 13], [], []⟩ (.node 0 ⟨[0, 2, 3, 8, 9], [], []⟩ .leaf .leaf) .leaf) .leaf .leaf)) (.node 78 (.node 2 ⟨[1, 3, 4, 5, 8, 9, 13, 14], [(5, 1)], []⟩ (.node 0 ⟨[1, 3, 8, 9], [(3, 1)], []⟩ .leaf .leaf) .leaf) (.node 77 (.node 0 ⟨[0, 2, 4, 6, 32, 33], [], []⟩ .leaf .leaf) .leaf .leaf) (.node 79 (.node 2 ⟨[1, 2, 3, 4, 10, 11, 15, 16], [], []⟩ (.node 0 ⟨[1, 2, 3, 10, 11], [], []⟩ .leaf .leaf) .leaf) .leaf .leaf))) (.node 88 (.node 2 ⟨[1, 2, 3, 6, 7, 11, 12], [], []⟩ (.node 0 ⟨[1, 2, 6, 7], [], []⟩ .leaf .leaf) .leaf) (.node 85 (.node 2 ⟨[2, 3, 4, 5, 6, 14, 15, 19, 20], [], []⟩ (.node 0 ⟨[2, 3, 4, 5, 14, 15], [], []⟩ .leaf .leaf) (.node 4 ⟨[2, 3, 4, 5, 6, 7, 8, 14, 15, 19, 20, 24, 25], [(8, 1)], []⟩ .leaf .leaf)) (.node 84 (.node 2 ⟨[1, 6, 7, 9, 10, 15, 16, 17, 24, 25], [(10, 1)], []⟩ (.node 0 ⟨[1, 6, 7, 15, 16, 17], [(6, 1)], []⟩ .leaf .leaf) (.node 4 ⟨[1, 6, 7, 9, 10, 11, 12, 15, 16, 17, 24, 25, 28, 29, 30], [(12, 1)], []⟩ .leaf .leaf)) .leaf .leaf) (.node 87 (.node 0 ⟨[0, 1, 3, 4], [], []⟩ .leaf .leaf) .leaf .leaf)) (.node 92 (.node 0 ⟨[3, 6, 7, 8], [], []⟩ .leaf .leaf) (.node 91 (.node 0 ⟨[0, 3, 4], [], []⟩ .leaf .leaf) .leaf .leaf) (.node 93 (.node 0 ⟨[0, 1, 7, 8], [], []⟩ .leaf .leaf) .leaf .leaf))))))

noncomputable def aePol (f b : Nat) : Option Pol := match tget aePolT f with
  | some t => tget t b
  | none => none

noncomputable def aeXPolT : Tab (Tab Pol) :=
  (.node 49 (.node 2 ⟨[0, 1, 2, 7], [], []⟩ (.node 0 ⟨[0, 1], [], []⟩ .leaf .leaf) .leaf) (.node 30 (.node 2 ⟨[], [], []⟩ (.node 0 ⟨[6], [], []⟩ .leaf .leaf) .leaf) (.node 17 (.node 1 ⟨[1, 6, 8, 9], [], []⟩ (.node 0 ⟨[1, 8], [], []⟩ .leaf .leaf) (.node 2 ⟨[1, 6, 8, 9, 10], [], []⟩ .leaf .leaf)) (.node 9 (.node 2 ⟨[3, 4, 9, 12, 13, 14], [], []⟩ (.node 0 ⟨[12, 13], [], []⟩ .leaf .leaf) .leaf) (.node 7 (.node 0 ⟨[], [], []⟩ .leaf .leaf) (.node 5 (.node 6 ⟨[3, 4, 6, 7, 13, 14, 15, 16], [], []⟩ (.node 2 ⟨[3, 4], [], []⟩ (.node 0 ⟨[3, 4, 6, 7], [], []⟩ .leaf .leaf) (.node 4 ⟨[3, 4, 6, 7, 13, 14, 15, 16], [], []⟩ .leaf .leaf)) (.node 10 ⟨[21, 23, 24, 25], [], []⟩ (.node 8 ⟨[4, 21, 23, 24, 25], [], []⟩ .leaf .leaf) .leaf)) (.node 3 (.node 0 ⟨[], [], []⟩ .leaf .leaf) .leaf .leaf) .leaf) (.node 8 (.node 0 ⟨[], [], []⟩ .leaf .leaf) .leaf .leaf)) (.node 11 (.node 0 ⟨[], [], []⟩ .leaf .leaf) (.node 10 (.node 3 ⟨[1, 2, 7, 8], [], []⟩ (.node 0 ⟨[], [], []⟩ .leaf .leaf) .leaf) .leaf .leaf) (.node 14 (.node 2 ⟨[0, 5, 6, 7, 8], [], []⟩ (.node 0 ⟨[6], [], []⟩ .leaf .leaf) .leaf) .leaf .leaf))) (.node 23 (.node 2 ⟨[4, 6, 24, 25], [], []⟩ (.node 0 ⟨[4, 6], [], []⟩ .leaf .leaf) (.node 4 ⟨[9], [], []⟩ .leaf .leaf)) (.node 19 (.node 0 ⟨[6], [], []⟩ .leaf .leaf) (.node 18 (.node 2 ⟨[5, 6, 7], [], []⟩ (.node 0 ⟨[6], [], []⟩ .leaf .leaf) .leaf) .leaf .leaf) (.node 20 (.node 0 ⟨[1, 5], [], []⟩ .leaf .leaf) .leaf .leaf)) (.node 26 (.node 4 ⟨[3, 8], [], []⟩ (.node 2 ⟨[0, 3, 4, 5, 6], [], []⟩ (.node 0 ⟨[3, 4], [], []⟩ .leaf .leaf) .leaf) (.node 6 ⟨[3, 8], [], []⟩ .leaf .leaf)) (.node 25 (.node 0 ⟨[], [], []⟩ .leaf .leaf) .leaf .leaf) (.node 27 (.node 2 ⟨[3, 4, 5, 6, 7, 8], [], []⟩ (.node 0 ⟨[5], [], []⟩ .leaf .leaf) (.node 4 ⟨[3, 4, 5, 6, 7, 8, 9], [], []⟩ .leaf .leaf)) .leaf .leaf)))) (.node 40 (.node 0 ⟨[7, 8], [], []⟩ .leaf .leaf) (.node 34 (.node 2 ⟨[0, 3, 4], [], []⟩ (.node 0 ⟨[3], [], []⟩ .leaf .leaf) .leaf) (.node 32 (.node 2 ⟨[0, 3, 5], [], []⟩ (.node 0 ⟨[4], [], []⟩ .leaf .leaf) .leaf) (.node 31 (.node 0 ⟨[8, 9], [], []⟩ .leaf .leaf) .leaf .leaf) (.node 33 (.node 2 ⟨[0, 3, 4], [], []⟩ (.node 0 ⟨[], [], []⟩ .leaf .leaf) .leaf) .leaf .leaf)) (.node 37 (.node 0 ⟨[], [], []⟩ .leaf .leaf) (.node 36 (.node 2 ⟨[0, 1, 2, 3, 9], [], []⟩ (.node 0 ⟨[9], [], []⟩ .leaf .leaf) .leaf) .leaf .leaf) (.node 39 (.node 2 ⟨[1, 8, 13], [], []⟩ (.node 0 ⟨[1, 8, 10], [], []⟩ .leaf .leaf) (.node 4 ⟨[13], [], []⟩ .leaf .leaf)) .leaf .leaf))) (.node 44 (.node 2 ⟨[1, 2, 12], [], []⟩ (.node 0 ⟨[1, 2, 8], [], []⟩ .leaf .leaf) .leaf) (.node 42 (.node 2 ⟨[0, 1, 2, 7, 8, 9], [], []⟩ (.node 0 ⟨[7], [], []⟩ .leaf .leaf) .leaf) (.node 41 (.node 2 ⟨[0, 1, 5], [], []⟩ (.node 0 ⟨[], [], []⟩ .leaf .leaf) .leaf) .leaf .leaf) (.node 43 (.node 0 ⟨[0, 1, 8], [], []⟩ .leaf .leaf) .leaf .leaf)) (.node 46 (.node 2 ⟨[0, 1, 2, 8, 9, 10], [], []⟩ (.node 1 ⟨[0, 1, 2, 8, 9], [], []⟩ (.node 0 ⟨[8], [], []⟩ .leaf .leaf) .leaf) (.node 3 ⟨[0, 1, 2, 8, 9, 10, 11], [], []⟩ .leaf .leaf)) (.node 45 (.node 0 ⟨[], [], []⟩ .leaf .leaf) .leaf .leaf) (.node 47 (.node 0 ⟨[3], [], []⟩ .leaf .leaf) .leaf .leaf))))) (.node 70 (.node 2 ⟨[0, 1, 5, 6, 7], [], []⟩ (.node 0 ⟨[5], [], []⟩ .leaf .leaf) .leaf) (.node 61 (.node 2 ⟨[2, 4, 21, 22, 23], [], []⟩ (.node 0 ⟨[2, 4], [], []⟩ .leaf .leaf) .leaf) (.node 56 (.node 0 ⟨[0, 1], [], []⟩ .leaf .leaf) (.node 52 (.node 2 ⟨[0, 1, 2, 7, 8, 9], [], []⟩ (.node 0 ⟨[7], [], []⟩ .leaf .leaf) .leaf) (.node 50 (.node 2 ⟨[0, 1, 5, 6, 7], [], []⟩ (.node 0 ⟨[5], [], []⟩ .leaf .leaf) (.node 4 ⟨[0, 1, 5, 6, 7, 8], [], []⟩ .leaf .leaf)) .leaf .leaf) (.node 55 (.node 2 ⟨[0, 3, 4, 5], [], []⟩ (.node 0 ⟨[3], [], []⟩ .leaf .leaf) .leaf) .leaf .leaf)) (.node 59 (.node 0 ⟨[3], [], []⟩ .leaf .leaf) (.node 58 (.node 0 ⟨[3], [], []⟩ .leaf .leaf) .leaf .leaf) (.node 60 (.node 0 ⟨[3], [], []⟩ .leaf .leaf) .leaf .leaf))) (.node 66 (.node 0 ⟨[2, 3], [], []⟩ .leaf .leaf) (.node 63 (.node 4 ⟨[0, 1, 5, 8, 9], [], []⟩ (.node 2 ⟨[6], [], []⟩ (.node 0 ⟨[0, 1, 5, 6], [], []⟩ .leaf .leaf) .leaf) (.node 8 ⟨[0, 1, 5, 6, 8, 9, 10, 11], [], []⟩ (.node 6 ⟨[0, 1, 5, 6, 8, 9, 10], [], []⟩ .leaf .leaf) .leaf)) (.node 62 (.node 0 ⟨[4, 5], [], []⟩ .leaf .leaf) .leaf .leaf) (.node 65 (.node 2 ⟨[1, 3, 4, 5], [], []⟩ (.node 0 ⟨[3], [], []⟩ .leaf .leaf) (.node 4 ⟨[3], [], []⟩ .leaf .leaf)) .leaf .leaf)) (.node 68 (.node 0 ⟨[3], [], []⟩ .leaf .leaf) (.node 67 (.node 10 ⟨[0, 1, 10, 11, 12], [], []⟩ (.node 4 ⟨[0, 1, 5, 6], [], []⟩ (.node 2 ⟨[0, 1, 5], [], []⟩ (.node 1 ⟨[0, 1], [], []⟩ .leaf .leaf) .leaf) (.node 8 ⟨[0, 1, 10, 11], [], []⟩ (.node 6 ⟨[0, 1], [], []⟩ .leaf .leaf) .leaf)) (.node 16 ⟨[0, 1, 10, 18], [], []⟩ (.node 14 ⟨[0, 1, 10, 11, 15], [], []⟩ (.node 12 ⟨[0, 1, 10, 11], [], []⟩ .leaf .leaf) .leaf) (.node 20 ⟨[0, 1], [], []⟩ (.node 18 ⟨[0, 1, 10, 18, 19], [], []⟩ .leaf .leaf) .leaf))) .leaf .leaf) (.node 69 (.node 2 ⟨[8], [], []⟩ (.node 0 ⟨[0, 1, 2, 7], [], []⟩ .leaf .leaf) .leaf) .leaf .leaf)))) (.node 82 (.node 0 ⟨[3], [], []⟩ .leaf .leaf) (.node 76 (.node 2 ⟨[0, 2, 8, 9], [], []⟩ (.node 0 ⟨[7], [], []⟩ .leaf .leaf) (.node 4 ⟨[0, 2, 7, 8, 9, 10], [], []⟩ .leaf .leaf)) (.node 73 (.node 2 ⟨[], [], []⟩ (.node 1 ⟨[], [], []⟩ (.node 0 ⟨[1, 3], [], []⟩ .leaf .leaf) .leaf) (.node 4 ⟨[1, 3, 5, 22, 23], [], []⟩ .leaf .leaf)) (.node 71 (.node 0 ⟨[0], [], []⟩ .leaf .leaf) .leaf .leaf) (.node 75 (.node 2 ⟨[0, 2, 3, 8, 9], [], []⟩ (.node 0 ⟨[2, 3], [], []⟩ .leaf .leaf) .leaf) .leaf .leaf)) (.node 78 (.node 2 ⟨[1, 3, 5, 8, 9], [], []⟩ (.node 0 ⟨[3], [], []⟩ .leaf .leaf) .leaf) (.node 77 (.node 1 ⟨[0, 2, 4, 6, 32, 33], [], []⟩ (.node 0 ⟨[], [], []⟩ .leaf .leaf) .leaf) .leaf .leaf) (.node 79 (.node 2 ⟨[1, 2, 3, 10, 11], [], []⟩ (.node 0 ⟨[2, 3], [], []⟩ .leaf .leaf) .leaf) .leaf .leaf))) (.node 88 (.node 2 ⟨[1, 2, 6, 7], [], []⟩ (.node 0 ⟨[1, 2], [], []⟩ .leaf .leaf) .leaf) (.node 85 (.node 2 ⟨[2, 3, 4, 5, 14, 15], [], []⟩ (.node 0 ⟨[4, 5], [], []⟩ .leaf .leaf) (.node 4 ⟨[2, 3, 4, 5, 6, 7, 8, 14, 15, 19, 20], [], []⟩ .leaf .leaf)) (.node 84 (.node 2 ⟨[1, 6, 7, 10, 15, 16, 17], [], []⟩ (.node 0 ⟨[6, 7], [], []⟩ .leaf .leaf) (.node 4 ⟨[1, 6, 7, 9, 10, 11, 12, 15, 16, 17, 24, 25], [], []⟩ .leaf .leaf)) .leaf .leaf) (.node 87 (.node 0 ⟨[], [], []⟩ .leaf .leaf) .leaf .leaf)) (.node 92 (.node 0 ⟨[3], [], []⟩ .leaf .leaf) (.node 91 (.node 0 ⟨[3], [], []⟩ .leaf .leaf) .leaf .leaf) (.node 93 (.node 0 ⟨[], [], []⟩ .leaf .leaf) .leaf .leaf))))))

noncomputable def aeXPol (f b : Nat) : Option Pol := match tget aeXPolT f with
  | some t => tget t b
  | none => none

noncomputable def aePlanT : Tab (Tab Plan) :=
  (.node 44 (.node 12 ⟨[⟨0, false, [], false, none⟩, ⟨1, false, [], false, none⟩, ⟨2, false, [], false, none⟩, ⟨3, false, [], false, none⟩, ⟨4, false, [], false, none⟩, ⟨5, false, [], false, none⟩, ⟨6, false, [], false, none⟩, ⟨7, false, [], false, none⟩, ⟨8, false, [], false, none⟩, ⟨9, false, [], false, none⟩, ⟨10, false, [], false, none⟩, ⟨11, false, [], false, none⟩, ⟨12, false, [], false, none⟩, ⟨13, false, [], false, none⟩, ⟨14, false, [], false, none⟩, ⟨15, false, [], false, none⟩, ⟨16, true, [], false, none⟩], [[], [], [], [0, 2], [0, 1, 2, 3], [0, 1, 2, 3, 4], [], [], [], [6, 8], [6, 7, 8, 9], [6, 7, 8, 9, 10], [0, 1, 2, 3, 4, 5, 6, 7, 8, 9, 10, 11], [], [0, 13], [0, 1, 2, 3, 4, 5, 6, 7, 8, 9, 10, 11, 12, 13, 14], [0, 1, 2, 3, 4, 5, 6, 7, 8, 9, 10, 11, 12, 13, 14, 15]]⟩ (.node 7 ⟨[⟨0, false, [], false, none⟩, ⟨1, false, [], false, none⟩, ⟨2, false, [], false, none⟩, ⟨3, false, [], false, none⟩, ⟨4, false, [], false, none⟩, ⟨5, false, [], false, none⟩, ⟨6, false, [], false, none⟩, ⟨7, false, [], false, none⟩, ⟨8, false, [], false, none⟩], [[], [], [0, 1], [0, 1, 2], [], [], [4, 5], [4, 5, 6], [0, 1, 2, 3, 4, 5, 6, 7]]⟩ .leaf .leaf) .leaf) (.node 31 (.node 10 ⟨[⟨0, false, [], false, none⟩, ⟨1, false, [], false, none⟩, ⟨2, false, [], false, none⟩, ⟨3, false, [], false, none⟩, ⟨4, false, [], false, none⟩, ⟨5, false, [], false, none⟩], [[], [], [1], [1, 2], [0, 1, 2, 3], [0, 1, 2, 3, 4]]⟩ .leaf .leaf) (.node 23 (.node 11 ⟨[⟨0, false, [], false, none⟩, ⟨1, false, [], false, none⟩, ⟨2, false, [], false, none⟩, ⟨3, false, [], false, none⟩, ⟨4, false, [], false, none⟩, ⟨5, false, [], false, none⟩, ⟨6, false, [], false, none⟩, ⟨7, false, [], false, none⟩, ⟨8, false, [], false, none⟩, ⟨9, false, [], false, none⟩, ⟨10, false, [], false, none⟩, ⟨11, false, [], false, none⟩, ⟨12, false, [], false, none⟩, ⟨13, false, [], false, none⟩, ⟨14, false, [], false, none⟩, ⟨15, false, [], false, none⟩, ⟨16, true, [], false, none⟩], [[], [], [], [0, 2], [0, 1, 2, 3], [0, 1, 2, 3, 4], [], [], [], [6, 8], [6, 7, 8, 9], [6, 7, 8, 9, 10], [0, 1, 2, 3, 4, 5, 6, 7, 8, 9, 10, 11], [], [0, 13], [0, 1, 2, 3, 4, 5, 6, 7, 8, 9, 10, 11, 12, 13, 14], [0, 1, 2, 3, 4, 5, 6, 7, 8, 9, 10, 11, 12, 13, 14, 15]]⟩ .leaf .leaf) (.node 7 (.node 2 ⟨[⟨0, false, [], false, none⟩, ⟨1, false, [], false, none⟩, ⟨2, false, [], false, none⟩, ⟨3, false, [], false, none⟩, ⟨4, false, [], false, none⟩, ⟨5, false, [], false, none⟩, ⟨6, false, [], false, none⟩, ⟨7, false, [], false, none⟩, ⟨8, false, [], false, none⟩], [[], [0], [], [2], [], [4], [0, 1], [0, 1, 2, 3, 6], [0, 1, 2, 3, 4, 5, 6, 7]]⟩ .leaf .leaf) (.node 5 (.node 25 ⟨[⟨0, false, [], false, none⟩, ⟨1, false, [], false, none⟩, ⟨2, false, [], false, none⟩, ⟨3, false, [], false, none⟩, ⟨4, false, [], false, none⟩, ⟨5, false, [], false, none⟩, ⟨6, false, [], false, none⟩, ⟨7, false, [], false, none⟩, ⟨8, false, [], false, none⟩, ⟨9, false, [], false, none⟩, ⟨10, false, [], false, none⟩, ⟨11, false, [], false, none⟩, ⟨12, false, [], false, none⟩], [[], [], [], [1, 2], [1, 2, 3], [], [], [5, 6], [5, 6, 7], [5, 6, 7, 8], [1, 2, 3, 4, 5, 6, 7, 8, 9], [0, 1, 2, 3, 4, 5, 6, 7, 8, 9, 10], [0, 1, 2, 3, 4, 5, 6, 7, 8, 9, 10, 11]]⟩ .leaf .leaf) .leaf .leaf) (.node 10 (.node 24 ⟨[⟨0, false, [], false, none⟩, ⟨1, false, [], false, none⟩, ⟨2, false, [], false, none⟩, ⟨3, false, [], false, none⟩, ⟨4, false, [], false, none⟩, ⟨5, false, [], false, none⟩, ⟨6, false, [], false, none⟩, ⟨7, false, [], false, none⟩, ⟨8, false, [], false, none⟩, ⟨9, false, [], false, none⟩, ⟨10, false, [], false, none⟩, ⟨11, false, [], false, none⟩, ⟨12, false, [], false, none⟩, ⟨13, true, [], false, none⟩], [[], [], [0, 1], [0, 1, 2], [], [], [], [5, 6], [5, 6, 7], [], [5, 6, 7, 8, 9], [5, 6, 7, 8, 9, 10], [0, 1, 2, 3, 4, 5, 6, 7, 8, 9, 10, 11], [0, 1, 2, 3, 4, 5, 6, 7, 8, 9, 10, 11, 12]]⟩ .leaf .leaf) .leaf .leaf)) (.node 26 (.node 17 ⟨[⟨0, false, [], false, none⟩, ⟨1, false, [], false, none⟩, ⟨2, false, [], false, none⟩, ⟨3, false, [], false, none⟩, ⟨4, false, [], false, none⟩, ⟨5, false, [], false, none⟩, ⟨6, false, [], false, none⟩, ⟨7, false, [], false, none⟩, ⟨8, false, [], false, none⟩, ⟨9, false, [], false, none⟩, ⟨10, false, [], false, none⟩, ⟨11, false, [], false, none⟩, ⟨12, true, [], false, none⟩], [[], [], [], [], [2, 3], [2, 3, 4], [], [], [], [6, 7, 8], [2, 3, 4, 5, 6, 7, 8, 9], [0, 1, 2, 3, 4, 5, 6, 7, 8, 9, 10], [0, 1, 2, 3, 4, 5, 6, 7, 8, 9, 10, 11]]⟩ .leaf .leaf) (.node 25 (.node 6 ⟨[⟨0, false, [], false, none⟩, ⟨1, false, [], false, none⟩, ⟨2, false, [], false, none⟩, ⟨3, false, [], false, none⟩, ⟨4, false, [], false, none⟩, ⟨5, false, [], false, none⟩, ⟨6, false, [], false, none⟩, ⟨7, false, [], false, none⟩, ⟨8, false, [], false, none⟩], [[], [], [0, 1], [0, 1, 2], [], [], [4, 5], [4, 5, 6], [0, 1, 2, 3, 4, 5, 6, 7]]⟩ .leaf .leaf) .leaf .leaf) (.node 30 (.node 14 ⟨[⟨0, false, [], false, none⟩, ⟨1, false, [], false, none⟩, ⟨4, true, [], false, none⟩, ⟨2, false, [4], false, none⟩, ⟨3, false, [4], false, none⟩, ⟨5, false, [], false, none⟩], [[], [], [], [1, 2], [0, 1], [0, 1, 2, 3, 4]]⟩ .leaf .leaf) .leaf .leaf))) (.node 40 (.node 10 ⟨[⟨0, false, [], false, none⟩, ⟨1, false, [], false, none⟩, ⟨2, false, [], false, none⟩, ⟨3, false, [], false, none⟩, ⟨4, false, [], false, none⟩, ⟨5, false, [], false, none⟩, ⟨6, false, [], false, none⟩, ⟨7, false, [], false, none⟩, ⟨8, false, [], false, none⟩, ⟨9, false, [], false, none⟩, ⟨10, false, [], false, none⟩, ⟨11, false, [], false, none⟩, ⟨12, false, [], false, none⟩, ⟨13, false, [], false, none⟩, ⟨14, false, [], false, none⟩, ⟨15, false, [], false, none⟩], [[], [0], [0, 1], [0, 1], [0, 1, 2, 3], [0, 1, 2, 3, 4], [0, 1], [0, 1], [0, 1, 6, 7], [0, 1, 6, 7, 8], [0, 1], [0, 1, 6, 7, 8, 9, 10], [0, 1, 6, 7, 8, 9, 10, 11], [0, 1, 2, 3, 4, 5, 6, 7, 8, 9, 10, 11, 12], [0, 1, 2, 3, 4, 5, 6, 7, 8, 9, 10, 11, 12, 13], [0, 1, 2, 3, 4, 5, 6, 7, 8, 9, 10, 11, 12, 13, 14]]⟩ (.node 7 ⟨[⟨0, false, [], false, none⟩, ⟨1, false, [], false, none⟩, ⟨2, false, [], false, none⟩, ⟨3, false, [], false, none⟩, ⟨4, false, [], false, none⟩, ⟨5, false, [], false, none⟩, ⟨6, false, [], false, none⟩, ⟨7, false, [], false, none⟩, ⟨8, false, [], false, none⟩, ⟨9, false, [], false, none⟩, ⟨10, false, [], false, none⟩, ⟨11, false, [], false, none⟩, ⟨12, false, [], false, none⟩, ⟨13, false, [], false, none⟩, ⟨14, false, [], false, none⟩, ⟨15, false, [], false, none⟩, ⟨16, false, [], false, none⟩, ⟨17, false, [], false, none⟩, ⟨18, false, [], false, none⟩], [[], [], [0, 1], [0, 1, 2], [0, 1, 2, 3], [0, 1, 2, 3, 4], [0, 1, 2, 3, 4, 5], [0, 1, 2, 3, 4, 5], [0, 1, 2, 3, 4, 5, 6, 7], [0, 1, 2, 3, 4, 5, 6, 7, 8], [0, 1, 2, 3, 4, 5], [0, 1, 2, 3, 4, 5], [0, 1, 2, 3, 4, 5, 10, 11], [0, 1, 2, 3, 4, 5, 10, 11, 12], [0, 1, 2, 3, 4, 5], [0, 1, 2, 3, 4, 5, 10, 11, 12, 13, 14], [0, 1, 2, 3, 4, 5, 10, 11, 12, 13, 14, 15], [0, 1, 2, 3, 4, 5, 6, 7, 8, 9, 10, 11, 12, 13, 14, 15, 16], [0, 1, 2, 3, 4, 5, 6, 7, 8, 9, 10, 11, 12, 13, 14, 15, 16, 17]]⟩ .leaf .leaf) .leaf) (.node 37 (.node 6 ⟨[⟨0, false, [], false, none⟩, ⟨1, false, [], false, none⟩, ⟨2, false, [], false, none⟩, ⟨3, false, [], false, none⟩, ⟨4, false, [], false, none⟩, ⟨5, false, [], false, none⟩, ⟨6, false, [], false, none⟩, ⟨7, false, [], false, none⟩, ⟨8, false, [], false, none⟩], [[], [], [0, 1], [0, 1, 2], [], [], [4, 5], [4, 5, 6], [0, 1, 2, 3, 4, 5, 6, 7]]⟩ .leaf .leaf) (.node 32 (.node 9 ⟨[⟨0, false, [], false, none⟩, ⟨1, false, [], false, none⟩, ⟨2, false, [], false, none⟩, ⟨3, false, [], false, none⟩, ⟨4, false, [], false, none⟩, ⟨5, false, [], false, none⟩, ⟨6, false, [], false, none⟩, ⟨7, false, [], false, none⟩], [[], [], [], [0, 1, 2], [], [4], [4, 5], [0, 1, 2, 3, 4, 5, 6]]⟩ .leaf .leaf) .leaf .leaf) (.node 39 (.node 23 ⟨[⟨0, false, [], false, none⟩, ⟨1, false, [], false, none⟩, ⟨5, false, [], false, none⟩, ⟨6, false, [], false, none⟩, ⟨7, false, [], false, none⟩, ⟨8, false, [], false, none⟩, ⟨20, false, [], false, none⟩, ⟨21, false, [], false, none⟩, ⟨22, false, [], false, none⟩, ⟨23, true, [], false, none⟩, ⟨2, false, [23], false, none⟩, ⟨3, false, [23], false, none⟩, ⟨4, false, [23], false, none⟩, ⟨9, false, [23], false, none⟩, ⟨10, false, [23], false, none⟩, ⟨11, false, [23], false, none⟩, ⟨12, false, [23], false, none⟩, ⟨13, false, [23], false, none⟩, ⟨14, false, [23], false, none⟩, ⟨15, false, [23], false, none⟩, ⟨16, false, [23], false, none⟩, ⟨17, false, [23], false, none⟩, ⟨18, false, [23], false, none⟩, ⟨19, false, [23], false, none⟩, ⟨24, false, [23], false, none⟩, ⟨25, false, [23], false, none⟩, ⟨26, false, [], false, none⟩, ⟨27, true, [], false, none⟩], [[], [], [], [2], [], [], [], [5, 6], [5, 6, 7], [], [], [], [9, 11], [9, 10, 11, 12], [9, 10, 11, 12, 13], [], [], [15, 16], [15, 16, 17], [9, 10, 11, 12, 13, 14, 15, 16, 17, 18], [], [0, 20], [0, 1, 5, 6, 7, 8, 20, 21], [0, 1, 5, 6, 7, 8, 20, 21, 22], [], [2, 3, 24], [0, 1, 2, 3, 4, 5, 6, 7, 8, 9, 10, 11, 12, 13, 14, 15, 16, 17, 18, 19, 20, 21, 22, 23, 24, 25], [0, 1, 2, 3, 4, 5, 6, 7, 8, 9, 10, 11, 12, 13, 14, 15, 16, 17, 18, 19, 20, 21, 22, 23, 24, 25, 26]]⟩ (.node 14 ⟨[⟨0, false, [], false, none⟩, ⟨1, false, [], false, none⟩, ⟨2, false, [], false, none⟩, ⟨3, false, [], false, none⟩, ⟨4, false, [], false, none⟩, ⟨5, false, [], false, none⟩, ⟨6, false, [], false, none⟩, ⟨7, false, [], false, none⟩, ⟨8, false, [], false, none⟩, ⟨9, false, [], false, none⟩, ⟨10, false, [], false, none⟩, ⟨11, false, [], false, none⟩, ⟨12, false, [], false, none⟩, ⟨13, false, [], false, none⟩], [[], [], [1], [0, 1, 2], [0, 1, 2, 3], [0, 1, 2, 3, 4], [0, 1, 2, 3, 4], [0, 1, 2, 3, 4], [0, 1, 2, 3, 4], [0, 1, 2, 3, 4, 7, 8], [0, 1, 2, 3, 4, 7, 8, 9], [0, 1, 2, 3, 4, 6, 7, 8, 9, 10], [0, 1, 2, 3, 4, 5, 6, 7, 8, 9, 10, 11], [0, 1, 2, 3, 4, 5, 6, 7, 8, 9, 10, 11, 12]]⟩ .leaf .leaf) (.node 28 ⟨[⟨0, false, [], false, none⟩, ⟨1, false, [], false, none⟩, ⟨2, false, [], false, none⟩, ⟨3, false, [], false, none⟩, ⟨4, false, [], false, none⟩, ⟨5, false, [], false, none⟩, ⟨6, false, [], false, none⟩, ⟨7, false, [], false, none⟩, ⟨8, false, [], false, none⟩, ⟨9, false, [], false, none⟩, ⟨10, false, [], false, none⟩, ⟨11, false, [], false, none⟩, ⟨12, true, [], false, none⟩], [[], [], [1], [], [], [], [3, 5], [3, 4, 5, 6], [3, 4, 5, 6, 7], [], [0, 9], [0, 1, 2, 3, 4, 5, 6, 7, 8, 9, 10], [0, 1, 2, 3, 4, 5, 6, 7, 8, 9, 10, 11]]⟩ .leaf .leaf)) .leaf .leaf)) (.node 42 (.node 13 ⟨[⟨0, false, [], false, none⟩, ⟨1, false, [], false, none⟩, ⟨2, false, [], false, none⟩, ⟨3, false, [], false, none⟩, ⟨4, false, [], false, none⟩, ⟨5, false, [], false, none⟩, ⟨6, false, [], false, none⟩, ⟨7, false, [], false, none⟩, ⟨8, false, [], false, none⟩, ⟨9, false, [], false, none⟩, ⟨10, false, [], false, none⟩, ⟨11, false, [], false, none⟩, ⟨12, false, [], false, none⟩, ⟨13, false, [], false, none⟩, ⟨14, true, [], false, none⟩, ⟨15, false, [], false, none⟩], [[], [], [], [1, 2], [1, 2, 3], [], [1, 2, 3, 4, 5], [1, 2, 3, 4, 5, 6], [], [], [8, 9], [8, 9, 10], [1, 2, 3, 4, 5, 6, 7, 8, 9, 10, 11], [1, 2, 3, 4, 5, 6, 7, 8, 9, 10, 11, 12], [0, 1, 2, 3, 4, 5, 6, 7, 8, 9, 10, 11, 12, 13], [0, 1, 2, 3, 4, 5, 6, 7, 8, 9, 10, 11, 12, 13, 14]]⟩ .leaf .leaf) (.node 41 (.node 11 ⟨[⟨0, false, [], false, none⟩, ⟨1, false, [], false, none⟩, ⟨2, false, [], false, none⟩, ⟨3, false, [], false, none⟩, ⟨4, false, [], false, none⟩, ⟨5, false, [], false, none⟩, ⟨6, false, [], false, none⟩, ⟨7, false, [], false, none⟩, ⟨8, false, [], false, none⟩, ⟨9, false, [], false, none⟩, ⟨10, false, [], false, none⟩, ⟨11, false, [], false, none⟩, ⟨12, false, [], false, none⟩, ⟨13, false, [], false, none⟩, ⟨14, false, [], false, none⟩], [[], [], [0, 1], [0, 1, 2], [], [0, 1, 2, 3, 4], [0, 1, 2, 3, 4, 5], [], [], [7, 8], [7, 8, 9], [], [7, 8, 9, 10, 11], [7, 8, 9, 10, 11, 12], [0, 1, 2, 3, 4, 5, 6, 7, 8, 9, 10, 11, 12, 13]]⟩ (.node 6 ⟨[⟨0, false, [], false, none⟩, ⟨1, false, [], false, none⟩, ⟨2, false, [], false, none⟩, ⟨3, false, [], false, none⟩, ⟨4, false, [], false, none⟩, ⟨5, false, [], false, none⟩, ⟨6, false, [], false, none⟩, ⟨7, false, [], false, none⟩, ⟨8, false, [], false, none⟩, ⟨9, false, [], false, none⟩, ⟨10, false, [], false, none⟩], [[], [], [0, 1], [0, 1, 2], [0, 1, 2, 3], [], [], [5, 6], [5, 6, 7], [5, 6, 7, 8], [0, 1, 2, 3, 4, 5, 6, 7, 8, 9]]⟩ .leaf .leaf) .leaf) .leaf .leaf) (.node 43 (.node 7 ⟨[⟨0, false, [], false, none⟩, ⟨1, false, [], false, none⟩, ⟨2, false, [], false, none⟩, ⟨3, false, [], false, none⟩, ⟨4, false, [], false, none⟩, ⟨5, false, [], false, none⟩, ⟨6, false, [], false, none⟩, ⟨7, false, [], false, none⟩, ⟨8, false, [], false, none⟩, ⟨9, false, [], false, none⟩, ⟨10, false, [], false, none⟩, ⟨11, false, [], false, none⟩, ⟨12, false, [], false, none⟩, ⟨13, false, [], false, none⟩, ⟨14, false, [], false, none⟩, ⟨15, false, [], false, none⟩, ⟨16, false, [], false, none⟩], [[], [], [0, 1], [0, 1, 2], [0, 1, 2, 3], [], [], [5, 6], [5, 6, 7], [], [5, 6, 7, 8, 9], [5, 6, 7, 8, 9, 10], [5, 6, 7, 8, 9, 10, 11], [5, 6, 7, 8, 9, 10, 11, 12], [0, 1, 2, 3, 4, 5, 6, 7, 8, 9, 10, 11, 12, 13], [0, 1, 2, 3, 4, 5, 6, 7, 8, 9, 10, 11, 12, 13, 14], [0, 1, 2, 3, 4, 5, 6, 7, 8, 9, 10, 11, 12, 13, 14, 15]]⟩ .leaf .leaf) .leaf .leaf)))) (.node 72 (.node 1 ⟨[⟨0, false, [], false, none⟩, ⟨1, false, [], false, none⟩, ⟨2, false, [], false, none⟩, ⟨3, false, [], false, none⟩, ⟨4, false, [], false, none⟩, ⟨5, false, [], false, none⟩, ⟨6, false, [], false, none⟩, ⟨7, false, [], false, none⟩, ⟨8, false, [], false, none⟩, ⟨9, false, [], false, none⟩, ⟨10, false, [], false, none⟩, ⟨11, false, [], false, none⟩], [[], [0], [], [2], [2, 3], [2, 3, 4], [], [6], [6, 7], [6, 7, 8], [0, 1, 2, 3, 4, 5, 6, 7, 8, 9], [0, 1, 2, 3, 4, 5, 6, 7, 8, 9, 10]]⟩ .leaf .leaf) (.node 65 (.node 9 ⟨[⟨0, false, [], false, none⟩, ⟨1, false, [], false, none⟩, ⟨2, false, [], false, none⟩, ⟨3, false, [], false, none⟩, ⟨4, false, [], false, none⟩, ⟨5, false, [], false, none⟩, ⟨6, false, [], false, none⟩, ⟨7, false, [], false, none⟩, ⟨8, false, [], false, none⟩, ⟨9, false, [], false, none⟩, ⟨10, false, [], false, none⟩, ⟨11, false, [], false, none⟩, ⟨12, false, [], false, none⟩, ⟨13, false, [], false, none⟩], [[], [], [], [1, 2], [1, 2, 3], [], [], [], [6, 7], [5, 6, 7, 8], [5, 6, 7, 8, 9], [1, 2, 3, 4, 5, 6, 7, 8, 9, 10], [0, 1, 2, 3, 4, 5, 6, 7, 8, 9, 10, 11], [0, 1, 2, 3, 4, 5, 6, 7, 8, 9, 10, 11, 12]]⟩ .leaf .leaf) (.node 50 (.node 12 ⟨[⟨0, false, [], false, none⟩, ⟨1, false, [], false, none⟩, ⟨2, false, [], false, none⟩, ⟨3, false, [], false, none⟩, ⟨4, false, [], false, none⟩, ⟨5, false, [], false, none⟩, ⟨6, false, [], false, none⟩, ⟨7, false, [], false, none⟩, ⟨8, false, [], false, none⟩, ⟨9, false, [], false, none⟩, ⟨10, false, [], false, none⟩, ⟨11, false, [], false, none⟩, ⟨12, false, [], false, none⟩, ⟨13, false, [], false, none⟩, ⟨14, false, [], false, none⟩, ⟨15, false, [], false, none⟩, ⟨16, false, [], false, none⟩, ⟨17, false, [], false, none⟩, ⟨18, false, [], false, none⟩, ⟨19, false, [], false, none⟩, ⟨20, false, [], false, none⟩, ⟨21, false, [], false, none⟩, ⟨22, false, [], false, none⟩, ⟨23, true, [], false, none⟩], [[], [], [], [], [2, 3], [2, 3, 4], [], [], [6, 7], [6, 7, 8], [], [6, 7, 8, 9, 10], [6, 7, 8, 9, 10, 11], [], [], [13, 14], [13, 14, 15], [], [13, 14, 15, 16, 17], [13, 14, 15, 16, 17, 18], [6, 7, 8, 9, 10, 11, 12, 13, 14, 15, 16, 17, 18, 19], [2, 3, 4, 5, 6, 7, 8, 9, 10, 11, 12, 13, 14, 15, 16, 17, 18, 19, 20], [0, 1, 2, 3, 4, 5, 6, 7, 8, 9, 10, 11, 12, 13, 14, 15, 16, 17, 18, 19, 20, 21], [0, 1, 2, 3, 4, 5, 6, 7, 8, 9, 10, 11, 12, 13, 14, 15, 16, 17, 18, 19, 20, 21, 22]]⟩ .leaf .leaf) (.node 45 (.node 4 ⟨[⟨0, false, [], false, none⟩, ⟨1, false, [], false, none⟩, ⟨2, false, [], false, none⟩, ⟨3, false, [], false, none⟩, ⟨4, false, [], false, none⟩, ⟨5, false, [], false, none⟩, ⟨6, false, [], false, none⟩, ⟨7, false, [], false, none⟩, ⟨8, false, [], false, none⟩, ⟨9, false, [], false, none⟩, ⟨10, false, [], false, none⟩, ⟨11, false, [], false, none⟩, ⟨12, false, [], false, none⟩, ⟨13, false, [], false, none⟩, ⟨14, false, [], false, none⟩], [[], [], [0, 1], [0, 1, 2], [], [0, 1, 2, 3, 4], [0, 1, 2, 3, 4, 5], [], [], [7, 8], [7, 8, 9], [], [7, 8, 9, 10, 11], [7, 8, 9, 10, 11, 12], [0, 1, 2, 3, 4, 5, 6, 7, 8, 9, 10, 11, 12, 13]]⟩ .leaf .leaf) .leaf .leaf) (.node 63 (.node 22 ⟨[⟨0, false, [], false, none⟩, ⟨1, false, [], false, none⟩, ⟨2, false, [], false, none⟩, ⟨3, false, [], false, none⟩, ⟨4, false, [], false, none⟩, ⟨5, false, [], false, none⟩, ⟨6, false, [], false, none⟩, ⟨7, false, [], false, none⟩, ⟨8, false, [], false, none⟩, ⟨9, false, [], false, none⟩, ⟨10, false, [], false, none⟩, ⟨11, false, [], false, none⟩, ⟨12, false, [], false, none⟩, ⟨13, false, [], false, none⟩, ⟨14, false, [], false, none⟩, ⟨15, false, [], false, none⟩, ⟨16, false, [], false, none⟩, ⟨17, false, [], false, none⟩, ⟨18, false, [], false, none⟩, ⟨19, false, [], false, none⟩, ⟨20, false, [], false, none⟩, ⟨21, false, [], false, none⟩, ⟨22, false, [], false, none⟩, ⟨23, false, [], false, none⟩, ⟨24, false, [], false, none⟩, ⟨25, false, [], false, none⟩, ⟨26, false, [], false, none⟩, ⟨27, false, [], false, none⟩, ⟨28, false, [], false, none⟩, ⟨29, true, [], false, none⟩], [[], [], [0, 1], [0, 1, 2], [], [], [], [5, 6], [5, 6, 7], [], [5, 6, 7, 8, 9], [5, 6, 7, 8, 9, 10], [], [], [12, 13], [12, 13, 14], [], [12, 13, 14, 15, 16], [12, 13, 14, 15, 16, 17], [], [], [19, 20], [19, 20, 21], [], [19, 20, 21, 22, 23], [19, 20, 21, 22, 23, 24], [12, 13, 14, 15, 16, 17, 18, 19, 20, 21, 22, 23, 24, 25], [5, 6, 7, 8, 9, 10, 11, 12, 13, 14, 15, 16, 17, 18, 19, 20, 21, 22, 23, 24, 25, 26], [0, 1, 2, 3, 4, 5, 6, 7, 8, 9, 10, 11, 12, 13, 14, 15, 16, 17, 18, 19, 20, 21, 22, 23, 24, 25, 26, 27], [0, 1, 2, 3, 4, 5, 6, 7, 8, 9, 10, 11, 12, 13, 14, 15, 16, 17, 18, 19, 20, 21, 22, 23, 24, 25, 26, 27, 28]]⟩ .leaf .leaf) .leaf .leaf)) (.node 69 (.node 11 ⟨[⟨0, false, [], false, none⟩, ⟨1, false, [], false, none⟩, ⟨2, false, [], false, none⟩, ⟨3, false, [], false, none⟩, ⟨4, false, [], false, none⟩, ⟨5, false, [], false, none⟩, ⟨6, false, [], false, none⟩, ⟨7, false, [], false, none⟩, ⟨8, false, [], false, none⟩, ⟨9, false, [], false, none⟩, ⟨10, false, [], false, none⟩, ⟨11, false, [], false, none⟩, ⟨12, false, [], false, none⟩, ⟨13, false, [], false, none⟩, ⟨14, false, [], false, none⟩, ⟨15, false, [], false, none⟩, ⟨16, false, [], false, none⟩, ⟨17, false, [], false, none⟩, ⟨18, false, [], false, none⟩, ⟨19, false, [], false, none⟩, ⟨20, false, [], false, none⟩, ⟨21, false, [], false, none⟩, ⟨22, false, [], false, none⟩], [[], [], [], [], [2, 3], [2, 3, 4], [], [2, 3, 4, 5, 6], [2, 3, 4, 5, 6, 7], [1, 2, 3, 4, 5, 6, 7, 8], [], [], [], [12], [11, 12, 13], [], [], [16], [15, 16, 17], [10, 11, 12, 13, 14, 15, 16, 17, 18], [1, 2, 3, 4, 5, 6, 7, 8, 9, 10, 11, 12, 13, 14, 15, 16, 17, 18, 19], [0, 1, 2, 3, 4, 5, 6, 7, 8, 9, 10, 11, 12, 13, 14, 15, 16, 17, 18, 19, 20], [0, 1, 2, 3, 4, 5, 6, 7, 8, 9, 10, 11, 12, 13, 14, 15, 16, 17, 18, 19, 20, 21]]⟩ .leaf .leaf) (.node 67 (.node 28 ⟨[⟨0, false, [], false, none⟩, ⟨1, false, [], false, none⟩, ⟨2, false, [], false, none⟩, ⟨3, false, [], false, none⟩, ⟨4, false, [], false, none⟩, ⟨5, false, [], false, none⟩, ⟨6, false, [], false, none⟩, ⟨7, false, [], false, none⟩, ⟨8, false, [], false, none⟩, ⟨9, false, [], false, none⟩, ⟨10, false, [], false, none⟩, ⟨11, false, [], false, none⟩, ⟨12, false, [], false, none⟩, ⟨13, false, [], false, none⟩, ⟨14, false, [], false, none⟩, ⟨15, false, [], false, none⟩, ⟨16, false, [], false, none⟩, ⟨17, false, [], false, none⟩, ⟨18, false, [], false, none⟩, ⟨19, false, [], false, none⟩, ⟨20, false, [], false, none⟩, ⟨21, false, [], false, none⟩, ⟨22, false, [], false, none⟩, ⟨23, true, [], false, none⟩], [[], [], [], [0], [0, 3], [0, 1, 3, 4], [0, 1, 2, 3, 4, 5], [0, 1, 2, 3, 4, 5, 6], [], [], [], [], [9], [9, 12], [9, 10, 12, 13], [9, 10, 11, 12, 13, 14], [9, 10, 11, 12, 13, 14, 15], [8, 9, 10, 11, 12, 13, 14, 15, 16], [0, 1, 2, 3, 4, 5, 6, 7, 8, 9, 10, 11, 12, 13, 14, 15, 16, 17], [0], [0, 19], [0, 1, 19, 20], [0, 1, 2, 3, 4, 5, 6, 7, 8, 9, 10, 11, 12, 13, 14, 15, 16, 17, 18, 19, 20, 21], [0, 1, 2, 3, 4, 5, 6, 7, 8, 9, 10, 11, 12, 13, 14, 15, 16, 17, 18, 19, 20, 21, 22]]⟩ (.node 13 ⟨[⟨0, false, [], false, none⟩, ⟨1, false, [], false, none⟩, ⟨5, false, [], false, none⟩, ⟨6, false, [], false, none⟩, ⟨7, false, [], false, none⟩, ⟨8, false, [], false, none⟩, ⟨9, false, [], false, none⟩, ⟨10, false, [], false, none⟩, ⟨11, false, [], false, none⟩, ⟨12, false, [], false, none⟩, ⟨13, false, [], false, none⟩, ⟨14, false, [], false, none⟩, ⟨15, false, [], false, none⟩, ⟨16, false, [], false, none⟩, ⟨17, false, [], false, none⟩, ⟨18, false, [], false, none⟩, ⟨19, false, [], false, none⟩, ⟨20, false, [], false, none⟩, ⟨21, true, [], false, none⟩, ⟨2, false, [21], false, none⟩, ⟨3, false, [21], false, none⟩, ⟨4, false, [21], false, none⟩, ⟨22, false, [21], false, none⟩, ⟨23, false, [21], false, none⟩, ⟨24, false, [], false, none⟩, ⟨25, true, [], false, none⟩], [[], [], [], [], [3], [], [], [6], [5], [5, 8], [5, 6, 7, 8, 9], [5, 6, 7, 8, 9, 10], [], [], [12], [12, 14], [12, 13, 14, 15], [12, 13, 14, 15, 16], [0], [0, 18], [0, 1, 5, 6, 7, 8, 9, 10, 11, 12, 13, 14, 15, 16, 17, 18, 19], [0, 1, 5, 6, 7, 8, 9, 10, 11, 12, 13, 14, 15, 16, 17, 18, 19, 20], [2], [2, 22], [0, 1, 2, 3, 4, 5, 6, 7, 8, 9, 10, 11, 12, 13, 14, 15, 16, 17, 18, 19, 20, 21, 22, 23], [0, 1, 2, 3, 4, 5, 6, 7, 8, 9, 10, 11, 12, 13, 14, 15, 16, 17, 18, 19, 20, 21, 22, 23, 24]]⟩ (.node 9 ⟨[⟨0, false, [], false, none⟩, ⟨1, false, [], false, none⟩, ⟨2, false, [], false, none⟩, ⟨3, false, [], false, none⟩, ⟨4, false, [], false, none⟩, ⟨5, false, [], false, none⟩, ⟨6, false, [], false, none⟩, ⟨7, false, [], false, none⟩, ⟨8, false, [], false, none⟩, ⟨9, false, [], false, none⟩, ⟨10, false, [], false, none⟩, ⟨11, false, [], false, none⟩, ⟨12, false, [], false, none⟩, ⟨13, false, [], false, none⟩, ⟨14, false, [], false, none⟩, ⟨15, false, [], false, none⟩, ⟨16, false, [], false, none⟩, ⟨17, false, [], false, none⟩, ⟨18, false, [], false, none⟩, ⟨19, false, [], false, none⟩, ⟨20, false, [], false, none⟩, ⟨21, false, [], false, none⟩, ⟨22, false, [], false, none⟩], [[], [0], [0, 1], [0, 1, 2], [0, 1, 2, 3], [0, 1, 2, 3, 4], [0, 1, 2, 3, 4, 5], [0, 1, 2, 3, 4, 5, 6], [0, 1, 2, 3, 4, 5, 6, 7], [0, 1, 2, 3, 4, 5, 6], [0, 1, 2, 3, 4, 5, 6], [0, 1, 2, 3, 4, 5, 6, 10], [0, 1, 2, 3, 4, 5, 6], [0, 1, 2, 3, 4, 5, 6, 12], [0, 1, 2, 3, 4, 5, 6, 9], [0, 1, 2, 3, 4, 5, 6, 9, 14], [0, 1, 2, 3, 4, 5, 6, 9, 10, 11, 14, 15], [0, 1, 2, 3, 4, 5, 6, 9, 10, 11, 12, 13, 14, 15, 16], [0, 1, 2, 3, 4, 5, 6, 9, 10, 11, 12, 13, 14, 15, 16, 17], [0, 1, 2, 3, 4, 5, 6, 7, 8, 9, 10, 11, 12, 13, 14, 15, 16, 17, 18], [0, 1, 2, 3, 4, 5, 6, 7, 8, 9, 10, 11, 12, 13, 14, 15, 16, 17, 18, 19], [0, 1, 2, 3, 4, 5, 6, 7, 8, 9, 10, 11, 12, 13, 14, 15, 16, 17, 18, 19, 20], [0, 1, 2, 3, 4, 5, 6, 7, 8, 9, 10, 11, 12, 13, 14, 15, 16, 17, 18, 19, 20, 21]]⟩ .leaf .leaf) (.node 17 ⟨[⟨0, false, [], false, none⟩, ⟨1, false, [], false, none⟩, ⟨2, false, [], false, none⟩, ⟨7, false, [], false, none⟩, ⟨8, false, [], false, none⟩, ⟨9, false, [], false, none⟩, ⟨10, false, [], false, none⟩, ⟨11, false, [], false, none⟩, ⟨12, false, [], false, none⟩, ⟨13, false, [], false, none⟩, ⟨14, false, [], false, none⟩, ⟨15, false, [], false, none⟩, ⟨16, false, [], false, none⟩, ⟨17, false, [], false, none⟩, ⟨18, false, [], false, none⟩, ⟨19, false, [], false, none⟩, ⟨20, false, [], false, none⟩, ⟨21, false, [], false, none⟩, ⟨22, false, [], false, none⟩, ⟨23, false, [], false, none⟩, ⟨24, false, [], false, none⟩, ⟨25, false, [], false, none⟩, ⟨26, false, [], false, none⟩, ⟨27, false, [], false, none⟩, ⟨28, true, [], false, none⟩, ⟨3, false, [28], false, none⟩, ⟨4, false, [28], false, none⟩, ⟨5, false, [28], false, none⟩, ⟨6, false, [28], false, none⟩, ⟨29, false, [28], false, none⟩, ⟨30, false, [28], false, none⟩, ⟨31, false, [28], false, none⟩, ⟨32, false, [], false, none⟩, ⟨33, true, [], false, none⟩], [[], [], [], [], [], [], [5], [], [], [], [9], [7], [7, 11], [7, 8, 11, 12], [7, 8, 9, 10, 11, 12, 13], [7, 8, 9, 10, 11, 12, 13, 14], [], [], [], [16], [16, 19], [16, 17, 19, 20], [16, 17, 18, 19, 20, 21], [16, 17, 18, 19, 20, 21, 22], [0], [0, 24], [0, 1, 24, 25], [0, 1, 2, 7, 8, 9, 10, 11, 12, 13, 14, 15, 16, 17, 18, 19, 20, 21, 22, 23, 24, 25, 26], [0, 1, 2, 7, 8, 9, 10, 11, 12, 13, 14, 15, 16, 17, 18, 19, 20, 21, 22, 23, 24, 25, 26, 27], [3], [3, 29], [3, 4, 29, 30], [0, 1, 2, 3, 4, 5, 6, 7, 8, 9, 10, 11, 12, 13, 14, 15, 16, 17, 18, 19, 20, 21, 22, 23, 24, 25, 26, 27, 28, 29, 30, 31], [0, 1, 2, 3, 4, 5, 6, 7, 8, 9, 10, 11, 12, 13, 14, 15, 16, 17, 18, 19, 20, 21, 22, 23, 24, 25, 26, 27, 28, 29, 30, 31, 32]]⟩ .leaf .leaf)) (.node 54 ⟨[⟨0, false, [], false, none⟩, ⟨1, false, [], false, none⟩, ⟨2, false, [], false, none⟩, ⟨3, false, [], false, none⟩, ⟨4, false, [], false, none⟩, ⟨5, false, [], false, none⟩, ⟨6, false, [], false, none⟩, ⟨7, false, [], false, none⟩, ⟨8, false, [], false, none⟩, ⟨9, false, [], false, none⟩, ⟨10, false, [], false, none⟩, ⟨11, false, [], false, none⟩, ⟨12, false, [], false, none⟩, ⟨13, false, [], false, none⟩, ⟨14, false, [], false, none⟩, ⟨15, false, [], false, none⟩, ⟨16, false, [], false, none⟩, ⟨17, false, [], false, none⟩, ⟨18, false, [], false, none⟩, ⟨19, false, [], false, none⟩, ⟨20, false, [], false, none⟩, ⟨21, true, [], false, none⟩], [[], [], [], [0], [0, 3], [0, 1, 3, 4], [0, 1, 2, 3, 4, 5], [0, 1, 2, 3, 4, 5, 6], [], [], [], [8], [8, 11], [8, 9, 11, 12], [8, 9, 10, 11, 12, 13], [8, 9, 10, 11, 12, 13, 14], [0, 1, 2, 3, 4, 5, 6, 7, 8, 9, 10, 11, 12, 13, 14, 15], [0], [0, 17], [0, 1, 17, 18], [0, 1, 2, 3, 4, 5, 6, 7, 8, 9, 10, 11, 12, 13, 14, 15, 16, 17, 18, 19], [0, 1, 2, 3, 4, 5, 6, 7, 8, 9, 10, 11, 12, 13, 14, 15, 16, 17, 18, 19, 20]]⟩ (.node 37 ⟨[⟨0, false, [], false, none⟩, ⟨1, false, [], false, none⟩, ⟨2, false, [], false, none⟩, ⟨3, false, [], false, none⟩, ⟨4, false, [], false, none⟩, ⟨5, false, [], false, none⟩, ⟨6, false, [], false, none⟩, ⟨7, false, [], false, none⟩, ⟨8, false, [], false, none⟩, ⟨9, false, [], false, none⟩, ⟨10, false, [], false, none⟩, ⟨11, false, [], false, none⟩, ⟨12, false, [], false, none⟩, ⟨13, false, [], false, none⟩, ⟨14, false, [], false, none⟩, ⟨15, false, [], false, none⟩, ⟨16, false, [], false, none⟩, ⟨17, false, [], false, none⟩, ⟨18, false, [], false, none⟩, ⟨19, false, [], false, none⟩, ⟨20, false, [], false, none⟩, ⟨21, false, [], false, none⟩, ⟨22, false, [], false, none⟩, ⟨23, true, [], false, none⟩], [[], [], [], [0], [0, 3], [0, 1, 3, 4], [0, 1, 2, 3, 4, 5], [0, 1, 2, 3, 4, 5, 6], [], [], [], [], [9], [9, 12], [9, 10, 12, 13], [9, 10, 11, 12, 13, 14], [9, 10, 11, 12, 13, 14, 15], [8, 9, 10, 11, 12, 13, 14, 15, 16], [0, 1, 2, 3, 4, 5, 6, 7, 8, 9, 10, 11, 12, 13, 14, 15, 16, 17], [0], [0, 19], [0, 1, 19, 20], [0, 1, 2, 3, 4, 5, 6, 7, 8, 9, 10, 11, 12, 13, 14, 15, 16, 17, 18, 19, 20, 21], [0, 1, 2, 3, 4, 5, 6, 7, 8, 9, 10, 11, 12, 13, 14, 15, 16, 17, 18, 19, 20, 21, 22]]⟩ .leaf .leaf) .leaf)) .leaf .leaf) (.node 71 (.node 2 ⟨[⟨0, false, [], false, none⟩, ⟨1, false, [], false, none⟩, ⟨2, false, [], false, none⟩, ⟨3, false, [], false, none⟩, ⟨4, false, [], false, none⟩, ⟨5, false, [], false, none⟩], [[], [], [], [1, 2], [0, 1], [0, 1, 2, 3, 4]]⟩ .leaf .leaf) .leaf .leaf))) (.node 80 (.node 5 ⟨[⟨0, false, [], false, none⟩, ⟨1, false, [], false, none⟩, ⟨2, false, [], false, none⟩, ⟨3, false, [], false, none⟩, ⟨4, false, [], false, none⟩, ⟨5, false, [], false, none⟩, ⟨6, true, [], false, none⟩, ⟨7, false, [], false, none⟩], [[], [], [0, 1], [], [], [3, 4], [0, 1, 2, 3, 4, 5], [0, 1, 2, 3, 4, 5, 6]]⟩ .leaf .leaf) (.node 77 (.node 3 ⟨[⟨0, false, [], false, none⟩, ⟨1, false, [], false, none⟩, ⟨2, false, [], false, none⟩, ⟨3, false, [], false, none⟩, ⟨4, false, [], false, none⟩, ⟨5, false, [], false, none⟩, ⟨6, false, [], false, none⟩, ⟨7, false, [], false, none⟩, ⟨8, false, [], false, none⟩], [[], [], [0, 1], [0, 1, 2], [], [0, 1, 2, 3, 4], [], [0, 1, 2, 3, 4, 5, 6], [0, 1, 2, 3, 4, 5, 6, 7]]⟩ .leaf .leaf) (.node 73 (.node 16 ⟨[⟨0, false, [], false, none⟩, ⟨1, false, [], false, none⟩, ⟨2, false, [], false, none⟩, ⟨3, false, [], false, none⟩, ⟨4, false, [], false, none⟩, ⟨5, false, [], false, none⟩], [[], [], [1], [1, 2], [0, 1, 2, 3], [0, 1, 2, 3, 4]]⟩ (.node 13 ⟨[⟨0, false, [], false, none⟩, ⟨1, false, [], false, none⟩, ⟨2, false, [], false, none⟩, ⟨3, false, [], false, none⟩, ⟨4, false, [], false, none⟩, ⟨5, false, [], false, none⟩, ⟨6, false, [], false, none⟩, ⟨7, false, [], false, none⟩, ⟨8, false, [], false, none⟩, ⟨9, false, [], false, none⟩, ⟨10, false, [], false, none⟩, ⟨11, false, [], false, none⟩, ⟨12, false, [], false, none⟩, ⟨13, false, [], false, none⟩, ⟨14, false, [], false, none⟩, ⟨15, false, [], false, none⟩, ⟨16, true, [], false, none⟩], [[], [], [], [0, 2], [0, 1, 2, 3], [0, 1, 2, 3, 4], [], [], [], [6, 8], [6, 7, 8, 9], [6, 7, 8, 9, 10], [0, 1, 2, 3, 4, 5, 6, 7, 8, 9, 10, 11], [], [0, 13], [0, 1, 2, 3, 4, 5, 6, 7, 8, 9, 10, 11, 12, 13, 14], [0, 1, 2, 3, 4, 5, 6, 7, 8, 9, 10, 11, 12, 13, 14, 15]]⟩ .leaf .leaf) .leaf) .leaf .leaf) (.node 79 (.node 8 ⟨[⟨0, false, [], false, none⟩, ⟨1, false, [], false, none⟩, ⟨2, false, [], false, none⟩, ⟨3, false, [], false, none⟩, ⟨4, false, [], false, none⟩, ⟨5, false, [], false, none⟩, ⟨6, false, [], false, none⟩, ⟨7, false, [], false, none⟩, ⟨8, false, [], false, none⟩, ⟨9, false, [], false, none⟩, ⟨10, false, [], false, none⟩, ⟨11, true, [], false, none⟩], [[], [], [], [], [], [2, 4], [2, 3, 4, 5], [2, 3, 4, 5, 6], [], [0, 8], [0, 1, 2, 3, 4, 5, 6, 7, 8, 9], [0, 1, 2, 3, 4, 5, 6, 7, 8, 9, 10]]⟩ .leaf .leaf) .leaf .leaf)) (.node 85 (.node 14 ⟨[⟨0, false, [], false, none⟩, ⟨1, false, [], false, none⟩, ⟨2, false, [], false, none⟩, ⟨3, false, [], false, none⟩, ⟨4, false, [], false, none⟩, ⟨5, false, [], false, none⟩, ⟨6, false, [], false, none⟩, ⟨7, true, [], false, none⟩], [[], [], [], [2], [], [0, 4], [0, 1, 2, 3, 4, 5], [0, 1, 2, 3, 4, 5, 6]]⟩ (.node 12 ⟨[⟨0, false, [], false, none⟩, ⟨1, false, [], false, none⟩, ⟨2, false, [], false, none⟩, ⟨3, false, [], false, none⟩, ⟨4, false, [], false, none⟩, ⟨5, false, [], false, none⟩, ⟨6, false, [], false, none⟩, ⟨7, false, [], false, none⟩, ⟨8, false, [], false, none⟩, ⟨9, false, [], false, none⟩, ⟨10, false, [], false, none⟩, ⟨11, false, [], false, none⟩, ⟨12, false, [], false, none⟩, ⟨13, false, [], false, none⟩, ⟨14, false, [], false, none⟩, ⟨15, true, [], false, none⟩, ⟨16, false, [], false, none⟩], [[], [], [], [], [1, 3], [1, 2, 3, 4], [1, 2, 3, 4, 5], [], [], [], [7, 9], [7, 8, 9, 10], [7, 8, 9, 10, 11], [1, 2, 3, 4, 5, 6, 7, 8, 9, 10, 11, 12], [1, 2, 3, 4, 5, 6, 7, 8, 9, 10, 11, 12, 13], [0, 1, 2, 3, 4, 5, 6, 7, 8, 9, 10, 11, 12, 13, 14], [0, 1, 2, 3, 4, 5, 6, 7, 8, 9, 10, 11, 12, 13, 14, 15]]⟩ .leaf .leaf) .leaf) (.node 81 (.node 5 ⟨[⟨0, false, [], false, none⟩, ⟨1, false, [], false, none⟩, ⟨2, false, [], false, none⟩, ⟨3, false, [], false, none⟩, ⟨4, false, [], false, none⟩, ⟨5, false, [], false, none⟩, ⟨6, true, [], false, none⟩, ⟨7, false, [], false, none⟩], [[], [], [0, 1], [], [], [3, 4], [0, 1, 2, 3, 4, 5], [0, 1, 2, 3, 4, 5, 6]]⟩ .leaf .leaf) .leaf .leaf) (.node 88 (.node 7 ⟨[⟨0, false, [], false, none⟩, ⟨1, false, [], false, none⟩, ⟨2, false, [], false, none⟩, ⟨3, false, [], false, none⟩, ⟨4, false, [], false, none⟩, ⟨5, false, [], false, none⟩, ⟨6, false, [], false, none⟩, ⟨7, false, [], false, none⟩, ⟨8, false, [], false, none⟩, ⟨9, false, [], false, none⟩, ⟨10, false, [], false, none⟩, ⟨11, false, [], false, none⟩, ⟨12, true, [], false, none⟩], [[], [], [], [], [], [2, 4], [2, 3, 4, 5], [2, 3, 4, 5, 6], [2, 3, 4, 5, 6, 7], [], [0, 9], [0, 1, 2, 3, 4, 5, 6, 7, 8, 9, 10], [0, 1, 2, 3, 4, 5, 6, 7, 8, 9, 10, 11]]⟩ .leaf .leaf) .leaf .leaf)))))

noncomputable def aePlan (f b : Nat) : Option Plan := match tget aePlanT f with
  | some t => tget t b
  | none => none

noncomputable def aeC : Ctx := ⟨aeT, aeRets, aeIso, aePol, aeXPol, aePlan⟩

noncomputable def aeF : Tab Func :=
  (.node 55 Try.f55 (.node 27 Try.f27 (.node 13 Try.f13 (.node 6 Try.f6 (.node 3 Try.f3 (.node 1 Try.f1 (.node 0 Try.f0 .leaf .leaf) (.node 2 Try.f2 .leaf .leaf)) (.node 5 Try.f5 (.node 4 Try.f4 .leaf .leaf) .leaf)) (.node 10 Try.f10 (.node 8 Try.f8 (.node 7 Try.f7 .leaf .leaf) (.node 9 Try.f9 .leaf .leaf)) (.node 12 Try.f12 (.node 11 Try.f11 .leaf .leaf) .leaf))) (.node 20 Try.f20 (.node 17 Try.f17 (.node 15 Try.f15 (.node 14 Try.f14 .leaf .leaf) (.node 16 Try.f16 .leaf .leaf)) (.node 19 Try.f19 (.node 18 Try.f18 .leaf .leaf) .leaf)) (.node 24 Try.f24 (.node 22 Try.f22 (.node 21 Try.f21 .leaf .leaf) (.node 23 Try.f23 .leaf .leaf)) (.node 26 Try.f26 (.node 25 Try.f25 .leaf .leaf) .leaf)))) (.node 41 Try.f41 (.node 34 Try.f34 (.node 31 Try.f31 (.node 29 Try.f29 (.node 28 Try.f28 .leaf .leaf) (.node 30 Try.f30 .leaf .leaf)) (.node 33 Try.f33 (.node 32 Try.f32 .leaf .leaf) .leaf)) (.node 38 Try.f38 (.node 36 Try.f36 (.node 35 Try.f35 .leaf .leaf) (.node 37 Try.f37 .leaf .leaf)) (.node 40 Try.f40 (.node 39 Try.f39 .leaf .leaf) .leaf))) (.node 48 Try.f48 (.node 45 Try.f45 (.node 43 Try.f43 (.node 42 Try.f42 .leaf .leaf) (.node 44 Try.f44 .leaf .leaf)) (.node 47 Try.f47 (.node 46 Try.f46 .leaf .leaf) .leaf)) (.node 52 Try.f52 (.node 50 Try.f50 (.node 49 Try.f49 .leaf .leaf) (.node 51 Try.f51 .leaf .leaf)) (.node 54 Try.f54 (.node 53 Try.f53 .leaf .leaf) .leaf))))) (.node 83 Try.f83 (.node 69 Try.f69 (.node 62 Try.f62 (.node 59 Try.f59 (.node 57 Try.f57 (.node 56 Try.f56 .leaf .leaf) (.node 58 Try.f58 .leaf .leaf)) (.node 61 Try.f61 (.node 60 Try.f60 .leaf .leaf) .leaf)) (.node 66 Try.f66 (.node 64 Try.f64 (.node 63 Try.f63 .leaf .leaf) (.node 65 Try.f65 .leaf .leaf)) (.node 68 Try.f68 (.node 67 Try.f67 .leaf .leaf) .leaf))) (.node 76 Try.f76 (.node 73 Try.f73 (.node 71 Try.f71 (.node 70 Try.f70 .leaf .leaf) (.node 72 Try.f72 .leaf .leaf)) (.node 75 Try.f75 (.node 74 Try.f74 .leaf .leaf) .leaf)) (.node 80 Try.f80 (.node 78 Try.f78 (.node 77 Try.f77 .leaf .leaf) (.node 79 Try.f79 .leaf .leaf)) (.node 82 Try.f82 (.node 81 Try.f81 .leaf .leaf) .leaf)))) (.node 97 Try.f97 (.node 90 Try.f90 (.node 87 Try.f87 (.node 85 Try.f85 (.node 84 Try.f84 .leaf .leaf) (.node 86 Try.f86 .leaf .leaf)) (.node 89 Try.f89 (.node 88 Try.f88 .leaf .leaf) .leaf)) (.node 94 Try.f94 (.node 92 Try.f92 (.node 91 Try.f91 .leaf .leaf) (.node 93 Try.f93 .leaf .leaf)) (.node 96 Try.f96 (.node 95 Try.f95 .leaf .leaf) .leaf))) (.node 104 Try.f104 (.node 101 Try.f101 (.node 99 Try.f99 (.node 98 Try.f98 .leaf .leaf) (.node 100 Try.f100 .leaf .leaf)) (.node 103 Try.f103 (.node 102 Try.f102 .leaf .leaf) .leaf)) (.node 107 Try.f107 (.node 106 Try.f106 (.node 105 Try.f105 .leaf .leaf) .leaf) (.node 109 Try.f109 (.node 108 Try.f108 .leaf .leaf) .leaf))))))

end Go.Proofs.Ytjfopbpkophoeaa

/- The abstract machine of the seat is sound: written by a program of this session (wip/tools/aectx.py). -/
namespace Go.Proofs.Ytjfopbpkophoeaa
open Go Go.AE
set_option maxRecDepth 100000
theorem aeT_ok : tableOK Try.prog aeT = true := by decide +kernel
theorem aeE_ok : eqTab Try.prog aeT = true := by decide +kernel
theorem aeCode_ok : aeF.all (fun f fn => match fn.body with | some c => okCode aeC f fn.ntmps c | none => true) = true := by decide +kernel
theorem aeName_ok : aeF.all (fun _ fn => !(fn.name == "runtime.NumGoroutine")) = true := by decide +kernel
theorem aeAt_ok : aeF.All (fun f fn => Try.prog.funcs[f]? = some fn) :=
  ⟨rfl, ⟨rfl, ⟨rfl, ⟨rfl, ⟨rfl, ⟨rfl, ⟨rfl, trivial, trivial⟩, ⟨rfl, trivial, trivial⟩⟩, ⟨rfl, ⟨rfl, trivial, trivial⟩, trivial⟩⟩, ⟨rfl, ⟨rfl, ⟨rfl, trivial, trivial⟩, ⟨rfl, trivial, trivial⟩⟩, ⟨rfl, ⟨rfl, trivial, trivial⟩, trivial⟩⟩⟩, ⟨rfl, ⟨rfl, ⟨rfl, ⟨rfl, trivial, trivial⟩, ⟨rfl, trivial, trivial⟩⟩, ⟨rfl, ⟨rfl, trivial, trivial⟩, trivial⟩⟩, ⟨rfl, ⟨rfl, ⟨rfl, trivial, trivial⟩, ⟨rfl, trivial, trivial⟩⟩, ⟨rfl, ⟨rfl, trivial, trivial⟩, trivial⟩⟩⟩⟩, ⟨rfl, ⟨rfl, ⟨rfl, ⟨rfl, ⟨rfl, trivial, trivial⟩, ⟨rfl, trivial, trivial⟩⟩, ⟨rfl, ⟨rfl, trivial, trivial⟩, trivial⟩⟩, ⟨rfl, ⟨rfl, ⟨rfl, trivial, trivial⟩, ⟨rfl, trivial, trivial⟩⟩, ⟨rfl, ⟨rfl, trivial, trivial⟩, trivial⟩⟩⟩, ⟨rfl, ⟨rfl, ⟨rfl, ⟨rfl, trivial, trivial⟩, ⟨rfl, trivial, trivial⟩⟩, ⟨rfl, ⟨rfl, trivial, trivial⟩, trivial⟩⟩, ⟨rfl, ⟨rfl, ⟨rfl, trivial, trivial⟩, ⟨rfl, trivial, trivial⟩⟩, ⟨rfl, ⟨rfl, trivial, trivial⟩, trivial⟩⟩⟩⟩⟩, ⟨rfl, ⟨rfl, ⟨rfl, ⟨rfl, ⟨rfl, ⟨rfl, trivial, trivial⟩, ⟨rfl, trivial, trivial⟩⟩, ⟨rfl, ⟨rfl, trivial, trivial⟩, trivial⟩⟩, ⟨rfl, ⟨rfl, ⟨rfl, trivial, trivial⟩, ⟨rfl, trivial, trivial⟩⟩, ⟨rfl, ⟨rfl, trivial, trivial⟩, trivial⟩⟩⟩, ⟨rfl, ⟨rfl, ⟨rfl, ⟨rfl, trivial, trivial⟩, ⟨rfl, trivial, trivial⟩⟩, ⟨rfl, ⟨rfl, trivial, trivial⟩, trivial⟩⟩, ⟨rfl, ⟨rfl, ⟨rfl, trivial, trivial⟩, ⟨rfl, trivial, trivial⟩⟩, ⟨rfl, ⟨rfl, trivial, trivial⟩, trivial⟩⟩⟩⟩, ⟨rfl, ⟨rfl, ⟨rfl, ⟨rfl, ⟨rfl, trivial, trivial⟩, ⟨rfl, trivial, trivial⟩⟩, ⟨rfl, ⟨rfl, trivial, trivial⟩, trivial⟩⟩, ⟨rfl, ⟨rfl, ⟨rfl, trivial, trivial⟩, ⟨rfl, trivial, trivial⟩⟩, ⟨rfl, ⟨rfl, trivial, trivial⟩, trivial⟩⟩⟩, ⟨rfl, ⟨rfl, ⟨rfl, ⟨rfl, trivial, trivial⟩, ⟨rfl, trivial, trivial⟩⟩, ⟨rfl, ⟨rfl, trivial, trivial⟩, trivial⟩⟩, ⟨rfl, ⟨rfl, ⟨rfl, trivial, trivial⟩, trivial⟩, ⟨rfl, ⟨rfl, trivial, trivial⟩, trivial⟩⟩⟩⟩⟩⟩
theorem ae_mixed : Try.prog.follows .mixedOrders = true := Checked.mixed Try.checked
theorem ae_T : TOK Try.prog aeC.T := TOK.of_check aeT_ok
theorem ae_Q : EqOK Try.prog aeC.T := EqOK.of_check ae_T aeE_ok
theorem ae_fn {f : FuncId} {fn : Func} (h : tget aeF f = some fn) : FnOK Try.prog aeC f fn := by
  refine ⟨Tab.get_All aeAt_ok f fn h, ?_, fun c hc => ?_⟩
  · simpa using Tab.get_all aeName_ok f fn h
  · have := Tab.get_all aeCode_ok f fn h
    rw [hc] at this; exact this
theorem ae_direct {E : Ev} (hE : EvOK Try.prog E) (k : Nat) {f : FuncId} {fn : Func} {ds : List DV} {d : DV} (h : tget aeF f = some fn) (e : pureE aeC E k f fn ds = some d) : PureOK Try.prog f ds d := pureE_ok ae_T ae_Q ae_mixed hE (ae_fn h) e
theorem ae_pure {E : Ev} (hE : EvOK Try.prog E) {f : FuncId} {fn : Func} {ids : List Nat} {ds : List DV} {d : DV} (ok : OkSeg fn none ids) (h : tget aeF f = some fn) (hb : (fn.body.isSome && Nat.ble ds.length fn.ntmps) = true)
    (e : startF aeC E f 0 fn none ⟨envOf 0 (ds.map .d), [], []⟩ (doneE aeC fn 0 fun v h => freezeV h 4 v) = some d) (hfr : freshF f = false := by rfl) : PureOK Try.prog f ds d :=
  pure_of_go ae_T ae_Q ae_mixed hE (ae_fn h) ok hb e hfr
end Go.Proofs.Ytjfopbpkophoeaa

/- Chapter 06: calls whose answers are told by tables; matrices as data. -/
namespace Go.Proofs.Ytjfopbpkophoeaa
open Go Go.AE

/-- Calls are answered by a table of shapes, where 'ok' says so. -/
def evT (ok : Nat → List DV → Bool) (shape : Nat → List DV → DV) : Ev := { Ev.nil with pure := fun f ds => .node (ok f ds) (.leaf (shape f ds)) .fail }
/-- All others are walked. -/
noncomputable def evW (fs : List Nat) (ok : Nat → List DV → Bool) (shape : Nat → List DV → DV) : Ev := evO aeC aeF (evT ok shape) fs [] 30 40
open Classical in
noncomputable def okS (shape : Nat → List DV → DV) : Nat → List DV → Bool := fun f ds => isP (PureOK Try.prog f ds (shape f ds))

theorem evT_ok (shape : Nat → List DV → DV) : EvOK Try.prog (evT (okS shape) shape) := by
  refine ⟨fun f ds d e => ?_, (by intro f xs h v h' e; simp [evT, Ev.nil, Tr.val] at e), (by intro f xs h v h' e; simp [evT, Ev.nil, Tr.val] at e), (by intro l xs h v h' e; simp [evT, Ev.nil, Tr.val] at e)⟩
  simp only [evT, Tr.val] at e
  obtain ⟨h1, h2⟩ := cond_none e
  cases h2
  exact isP_iff.1 h1

theorem evW_ok (fs : List Nat) (shape : Nat → List DV → DV) : EvOK Try.prog (evW fs (okS shape) shape) :=
  evO_ok ae_T ae_Q ae_mixed (fun _ _ h => ae_fn h) (evT_ok shape) fs [] 30 40

theorem okS_is {shape : Nat → List DV → DV} {f : Nat} {ds : List DV} (h : PureOK Try.prog f ds (shape f ds)) : okS shape f ds = true := isP_iff.2 h
theorem cond_is' {R : Type} {b : Bool} {x y : R} (h : b = true) : (bif b then x else y) = x := by rw [h]; rfl

/-- A call by its walk. -/
theorem walk {fs : List Nat} {shape : Nat → List DV → DV} {f : FuncId} {fn : Func} {ds : List DV} {d : DV} (h : tget aeF f = some fn) (e : pureE aeC (evW fs (okS shape) shape) 30 f fn ds = some d) : PureOK Try.prog f ds d :=
  ae_direct (evW_ok fs shape) 30 h e

def noS : Nat → List DV → DV := fun _ _ => .nilp

/-- Numbers as a list that is handed on. -/
abbrev ls (l : List Int) (c nl : Bool) : DV := .sl (ints l) l.length 1 c nl
end Go.Proofs.Ytjfopbpkophoeaa

/- Chapter 06: matrices as data; what makes them of any rows. Written by wip/tools/gen6a.py. -/
namespace Go.Proofs.Ytjfopbpkophoeaa
open Go Go.AE
set_option maxRecDepth 100000
noncomputable def evA : Ev := evW [] (okS noS) noS
theorem walkA {f : FuncId} {fn : Func} {ds : List DV} {d : DV} (h : tget aeF f = some fn) (e : pureE aeC evA 30 f fn ds = some d) : PureOK Try.prog f ds d := walk h e
theorem awake_ok : PureOK Try.prog 21 [] (bD true) := walkA (by kernel_rfl : tget aeF 21 = some Try.f21) (by kernel_rfl)
def rowD (r : List Int) : DV := .sl (ints r) r.length 1 false false
/-- A matrix as data. -/
def matD (M : List (List Int)) : DV := .sl (M.map rowD) M.length 1 false false
/-- Rows that are handed in. -/
def rowsD (X : List (List Int × Bool)) : List DV := X.map fun r => .sl (ints r.1) r.1.length 1 false r.2
/-- Whether all numbers are from 0 to 9. -/
def smallB (l : List Int) : Bool := l.all fun x => decide (0 ≤ x) && decide (x ≤ 9)
/-- A matrix with k states. -/
def matB (k : Nat) (M : List (List Int)) : Prop := M.length = k ∧ ∀ r ∈ M, r.length = k ∧ smallB r = true
theorem nth_rows {X : List (List Int × Bool)} {i : Nat} (h : i < X.length) : nth (rowsD X) i = some (.sl (ints (X.getD i ([], false)).1) (X.getD i ([], false)).1.length 1 false (X.getD i ([], false)).2) := by
  unfold rowsD; rw [nth_map, nth_eq]; simp [h]
theorem smallB_at {l : List Int} (h : smallB l = true) : ∀ x ∈ l, 0 ≤ x ∧ x ≤ 9 := by
  intro x hx
  have := List.all_eq_true.1 h x hx
  simpa using this
theorem smallB_mk {l : List Int} (h : ∀ x ∈ l, 0 ≤ x ∧ x ≤ 9) : smallB l = true := List.all_eq_true.2 fun x hx => by simpa using h x hx
/-! ### tame -/
def tv10 (x : Int) : Int := IntKind.wrap IntKind.i64 (Int.tmod (IntKind.wrap IntKind.u64 x) 10)
theorem tv10_b (x : Int) : 0 ≤ tv10 x ∧ tv10 x ≤ 9 := by
  have h0 : 0 ≤ IntKind.wrap .u64 x := by rw [wrapU_eq]; omega
  have h1 : Int.tmod (IntKind.wrap .u64 x) 10 = (IntKind.wrap .u64 x) % 10 := Int.tmod_eq_emod_of_nonneg h0
  unfold tv10
  rw [h1, wrap64_o (by omega) (by omega)]
  omega
def s14 (A : DV) (k i : Nat) (H : List DV) : St := ⟨[(0, .d A), (5, .d (iD k)), (6, AV.grow 0 1 false), (7, .d (iD i))], [.dc H], []⟩
def s142 (A : DV) (k i : Nat) (H R : List DV) (j : Int) : St := ⟨[(0, .d A), (5, .d (iD k)), (6, AV.grow 0 1 false), (7, .d (iD i)), (8, AV.row 1 0 k k 1 true), (9, .d (iD j))], [.dc H, .dc R], []⟩
def s142x (A : DV) (k i : Nat) (H R : List DV) : St := ⟨[(0, .d A), (5, .d (iD k)), (6, AV.grow 0 1 false), (7, .d (iD i)), (8, AV.row 1 0 k k 1 true)], [.dc H, .dc R], []⟩
theorem t14_h (A : List DV) (n : Nat) (c z : Bool) (m : Int) : startS aeC Ev.nil 14 0 Try.f14 none ⟨envOf 0 [.d (.sl A n 1 c z), .d (iD m)], [], []⟩ (heldD aeC 14 0) =
  some (0, ⟨[(0, .d (DV.sl A n 1 c z)), (5, .d (iD (if (bif false then if m > (n : Int) then m else (n : Int) else if m < (n : Int) then m else (n : Int)) > 1 then if m < (n : Int) then m else (n : Int) else 1))), (6, AV.grow 0 1 false), (7, .d (iD 0))], [.dc []], []⟩) := by kernel_rfl
theorem t14_0 (A : List DV) (n k i : Nat) (c z : Bool) (H : List DV) : startS aeC Ev.nil 14 0 Try.f14 (some 0) (s14 (.sl A n 1 c z) k i H) (heldD aeC 14 0) =
  bif decide ((i : Int) < (k : Int)) then (bif decide (0 ≤ (k : Int)) && decide ((k : Int) ≤ (k : Int)) && decide ((k : Int) ≤ 1048576) && true then
      some (2, (⟨[(0, .d (.sl A n 1 c z)), (5, .d (iD k)), (6, AV.grow 0 1 false), (7, .d (iD i)), (8, AV.row 1 0 (Int.toNat (k : Int)) (Int.toNat (k : Int)) 1 true), (9, .d (iD 0))], [.dc H, .dc (List.replicate (Int.toNat (k : Int)) [iD 0]).flatten], []⟩ : St)) else none) else none := by kernel_rfl
theorem t14_0x (A : List DV) (n k i : Nat) (c z : Bool) (H : List DV) : startS aeC Ev.nil 14 0 Try.f14 (some 0) (s14 (.sl A n 1 c z) k i H) (roundD aeC 14 0 0) =
  bif decide ((i : Int) < (k : Int)) then (bif decide (0 ≤ (k : Int)) && decide ((k : Int) ≤ (k : Int)) && decide ((k : Int) ≤ 1048576) && true then none else none) else some (Ex.exit 0, ⟨[(6, AV.grow 0 1 false)], [.dc H], []⟩) := by kernel_rfl
theorem t14_2 (A : List DV) (n k i j : Nat) (c z : Bool) (H R : List DV) : startS aeC Ev.nil 14 0 Try.f14 (some 2) (s142 (.sl A n 1 c z) k i H R j) (roundD aeC 14 0 2) =
  bif decide ((j : Int) < (k : Int)) then (bif decide ((i : Int) < (n : Int)) then (bif inRange (i : Int) n then (getS (nth A (Int.toNat (i : Int) * 1)) fun cs0 n0 sz0 c0 nl0 => bif nl0 || Nat.beq sz0 1 then (bif decide ((j : Int) < (n0 : Int)) then
    (bif inRange (i : Int) n then (getS (nth A (Int.toNat (i : Int) * 1)) fun cs1 n1 sz1 c1 nl1 => bif nl1 || Nat.beq sz1 1 then (bif inRange (j : Int) n1 then (getI (nth cs1 (Int.toNat (j : Int) * 1)) fun x2 =>
      bif inRange (j : Int) k && true then (bif Nat.ble (0 + Int.toNat (j : Int) * 1 + 1) R.length && true then
        some (Ex.norm, s142 (.sl A n 1 c z) k i H (setNth R (0 + Int.toNat (j : Int) * 1) (iD (tv10 x2))) (IntKind.wrap IntKind.i64 ((j : Int) + 1))) else none) else none) else none) else none) else none)
      else some (Ex.exit 2, s142x (.sl A n 1 c z) k i H R)) else none) else none) else some (Ex.exit 2, s142x (.sl A n 1 c z) k i H R)) else some (Ex.exit 2, s142x (.sl A n 1 c z) k i H R) := by kernel_rfl
theorem t14_e (H : List DV) : nextS aeC Ev.nil 14 0 Try.f14 none 0 (.exit 0) ⟨[(6, AV.grow 0 1 false)], [.dc H], []⟩ (doneE aeC Try.f14 0 fun v h => freezeV h 4 v) = some (DV.sl H (lenOf 1 H.length) 1 false (true && Nat.beq H.length 0)) := by kernel_rfl
theorem k14 : OkSeg Try.f14 none [0] := ⟨by kernel_rfl, by kernel_rfl, by decide⟩
theorem k14_0 : OkSeg Try.f14 (some 0) [2] := ⟨by kernel_rfl, by kernel_rfl, by decide⟩
theorem k14_2 : OkSeg Try.f14 (some 2) [] := ⟨by kernel_rfl, by kernel_rfl, by decide⟩
theorem loop142 {Y : List (List Int × Bool)} {k i : Nat} {c z : Bool} {H : List DV} (hk : k ≤ 5) : ∀ (t j : Nat) (R : List Int), R.length = k → smallB R = true → j + t = k →
    ∃ R' : List Int, R'.length = k ∧ smallB R' = true ∧ LoopAt aeC Ev.nil 14 0 Try.f14 2 (s142 (.sl (rowsD Y) Y.length 1 c z) k i H (ints R) j) (.exit 2) (s142x (.sl (rowsD Y) Y.length 1 c z) k i H (ints R'))
  | 0, j, R, hl, hs, hj => ⟨R, hl, hs, .out k14_2 (by simp) ((t14_2 ..).trans (cnd_neg (by omega)))⟩
  | t + 1, j, R, hl, hs, hj => by
    by_cases h1 : i < Y.length
    · have e1 : Int.toNat (i : Int) * 1 = i := by simp
      have e2 : Int.toNat (j : Int) * 1 = j := by simp
      have ha := t14_2 (rowsD Y) Y.length k i j c z H (ints R)
      rw [e1, nth_rows h1] at ha
      simp only [getS_some, e2, Nat.beq_refl, Bool.or_true, cond_true] at ha
      by_cases h2 : j < (Y.getD i ([], false)).1.length
      · rw [nth_ints_o h2, getI_some] at ha
        have hset : setNth (ints R) (0 + j) (iD (tv10 ((Y.getD i ([], false)).1.getD j 0))) = ints (R.set j (tv10 ((Y.getD i ([], false)).1.getD j 0))) := by rw [Nat.zero_add, setNth_ints_o]
        have hw : IntKind.wrap .i64 ((j : Int) + 1) = ((j + 1 : Nat) : Int) := by rw [wrap64_o (by omega) (by omega)]; rfl
        have hin : (inRange (j : Int) k && true) = true := by simp [inRange]; omega
        have hroom : (Nat.ble (0 + j + 1) (ints R).length && true) = true := by rw [len_ints, Bool.and_true]; exact Nat.ble_eq_true_of_le (by omega)
        rw [hset, hw, hin, hroom] at ha
        have hs' : smallB (R.set j (tv10 ((Y.getD i ([], false)).1.getD j 0))) = true := smallB_mk fun x hx => by
          rcases List.mem_or_eq_of_mem_set hx with hx | rfl
          · exact smallB_at hs x hx
          · exact tv10_b _
        obtain ⟨R', g1, g2, g3⟩ := loop142 (Y := Y) (i := i) (c := c) (z := z) (H := H) hk t (j + 1) (R.set j (tv10 ((Y.getD i ([], false)).1.getD j 0))) (by simpa using hl) hs' (by omega)
        refine ⟨R', g1, g2, .next k14_2 (ha.trans ?_) g3⟩
        refine (cnd_pos (by omega)).trans ((cnd_pos (by omega)).trans ((inR_pos (by omega) (by omega)).trans ((cnd_pos (by omega)).trans ((inR_pos (by omega) (by omega)).trans ((inR_pos (by omega) (by omega)).trans rfl)))))
      · refine ⟨R, hl, hs, .out k14_2 (by simp) (ha.trans ?_)⟩
        exact (cnd_pos (by omega)).trans ((cnd_pos (by omega)).trans ((inR_pos (by omega) (by omega)).trans (cnd_neg (by omega))))
    · exact ⟨R, hl, hs, .out k14_2 (by simp) ((t14_2 ..).trans ((cnd_pos (by omega)).trans (cnd_neg (by omega))))⟩

theorem t14_x1 (A : DV) (i : Nat) (H : List DV) (r0 : Int) : nextS aeC Ev.nil 14 0 Try.f14 (some 0) 2 (.exit 2) (s142x A 1 i H [iD r0]) (roundD aeC 14 0 0) = bif Nat.ble (lenOf 1 H.length + 1) 1048576 then some (Ex.norm, (⟨[(0, .d A), (5, .d (iD ((1 : Nat) : Int))), (6, AV.grow 0 1 false), (7, .d (iD (IntKind.wrap IntKind.i64 ((i : Int) + 1))))], [.dc (H ++ [rowD [r0]])], []⟩ : St)) else none := by kernel_rfl
theorem t14_x2 (A : DV) (i : Nat) (H : List DV) (r0 r1 : Int) : nextS aeC Ev.nil 14 0 Try.f14 (some 0) 2 (.exit 2) (s142x A 2 i H [iD r0, iD r1]) (roundD aeC 14 0 0) = bif Nat.ble (lenOf 1 H.length + 1) 1048576 then some (Ex.norm, (⟨[(0, .d A), (5, .d (iD ((2 : Nat) : Int))), (6, AV.grow 0 1 false), (7, .d (iD (IntKind.wrap IntKind.i64 ((i : Int) + 1))))], [.dc (H ++ [rowD [r0, r1]])], []⟩ : St)) else none := by kernel_rfl
theorem t14_x3 (A : DV) (i : Nat) (H : List DV) (r0 r1 r2 : Int) : nextS aeC Ev.nil 14 0 Try.f14 (some 0) 2 (.exit 2) (s142x A 3 i H [iD r0, iD r1, iD r2]) (roundD aeC 14 0 0) = bif Nat.ble (lenOf 1 H.length + 1) 1048576 then some (Ex.norm, (⟨[(0, .d A), (5, .d (iD ((3 : Nat) : Int))), (6, AV.grow 0 1 false), (7, .d (iD (IntKind.wrap IntKind.i64 ((i : Int) + 1))))], [.dc (H ++ [rowD [r0, r1, r2]])], []⟩ : St)) else none := by kernel_rfl
theorem t14_x4 (A : DV) (i : Nat) (H : List DV) (r0 r1 r2 r3 : Int) : nextS aeC Ev.nil 14 0 Try.f14 (some 0) 2 (.exit 2) (s142x A 4 i H [iD r0, iD r1, iD r2, iD r3]) (roundD aeC 14 0 0) = bif Nat.ble (lenOf 1 H.length + 1) 1048576 then some (Ex.norm, (⟨[(0, .d A), (5, .d (iD ((4 : Nat) : Int))), (6, AV.grow 0 1 false), (7, .d (iD (IntKind.wrap IntKind.i64 ((i : Int) + 1))))], [.dc (H ++ [rowD [r0, r1, r2, r3]])], []⟩ : St)) else none := by kernel_rfl
theorem t14_x5 (A : DV) (i : Nat) (H : List DV) (r0 r1 r2 r3 r4 : Int) : nextS aeC Ev.nil 14 0 Try.f14 (some 0) 2 (.exit 2) (s142x A 5 i H [iD r0, iD r1, iD r2, iD r3, iD r4]) (roundD aeC 14 0 0) = bif Nat.ble (lenOf 1 H.length + 1) 1048576 then some (Ex.norm, (⟨[(0, .d A), (5, .d (iD ((5 : Nat) : Int))), (6, AV.grow 0 1 false), (7, .d (iD (IntKind.wrap IntKind.i64 ((i : Int) + 1))))], [.dc (H ++ [rowD [r0, r1, r2, r3, r4]])], []⟩ : St)) else none := by kernel_rfl
theorem t14_x (A : DV) (i : Nat) (H : List DV) : ∀ R : List Int, 1 ≤ R.length → R.length ≤ 5 → nextS aeC Ev.nil 14 0 Try.f14 (some 0) 2 (.exit 2) (s142x A R.length i H (ints R)) (roundD aeC 14 0 0) = bif Nat.ble (lenOf 1 H.length + 1) 1048576 then some (Ex.norm, (⟨[(0, .d A), (5, .d (iD (R.length : Int))), (6, AV.grow 0 1 false), (7, .d (iD (IntKind.wrap IntKind.i64 ((i : Int) + 1))))], [.dc (H ++ [rowD R])], []⟩ : St)) else none
  | [r0], _, _ => t14_x1 A i H r0
  | [r0, r1], _, _ => t14_x2 A i H r0 r1
  | [r0, r1, r2], _, _ => t14_x3 A i H r0 r1 r2
  | [r0, r1, r2, r3], _, _ => t14_x4 A i H r0 r1 r2 r3
  | [r0, r1, r2, r3, r4], _, _ => t14_x5 A i H r0 r1 r2 r3 r4
  | [], h, _ => absurd h (by decide)
  | _ :: _ :: _ :: _ :: _ :: _ :: _, _, h => absurd h (by simp)
theorem flat_rep : ∀ k : Nat, (List.replicate k [iD 0]).flatten = List.replicate k (iD 0)
  | 0 => rfl
  | k + 1 => by rw [List.replicate_succ, List.flatten_cons, flat_rep k]; rfl
theorem loop140 {Y : List (List Int × Bool)} {k : Nat} {c z : Bool} (h1 : 1 ≤ k) (hk : k ≤ 5) : ∀ (t i : Nat) (M : List (List Int)), M.length = i → (∀ r ∈ M, r.length = k ∧ smallB r = true) → i + t = k →
    ∃ M' : List (List Int), matB k M' ∧ LoopAt aeC Ev.nil 14 0 Try.f14 0 (s14 (.sl (rowsD Y) Y.length 1 c z) k i (M.map rowD)) (.exit 0) ⟨[(6, AV.grow 0 1 false)], [.dc (M'.map rowD)], []⟩
  | 0, i, M, hl, hs, hi => ⟨M, ⟨by omega, hs⟩, .out k14_0 (by simp) ((t14_0x ..).trans (cnd_neg (by omega)))⟩
  | t + 1, i, M, hl, hs, hi => by
    have hg : (decide (0 ≤ (k : Int)) && decide ((k : Int) ≤ (k : Int)) && decide ((k : Int) ≤ 1048576) && true) = true := by
      rw [decide_eq_true (p := (0 : Int) ≤ (k : Int)) (by omega), decide_eq_true (p := (k : Int) ≤ (k : Int)) (by omega), decide_eq_true (p := (k : Int) ≤ 1048576) (by omega)]; rfl
    have hz : (List.replicate k [iD 0]).flatten = ints (List.replicate k 0) := by
      unfold ints
      rw [List.map_replicate]
      exact flat_rep k
    have hh := t14_0 (rowsD Y) Y.length k i c z (M.map rowD)
    rw [hg, Int.toNat_natCast, hz] at hh
    obtain ⟨R, g1, g2, g3⟩ := loop142 (Y := Y) (i := i) (c := c) (z := z) (H := M.map rowD) hk k 0 (List.replicate k 0) (by simp) (smallB_mk fun x hx => by rw [List.eq_of_mem_replicate hx]; omega) (by omega)
    have hw : IntKind.wrap .i64 ((i : Int) + 1) = ((i + 1 : Nat) : Int) := by rw [wrap64_o (by omega) (by omega)]; rfl
    have hx := t14_x (.sl (rowsD Y) Y.length 1 c z) i (M.map rowD) R (by omega) (by omega)
    have hb : Nat.ble (lenOf 1 (M.map rowD).length + 1) 1048576 = true := Nat.ble_eq_true_of_le (by show (M.map rowD).length + 1 ≤ _; rw [List.length_map]; omega)
    have hm : M.map rowD ++ [rowD R] = (M ++ [R]).map rowD := by simp
    rw [hb, hw, g1, hm] at hx
    obtain ⟨M', q1, q2⟩ := loop140 (Y := Y) (c := c) (z := z) h1 hk t (i + 1) (M ++ [R]) (by simp [hl]) (by
      intro r hr
      rcases List.mem_append.1 hr with hr | hr
      · exact hs r hr
      · simp only [List.mem_singleton] at hr; subst hr; exact ⟨g1, g2⟩) (by omega)
    exact ⟨M', q1, .nextF k14_0 ((startF_seg k14_0 (hh.trans (cnd_pos (by omega))) g3).trans (nextF_done k14_0 roundD_plain hx)) q2⟩
/-- A matrix is made of any rows. -/
theorem c14 (Y : List (List Int × Bool)) (c z : Bool) (m : Nat) (h1 : 1 ≤ m) (h5 : m ≤ 5) : ∃ k M, 1 ≤ k ∧ k ≤ m ∧ matB k M ∧ PureOK Try.prog 14 [.sl (rowsD Y) Y.length 1 c z, iD m] (matD M) := by
  have hk : ∃ k : Nat, 1 ≤ k ∧ k ≤ m ∧ (if (bif false then if (m : Int) > (Y.length : Int) then (m : Int) else (Y.length : Int) else if (m : Int) < (Y.length : Int) then (m : Int) else (Y.length : Int)) > 1 then if (m : Int) < (Y.length : Int) then (m : Int) else (Y.length : Int) else 1) = (k : Int) := by
    refine ⟨max 1 (min m Y.length), by omega, by omega, ?_⟩
    simp only [cond_false]
    split <;> (split <;> omega)
  obtain ⟨k, k1, k2, ke⟩ := hk
  have hh := t14_h (rowsD Y) Y.length c z m
  rw [ke] at hh
  obtain ⟨M, q1, q2⟩ := loop140 (Y := Y) (c := c) (z := z) k1 (by omega) k 0 [] rfl (by simp) (by omega)
  refine ⟨k, M, k1, k2, q1, ae_pure EvOK.nil (fn := Try.f14) k14 (by kernel_rfl) (by kernel_rfl) ((startF_seg k14 hh q2).trans (nextF_done k14 done_plain ((t14_e ..).trans ?_)))⟩
  have hl : (M.map rowD).length = M.length := by simp
  have hne : Nat.beq M.length 0 = false := by rw [Bool.eq_false_iff]; intro e; have := Nat.eq_of_beq_eq_true e; have := q1.1; omega
  rw [hl, lenOf_1, hne]
  rfl
end Go.Proofs.Ytjfopbpkophoeaa

/- Chapter 06: the first ones of a list, tables that are the same, what is opened. Written by wip/tools/gen6b.py. -/
namespace Go.Proofs.Ytjfopbpkophoeaa
open Go Go.AE
set_option maxRecDepth 100000

theorem u38 (X : List DV) (n : Nat) (c nl : Bool) (k : Int) : pureE aeC evA 30 38 Try.f38 [.sl X n 1 c nl, iD k] =
  bif nl || true then
    bif decide (0 ≤ if k < (n : Int) then k else (n : Int)) && decide ((if k < (n : Int) then k else (n : Int)) ≤ (n : Int)) then
      bif nl || true then
        bif Nat.ble (Int.toNat (if k < (n : Int) then k else (n : Int)) - 0) 1048576 then
          some (DV.sl (sub X 0 ((Int.toNat (if k < (n : Int) then k else (n : Int)) - 0) * 1)) (lenOf 1 (List.length (sub X 0 ((Int.toNat (if k < (n : Int) then k else (n : Int)) - 0) * 1)))) 1 false (true && Nat.beq (List.length (sub X 0 ((Int.toNat (if k < (n : Int) then k else (n : Int)) - 0) * 1))) 0))
        else
          none
      else
        none
    else
      none
  else
    none := by kernel_rfl
theorem sub_take (l : List Int) (j : Nat) : sub (ints l) 0 (j * 1) = ints (l.take j) := by
  unfold sub ints
  rw [Nat.mul_one, List.drop_zero, List.map_take]
theorem c38 (l : List Int) (c nl : Bool) (k : Nat) (hk : k ≤ 1000) : PureOK Try.prog 38 [ls l c nl, iD (k : Int)] (ls (l.take k) false (l.take k).isEmpty) := by
  refine walkA (by kernel_rfl : tget aeF 38 = some Try.f38) ((u38 (ints l) l.length c nl k).trans ?_)
  have e : (if (k : Int) < (l.length : Int) then (k : Int) else (l.length : Int)) = ((min k l.length : Nat) : Int) := by split <;> omega
  have h1 : (Nat.ble (min k l.length) 1048576) = true := Nat.ble_eq_true_of_le (by omega)
  rw [e]
  simp only [Int.toNat_natCast, Nat.sub_zero, Bool.or_true, cond_true, sub_take, h1, Bool.true_and, len_ints, Go.AE.lenOf_1]
  rw [decide_eq_true (p := (0 : Int) ≤ ((min k l.length : Nat) : Int)) (by omega), decide_eq_true (p := ((min k l.length : Nat) : Int) ≤ (l.length : Int)) (by omega)]
  simp only [Bool.and_self, cond_true]
  have e2 : l.take (min k l.length) = l.take k := by
    rcases Nat.le_total k l.length with h | h
    · rw [Nat.min_eq_left h]
    · rw [Nat.min_eq_right h, List.take_of_length_le (Nat.le_refl _), List.take_of_length_le h]
  rw [e2]
  have e3 : Nat.beq (l.take k).length 0 = (l.take k).isEmpty := by cases l.take k <;> rfl
  rw [e3]
/-! ### Tables that are the same -/
def s41 (A B : DV) (i : Int) : St := ⟨[(0, .d A), (1, .d B), (5, .d (iD i))], [], []⟩
def s412 (A B : DV) (i j : Int) : St := ⟨[(0, .d A), (1, .d B), (5, .d (iD i)), (6, .d (iD j))], [], []⟩
theorem t41_h (A B : List DV) (n m : Nat) (c z c2 z2 : Bool) : startS aeC Ev.nil 41 0 Try.f41 none ⟨envOf 0 [.d (.sl A n 1 c z), .d (.sl B m 1 c2 z2)], [], []⟩ (heldD aeC 41 0) = bif !decide ((n : Int) = (m : Int)) then none else some (0, s41 (.sl A n 1 c z) (.sl B m 1 c2 z2) 0) := by kernel_rfl
theorem t41_0 (A B : List DV) (n m i : Nat) (c z c2 z2 : Bool) : startS aeC Ev.nil 41 0 Try.f41 (some 0) (s41 (.sl A n 1 c z) (.sl B m 1 c2 z2) i) (heldD aeC 41 0) =
  bif decide ((i : Int) < (n : Int)) then (bif inRange (i : Int) n then (getS (nth A (Int.toNat (i : Int) * 1)) fun cs0 n0 sz0 c0 nl0 => bif nl0 || Nat.beq sz0 1 then (bif inRange (i : Int) m then (getS (nth B (Int.toNat (i : Int) * 1)) fun cs1 n1 sz1 c1 nl1 => bif nl1 || Nat.beq sz1 1 then
    (bif !decide ((n0 : Int) = (n1 : Int)) then none else some (2, s412 (.sl A n 1 c z) (.sl B m 1 c2 z2) i 0)) else none) else none) else none) else none) else none := by kernel_rfl
theorem t41_0x (A B : List DV) (n m i : Nat) (c z c2 z2 : Bool) : startS aeC Ev.nil 41 0 Try.f41 (some 0) (s41 (.sl A n 1 c z) (.sl B m 1 c2 z2) i) (roundD aeC 41 0 0) =
  bif decide ((i : Int) < (n : Int)) then (bif inRange (i : Int) n then (getS (nth A (Int.toNat (i : Int) * 1)) fun cs0 n0 sz0 c0 nl0 => bif nl0 || Nat.beq sz0 1 then (bif inRange (i : Int) m then (getS (nth B (Int.toNat (i : Int) * 1)) fun cs1 n1 sz1 c1 nl1 => bif nl1 || Nat.beq sz1 1 then
    (bif !decide ((n0 : Int) = (n1 : Int)) then some (Ex.ret, (⟨[(4, .d (bD false))], [], []⟩ : St)) else none) else none) else none) else none) else none) else some (Ex.exit 0, ⟨[], [], []⟩) := by kernel_rfl
theorem t41_2 (A B : List DV) (n m i j : Nat) (c z c2 z2 : Bool) : startS aeC Ev.nil 41 0 Try.f41 (some 2) (s412 (.sl A n 1 c z) (.sl B m 1 c2 z2) i j) (roundD aeC 41 0 2) =
  bif inRange (i : Int) n then (getS (nth A (Int.toNat (i : Int) * 1)) fun cs0 n0 sz0 c0 nl0 => bif nl0 || Nat.beq sz0 1 then (bif decide ((j : Int) < (n0 : Int)) then
    (bif inRange (i : Int) n then (getS (nth A (Int.toNat (i : Int) * 1)) fun cs1 n1 sz1 c1 nl1 => bif nl1 || Nat.beq sz1 1 then (bif inRange (j : Int) n1 then (getI (nth cs1 (Int.toNat (j : Int) * 1)) fun x2 =>
      bif inRange (i : Int) m then (getS (nth B (Int.toNat (i : Int) * 1)) fun cs3 n3 sz3 c3 nl3 => bif nl3 || Nat.beq sz3 1 then (bif inRange (j : Int) n3 then (getI (nth cs3 (Int.toNat (j : Int) * 1)) fun x4 =>
        bif !decide (x2 = x4) then some (Ex.ret, (⟨[(4, .d (bD false))], [], []⟩ : St)) else some (Ex.norm, s412 (.sl A n 1 c z) (.sl B m 1 c2 z2) i (IntKind.wrap IntKind.i64 ((j : Int) + 1)))) else none) else none) else none) else none) else none) else none)
    else some (Ex.exit 2, s41 (.sl A n 1 c z) (.sl B m 1 c2 z2) i)) else none) else none := by kernel_rfl
theorem t41_x (A B : DV) (i : Nat) : nextS aeC Ev.nil 41 0 Try.f41 (some 0) 2 (.exit 2) (s41 A B i) (roundD aeC 41 0 0) = some (Ex.norm, s41 A B (IntKind.wrap IntKind.i64 ((i : Int) + 1))) := by kernel_rfl
theorem t41_e : nextS aeC Ev.nil 41 0 Try.f41 none 0 (.exit 0) ⟨[], [], []⟩ (doneE aeC Try.f41 0 fun v h => freezeV h 4 v) = some (bD true) := by kernel_rfl
theorem k41 : OkSeg Try.f41 none [0] := ⟨by kernel_rfl, by kernel_rfl, by decide⟩
theorem k41_0 : OkSeg Try.f41 (some 0) [2] := ⟨by kernel_rfl, by kernel_rfl, by decide⟩
theorem k41_2 : OkSeg Try.f41 (some 2) [] := ⟨by kernel_rfl, by kernel_rfl, by decide⟩
theorem nth_mat {M : List (List Int)} {i : Nat} (h : i < M.length) : nth (M.map rowD) i = some (rowD (M.getD i [])) := by
  rw [nth_map, nth_eq]; simp [h]
section
variable {M : List (List Int)} {c z c2 z2 : Bool}
theorem loop412 {i : Nat} (hi : i < M.length) (hm : M.length ≤ 100) (hr : (M.getD i []).length ≤ 100) : ∀ (t j : Nat), j + t = (M.getD i []).length →
    LoopAt aeC Ev.nil 41 0 Try.f41 2 (s412 (.sl (M.map rowD) M.length 1 c z) (.sl (M.map rowD) M.length 1 c2 z2) i j) (.exit 2) (s41 (.sl (M.map rowD) M.length 1 c z) (.sl (M.map rowD) M.length 1 c2 z2) i)
  | t, j, hj => by
    have e1 : Int.toNat (i : Int) * 1 = i := by simp
    have e2 : Int.toNat (j : Int) * 1 = j := by simp
    have ha := t41_2 (M.map rowD) (M.map rowD) M.length M.length i j c z c2 z2
    rw [e1, nth_mat hi, e2] at ha
    unfold rowD at ha
    simp only [getS_some, Nat.beq_refl, Bool.or_true, cond_true] at ha
    rw [show M.map (fun r => DV.sl (ints r) r.length 1 false false) = M.map rowD from rfl] at ha
    cases t with
    | zero => exact .out k41_2 (by simp) (ha.trans ((inR_pos (by omega) (by omega)).trans (cnd_neg (by omega))))
    | succ t =>
      have hw : IntKind.wrap .i64 ((j : Int) + 1) = ((j + 1 : Nat) : Int) := by rw [wrap64_o (by omega) (by omega)]; rfl
      rw [nth_ints_o (l := M.getD i []) (i := j) (by omega), getI_some, getI_some, hw, decide_eq_true (p := (M.getD i []).getD j 0 = (M.getD i []).getD j 0) rfl] at ha
      refine .next k41_2 (ha.trans ?_) (loop412 hi hm hr t (j + 1) (by omega))
      exact (inR_pos (by omega) (by omega)).trans ((cnd_pos (by omega)).trans ((inR_pos (by omega) (by omega)).trans ((inR_pos (by omega) (by omega)).trans ((inR_pos (by omega) (by omega)).trans ((inR_pos (by omega) (by omega)).trans rfl)))))
theorem loop410 (hm : M.length ≤ 100) (hr : ∀ r ∈ M, r.length ≤ 100) : ∀ (t i : Nat), i + t = M.length →
    LoopAt aeC Ev.nil 41 0 Try.f41 0 (s41 (.sl (M.map rowD) M.length 1 c z) (.sl (M.map rowD) M.length 1 c2 z2) i) (.exit 0) ⟨[], [], []⟩
  | 0, i, hi => .out k41_0 (by simp) ((t41_0x ..).trans (cnd_neg (by omega)))
  | t + 1, i, hi => by
    have hlt : i < M.length := by omega
    have e1 : Int.toNat (i : Int) * 1 = i := by simp
    have ha := t41_0 (M.map rowD) (M.map rowD) M.length M.length i c z c2 z2
    rw [e1, nth_mat hlt] at ha
    unfold rowD at ha
    simp only [getS_some, Nat.beq_refl, Bool.or_true, cond_true] at ha
    rw [show M.map (fun r => DV.sl (ints r) r.length 1 false false) = M.map rowD from rfl] at ha
    have hw : IntKind.wrap .i64 ((i : Int) + 1) = ((i + 1 : Nat) : Int) := by rw [wrap64_o (by omega) (by omega)]; rfl
    have hx := t41_x (.sl (M.map rowD) M.length 1 c z) (.sl (M.map rowD) M.length 1 c2 z2) i
    rw [hw] at hx
    have hl : (M.getD i []).length ≤ 100 := hr _ (by rw [List.getD_eq_getElem?_getD, List.getElem?_eq_getElem hlt]; exact List.getElem_mem _)
    refine .nextF k41_0 ((startF_seg k41_0 (ha.trans ?_) (loop412 hlt hm hl (M.getD i []).length 0 (by omega))).trans (nextF_done k41_0 roundD_plain hx)) (loop410 hm hr t (i + 1) (by omega))
    exact (cnd_pos (by omega)).trans ((inR_pos (by omega) (by omega)).trans ((inR_pos (by omega) (by omega)).trans rfl))
theorem c41 (hm : M.length ≤ 100) (hr : ∀ r ∈ M, r.length ≤ 100) : PureOK Try.prog 41 [.sl (M.map rowD) M.length 1 c z, .sl (M.map rowD) M.length 1 c2 z2] (bD true) :=
  ae_pure EvOK.nil (fn := Try.f41) k41 (by kernel_rfl) (by kernel_rfl) ((startF_seg k41 ((t41_h ..).trans (by rw [decide_eq_true (p := (M.length : Int) = (M.length : Int)) rfl]; rfl)) (loop410 hm hr M.length 0 (by omega))).trans (nextF_done k41 done_plain t41_e))
end
/-! ### What is opened -/
def pad5 (r : List Int) : List DV := ints r ++ List.replicate (5 - r.length) (iD 0)
def mtx (M : List (List Int)) : DV := .agg (iD M.length :: ((M.map pad5).flatten ++ List.replicate (25 - 5 * M.length) (iD 0)))
def mtx0 : DV := .agg (List.replicate 26 (iD 0))
def chO (good bad : Option DV) : List Int → Option DV
  | [] => good
  | x :: r => bif decide (x < 0) then bad else bif decide (9 < x) then bad else chO good bad r
theorem chO_eq (g b : Option DV) : ∀ l : List Int, chO g b l = bif smallB l then g else b
  | [] => rfl
  | x :: r => by
    simp only [chO, smallB, List.all_cons]
    by_cases h1 : x < 0
    · rw [cnd_pos h1, decide_eq_false (p := 0 ≤ x) (by omega)]; rfl
    · rw [cnd_neg h1]
      by_cases h2 : 9 < x
      · rw [cnd_pos h2, decide_eq_false (p := x ≤ 9) (by omega), Bool.and_false]; rfl
      · rw [cnd_neg h2, decide_eq_true (p := 0 ≤ x) (by omega), decide_eq_true (p := x ≤ 9) (by omega), chO_eq g b r]; rfl
theorem u61_1 (ok : Nat → List DV → Bool) (Q : Nat → List DV → DV) (x00 : Int) : pureE aeC (evW [] ok Q) 30 61 Try.f61 [matD [[x00]]] = chO (some (.tup [mtx [[x00]], iD 0])) (some (.tup [mtx0, iD 60])) [x00] := by kernel_rfl
theorem u61_2 (ok : Nat → List DV → Bool) (Q : Nat → List DV → DV) (x00 x01 x10 x11 : Int) : pureE aeC (evW [] ok Q) 30 61 Try.f61 [matD [[x00, x01], [x10, x11]]] = chO (some (.tup [mtx [[x00, x01], [x10, x11]], iD 0])) (some (.tup [mtx0, iD 60])) [x00, x01, x10, x11] := by kernel_rfl
theorem u61_3 (ok : Nat → List DV → Bool) (Q : Nat → List DV → DV) (x00 x01 x02 x10 x11 x12 x20 x21 x22 : Int) : pureE aeC (evW [] ok Q) 30 61 Try.f61 [matD [[x00, x01, x02], [x10, x11, x12], [x20, x21, x22]]] = chO (some (.tup [mtx [[x00, x01, x02], [x10, x11, x12], [x20, x21, x22]], iD 0])) (some (.tup [mtx0, iD 60])) [x00, x01, x02, x10, x11, x12, x20, x21, x22] := by kernel_rfl
theorem u61_4 (ok : Nat → List DV → Bool) (Q : Nat → List DV → DV) (x00 x01 x02 x03 x10 x11 x12 x13 x20 x21 x22 x23 x30 x31 x32 x33 : Int) : pureE aeC (evW [] ok Q) 30 61 Try.f61 [matD [[x00, x01, x02, x03], [x10, x11, x12, x13], [x20, x21, x22, x23], [x30, x31, x32, x33]]] = chO (some (.tup [mtx [[x00, x01, x02, x03], [x10, x11, x12, x13], [x20, x21, x22, x23], [x30, x31, x32, x33]], iD 0])) (some (.tup [mtx0, iD 60])) [x00, x01, x02, x03, x10, x11, x12, x13, x20, x21, x22, x23, x30, x31, x32, x33] := by kernel_rfl
theorem u61_5 (ok : Nat → List DV → Bool) (Q : Nat → List DV → DV) (x00 x01 x02 x03 x04 x10 x11 x12 x13 x14 x20 x21 x22 x23 x24 x30 x31 x32 x33 x34 x40 x41 x42 x43 x44 : Int) : pureE aeC (evW [] ok Q) 30 61 Try.f61 [matD [[x00, x01, x02, x03, x04], [x10, x11, x12, x13, x14], [x20, x21, x22, x23, x24], [x30, x31, x32, x33, x34], [x40, x41, x42, x43, x44]]] = chO (some (.tup [mtx [[x00, x01, x02, x03, x04], [x10, x11, x12, x13, x14], [x20, x21, x22, x23, x24], [x30, x31, x32, x33, x34], [x40, x41, x42, x43, x44]], iD 0])) (some (.tup [mtx0, iD 60])) [x00, x01, x02, x03, x04, x10, x11, x12, x13, x14, x20, x21, x22, x23, x24, x30, x31, x32, x33, x34, x40, x41, x42, x43, x44] := by kernel_rfl
theorem len1 {α : Type} {l : List α} (h : l.length = 1) : ∃ a0, l = [a0] := by
  match l, h with
  | [a0], _ => exact ⟨a0, rfl⟩
theorem len2 {α : Type} {l : List α} (h : l.length = 2) : ∃ a0 a1, l = [a0, a1] := by
  match l, h with
  | [a0, a1], _ => exact ⟨a0, a1, rfl⟩
theorem len3 {α : Type} {l : List α} (h : l.length = 3) : ∃ a0 a1 a2, l = [a0, a1, a2] := by
  match l, h with
  | [a0, a1, a2], _ => exact ⟨a0, a1, a2, rfl⟩
theorem len4 {α : Type} {l : List α} (h : l.length = 4) : ∃ a0 a1 a2 a3, l = [a0, a1, a2, a3] := by
  match l, h with
  | [a0, a1, a2, a3], _ => exact ⟨a0, a1, a2, a3, rfl⟩
theorem len5 {α : Type} {l : List α} (h : l.length = 5) : ∃ a0 a1 a2 a3 a4, l = [a0, a1, a2, a3, a4] := by
  match l, h with
  | [a0, a1, a2, a3, a4], _ => exact ⟨a0, a1, a2, a3, a4, rfl⟩
/-- A matrix, by its numbers. -/
theorem mat_forms {k : Nat} {M : List (List Int)} (h : matB k M) (h1 : 1 ≤ k) (h5 : k ≤ 5) : (k = 1 ∧ ∃ x00, M = [[x00]]) ∨ (k = 2 ∧ ∃ x00 x01 x10 x11, M = [[x00, x01], [x10, x11]]) ∨ (k = 3 ∧ ∃ x00 x01 x02 x10 x11 x12 x20 x21 x22, M = [[x00, x01, x02], [x10, x11, x12], [x20, x21, x22]]) ∨ (k = 4 ∧ ∃ x00 x01 x02 x03 x10 x11 x12 x13 x20 x21 x22 x23 x30 x31 x32 x33, M = [[x00, x01, x02, x03], [x10, x11, x12, x13], [x20, x21, x22, x23], [x30, x31, x32, x33]]) ∨ (k = 5 ∧ ∃ x00 x01 x02 x03 x04 x10 x11 x12 x13 x14 x20 x21 x22 x23 x24 x30 x31 x32 x33 x34 x40 x41 x42 x43 x44, M = [[x00, x01, x02, x03, x04], [x10, x11, x12, x13, x14], [x20, x21, x22, x23, x24], [x30, x31, x32, x33, x34], [x40, x41, x42, x43, x44]]) := by
  have len : ∀ r ∈ M, r.length = k := fun r hr => (h.2 r hr).1
  have hl := h.1
  clear h
  rcases (show k = 1 ∨ k = 2 ∨ k = 3 ∨ k = 4 ∨ k = 5 by omega) with rfl | rfl | rfl | rfl | rfl
  · obtain ⟨q0, rfl⟩ := len1 hl
    obtain ⟨x00, rfl⟩ := len1 (len q0 (by simp))
    exact .inl ⟨rfl, x00, rfl⟩
  · obtain ⟨q0, q1, rfl⟩ := len2 hl
    obtain ⟨x00, x01, rfl⟩ := len2 (len q0 (by simp))
    obtain ⟨x10, x11, rfl⟩ := len2 (len q1 (by simp))
    exact .inr (.inl ⟨rfl, x00, x01, x10, x11, rfl⟩)
  · obtain ⟨q0, q1, q2, rfl⟩ := len3 hl
    obtain ⟨x00, x01, x02, rfl⟩ := len3 (len q0 (by simp))
    obtain ⟨x10, x11, x12, rfl⟩ := len3 (len q1 (by simp))
    obtain ⟨x20, x21, x22, rfl⟩ := len3 (len q2 (by simp))
    exact .inr (.inr (.inl ⟨rfl, x00, x01, x02, x10, x11, x12, x20, x21, x22, rfl⟩))
  · obtain ⟨q0, q1, q2, q3, rfl⟩ := len4 hl
    obtain ⟨x00, x01, x02, x03, rfl⟩ := len4 (len q0 (by simp))
    obtain ⟨x10, x11, x12, x13, rfl⟩ := len4 (len q1 (by simp))
    obtain ⟨x20, x21, x22, x23, rfl⟩ := len4 (len q2 (by simp))
    obtain ⟨x30, x31, x32, x33, rfl⟩ := len4 (len q3 (by simp))
    exact .inr (.inr (.inr (.inl ⟨rfl, x00, x01, x02, x03, x10, x11, x12, x13, x20, x21, x22, x23, x30, x31, x32, x33, rfl⟩)))
  · obtain ⟨q0, q1, q2, q3, q4, rfl⟩ := len5 hl
    obtain ⟨x00, x01, x02, x03, x04, rfl⟩ := len5 (len q0 (by simp))
    obtain ⟨x10, x11, x12, x13, x14, rfl⟩ := len5 (len q1 (by simp))
    obtain ⟨x20, x21, x22, x23, x24, rfl⟩ := len5 (len q2 (by simp))
    obtain ⟨x30, x31, x32, x33, x34, rfl⟩ := len5 (len q3 (by simp))
    obtain ⟨x40, x41, x42, x43, x44, rfl⟩ := len5 (len q4 (by simp))
    exact .inr (.inr (.inr (.inr (⟨rfl, x00, x01, x02, x03, x04, x10, x11, x12, x13, x14, x20, x21, x22, x23, x24, x30, x31, x32, x33, x34, x40, x41, x42, x43, x44, rfl⟩))))
theorem small_flat {k : Nat} {M : List (List Int)} (h : matB k M) : smallB M.flatten = true := smallB_mk fun x hx => by
  obtain ⟨r, hr, hx⟩ := List.mem_flatten.1 hx
  exact smallB_at (h.2 r hr).2 x hx
theorem c61 {k : Nat} {M : List (List Int)} (h : matB k M) (h1 : 1 ≤ k) (h5 : k ≤ 5) : PureOK Try.prog 61 [matD M] (.tup [mtx M, iD 0]) := by
  have hs := small_flat h
  rcases mat_forms h h1 h5 with ⟨_, x00, rfl⟩ | ⟨_, x00, x01, x10, x11, rfl⟩ | ⟨_, x00, x01, x02, x10, x11, x12, x20, x21, x22, rfl⟩ | ⟨_, x00, x01, x02, x03, x10, x11, x12, x13, x20, x21, x22, x23, x30, x31, x32, x33, rfl⟩ | ⟨_, x00, x01, x02, x03, x04, x10, x11, x12, x13, x14, x20, x21, x22, x23, x24, x30, x31, x32, x33, x34, x40, x41, x42, x43, x44, rfl⟩
  · exact walkA (by kernel_rfl : tget aeF 61 = some Try.f61) ((u61_1 _ _ x00).trans ((chO_eq _ _ _).trans (cond_is' hs)))
  · exact walkA (by kernel_rfl : tget aeF 61 = some Try.f61) ((u61_2 _ _ x00 x01 x10 x11).trans ((chO_eq _ _ _).trans (cond_is' hs)))
  · exact walkA (by kernel_rfl : tget aeF 61 = some Try.f61) ((u61_3 _ _ x00 x01 x02 x10 x11 x12 x20 x21 x22).trans ((chO_eq _ _ _).trans (cond_is' hs)))
  · exact walkA (by kernel_rfl : tget aeF 61 = some Try.f61) ((u61_4 _ _ x00 x01 x02 x03 x10 x11 x12 x13 x20 x21 x22 x23 x30 x31 x32 x33).trans ((chO_eq _ _ _).trans (cond_is' hs)))
  · exact walkA (by kernel_rfl : tget aeF 61 = some Try.f61) ((u61_5 _ _ x00 x01 x02 x03 x04 x10 x11 x12 x13 x14 x20 x21 x22 x23 x24 x30 x31 x32 x33 x34 x40 x41 x42 x43 x44).trans ((chO_eq _ _ _).trans (cond_is' hs)))
end Go.Proofs.Ytjfopbpkophoeaa

/- Chapter 06: splits. Written by wip/tools/gen6b.py. -/
namespace Go.Proofs.Ytjfopbpkophoeaa
open Go Go.AE
set_option maxRecDepth 100000

/-- Pairs of a list's numbers and a row's. -/
def inB : List Int → List Int → Bool
  | u :: us, x :: xs => (decide (0 ≤ u) && decide (u ≤ x)) && inB us xs
  | _, _ => true
def chI (good bad : Option DV) : List Int → List Int → Option DV
  | u :: us, x :: xs => bif decide (u < 0) then bad else bif decide (x < u) then bad else chI good bad us xs
  | _, _ => good
theorem chI_eq (g b : Option DV) : ∀ us xs : List Int, chI g b us xs = bif inB us xs then g else b
  | [], xs => by cases xs <;> rfl
  | _ :: _, [] => rfl
  | u :: us, x :: xs => by
    simp only [chI, inB]
    by_cases h1 : u < 0
    · rw [cnd_pos h1, decide_eq_false (p := 0 ≤ u) (by omega)]; rfl
    · rw [cnd_neg h1]
      by_cases h2 : x < u
      · rw [cnd_pos h2, decide_eq_false (p := u ≤ x) (by omega), Bool.and_false]; rfl
      · rw [cnd_neg h2, decide_eq_true (p := 0 ≤ u) (by omega), decide_eq_true (p := u ≤ x) (by omega), chI_eq g b us xs]; rfl
def allZ : List Int → Bool
  | [] => true
  | u :: us => decide (u = 0) && allZ us
def allX : List Int → List Int → Bool
  | u :: us, x :: xs => decide (u = x) && allX us xs
  | _, _ => true
def splitsB (M : List (List Int)) (s : Int) (u : List Int) : Bool := decide (0 ≤ s) && (decide (s < M.length) && (decide (u.length = M.length) && (inB u (M.getD s.toNat []) && (!allZ u && !allX u (M.getD s.toNat [])))))
/-- The split. -/
def splitM (M : List (List Int)) (s : Nat) (u : List Int) : List (List Int) :=
  (M.set s u).map (fun r => r ++ [r.getD s 0]) ++ [List.zipWith (fun x y => IntKind.wrap .i64 (x - y)) (M.getD s []) u ++ [(List.zipWith (fun x y => IntKind.wrap .i64 (x - y)) (M.getD s []) u).getD s 0]]
abbrev z0 : DV := .sl [] 0 0 false true
def nilD2 (e : Int) : DV := .tup [z0, iD e]
def splitD (M : List (List Int)) (s : Int) (u : List Int) : DV := bif splitsB M s u then (bif decide (M.length = 5) then nilD2 8 else .tup [matD (splitM M s.toNat u), iD 0]) else nilD2 1
noncomputable def evS (ok : Nat → List DV → Bool) (q : DV) : Ev := evW [61] ok fun _ _ => q
def R39 (ok : Nat → List DV → Bool) (A : DV) (u x : List Int) (good : DV) : Option DV := bif ok 61 [A] then chI (bif allZ u then some (nilD2 1) else bif allX u x then some (nilD2 1) else some good) (some (nilD2 1)) u x else none
theorem k39 : OkSeg Try.f39 none [0, 2, 4] := ⟨by kernel_rfl, by kernel_rfl, by decide⟩

theorem d39_1 (ok : Nat → List DV → Bool) (A U : List DV) (s : Int) (n : Nat) (c z : Bool) (x00 : Int) : startS aeC (evS ok (.tup [mtx [[x00]], iD 0])) 39 0 Try.f39 none ⟨envOf 0 [.d (.sl A 1 1 false false), .d (iD s), .d (.sl U n 1 c z)], [], []⟩ (doneE aeC Try.f39 0 fun v h => freezeV h 4 v) = bif ok 61 [.sl A 1 1 false false] then (bif decide (s < 0) then some (nilD2 1) else bif decide (1 ≤ s) then some (nilD2 1) else bif !decide ((n : Int) = 1) then some (nilD2 1) else none) else none := by kernel_rfl
theorem u39_10 (ok : Nat → List DV → Bool) (c z : Bool) (x00 u0 : Int) : pureE aeC (evS ok (.tup [mtx [[x00]], iD 0])) 30 39 Try.f39 [matD [[x00]], iD 0, ls [u0] c z] = R39 ok (matD [[x00]]) [u0] [x00] ((.tup [matD (splitM [[x00]] 0 [u0]), iD 0])) := by kernel_rfl
theorem u42_10 (ok : Nat → List DV → Bool) (Q : Nat → List DV → DV) (c z : Bool) (x00 u0 : Int) : pureE aeC (evW [] ok Q) 30 42 Try.f42 [matD [[x00]], iD 0, ls [u0] c z] = some (matD (splitM [[x00]] 0 [u0])) := by kernel_rfl
theorem d39_2 (ok : Nat → List DV → Bool) (A U : List DV) (s : Int) (n : Nat) (c z : Bool) (x00 x01 x10 x11 : Int) : startS aeC (evS ok (.tup [mtx [[x00, x01], [x10, x11]], iD 0])) 39 0 Try.f39 none ⟨envOf 0 [.d (.sl A 2 1 false false), .d (iD s), .d (.sl U n 1 c z)], [], []⟩ (doneE aeC Try.f39 0 fun v h => freezeV h 4 v) = bif ok 61 [.sl A 2 1 false false] then (bif decide (s < 0) then some (nilD2 1) else bif decide (2 ≤ s) then some (nilD2 1) else bif !decide ((n : Int) = 2) then some (nilD2 1) else none) else none := by kernel_rfl
theorem u39_20 (ok : Nat → List DV → Bool) (c z : Bool) (x00 x01 x10 x11 u0 u1 : Int) : pureE aeC (evS ok (.tup [mtx [[x00, x01], [x10, x11]], iD 0])) 30 39 Try.f39 [matD [[x00, x01], [x10, x11]], iD 0, ls [u0, u1] c z] = R39 ok (matD [[x00, x01], [x10, x11]]) [u0, u1] [x00, x01] ((.tup [matD (splitM [[x00, x01], [x10, x11]] 0 [u0, u1]), iD 0])) := by kernel_rfl
theorem u42_20 (ok : Nat → List DV → Bool) (Q : Nat → List DV → DV) (c z : Bool) (x00 x01 x10 x11 u0 u1 : Int) : pureE aeC (evW [] ok Q) 30 42 Try.f42 [matD [[x00, x01], [x10, x11]], iD 0, ls [u0, u1] c z] = some (matD (splitM [[x00, x01], [x10, x11]] 0 [u0, u1])) := by kernel_rfl
theorem u39_21 (ok : Nat → List DV → Bool) (c z : Bool) (x00 x01 x10 x11 u0 u1 : Int) : pureE aeC (evS ok (.tup [mtx [[x00, x01], [x10, x11]], iD 0])) 30 39 Try.f39 [matD [[x00, x01], [x10, x11]], iD 1, ls [u0, u1] c z] = R39 ok (matD [[x00, x01], [x10, x11]]) [u0, u1] [x10, x11] ((.tup [matD (splitM [[x00, x01], [x10, x11]] 1 [u0, u1]), iD 0])) := by kernel_rfl
theorem u42_21 (ok : Nat → List DV → Bool) (Q : Nat → List DV → DV) (c z : Bool) (x00 x01 x10 x11 u0 u1 : Int) : pureE aeC (evW [] ok Q) 30 42 Try.f42 [matD [[x00, x01], [x10, x11]], iD 1, ls [u0, u1] c z] = some (matD (splitM [[x00, x01], [x10, x11]] 1 [u0, u1])) := by kernel_rfl
theorem d39_3 (ok : Nat → List DV → Bool) (A U : List DV) (s : Int) (n : Nat) (c z : Bool) (x00 x01 x02 x10 x11 x12 x20 x21 x22 : Int) : startS aeC (evS ok (.tup [mtx [[x00, x01, x02], [x10, x11, x12], [x20, x21, x22]], iD 0])) 39 0 Try.f39 none ⟨envOf 0 [.d (.sl A 3 1 false false), .d (iD s), .d (.sl U n 1 c z)], [], []⟩ (doneE aeC Try.f39 0 fun v h => freezeV h 4 v) = bif ok 61 [.sl A 3 1 false false] then (bif decide (s < 0) then some (nilD2 1) else bif decide (3 ≤ s) then some (nilD2 1) else bif !decide ((n : Int) = 3) then some (nilD2 1) else none) else none := by kernel_rfl
theorem u39_30 (ok : Nat → List DV → Bool) (c z : Bool) (x00 x01 x02 x10 x11 x12 x20 x21 x22 u0 u1 u2 : Int) : pureE aeC (evS ok (.tup [mtx [[x00, x01, x02], [x10, x11, x12], [x20, x21, x22]], iD 0])) 30 39 Try.f39 [matD [[x00, x01, x02], [x10, x11, x12], [x20, x21, x22]], iD 0, ls [u0, u1, u2] c z] = R39 ok (matD [[x00, x01, x02], [x10, x11, x12], [x20, x21, x22]]) [u0, u1, u2] [x00, x01, x02] ((.tup [matD (splitM [[x00, x01, x02], [x10, x11, x12], [x20, x21, x22]] 0 [u0, u1, u2]), iD 0])) := by kernel_rfl
theorem u42_30 (ok : Nat → List DV → Bool) (Q : Nat → List DV → DV) (c z : Bool) (x00 x01 x02 x10 x11 x12 x20 x21 x22 u0 u1 u2 : Int) : pureE aeC (evW [] ok Q) 30 42 Try.f42 [matD [[x00, x01, x02], [x10, x11, x12], [x20, x21, x22]], iD 0, ls [u0, u1, u2] c z] = some (matD (splitM [[x00, x01, x02], [x10, x11, x12], [x20, x21, x22]] 0 [u0, u1, u2])) := by kernel_rfl
theorem u39_31 (ok : Nat → List DV → Bool) (c z : Bool) (x00 x01 x02 x10 x11 x12 x20 x21 x22 u0 u1 u2 : Int) : pureE aeC (evS ok (.tup [mtx [[x00, x01, x02], [x10, x11, x12], [x20, x21, x22]], iD 0])) 30 39 Try.f39 [matD [[x00, x01, x02], [x10, x11, x12], [x20, x21, x22]], iD 1, ls [u0, u1, u2] c z] = R39 ok (matD [[x00, x01, x02], [x10, x11, x12], [x20, x21, x22]]) [u0, u1, u2] [x10, x11, x12] ((.tup [matD (splitM [[x00, x01, x02], [x10, x11, x12], [x20, x21, x22]] 1 [u0, u1, u2]), iD 0])) := by kernel_rfl
theorem u42_31 (ok : Nat → List DV → Bool) (Q : Nat → List DV → DV) (c z : Bool) (x00 x01 x02 x10 x11 x12 x20 x21 x22 u0 u1 u2 : Int) : pureE aeC (evW [] ok Q) 30 42 Try.f42 [matD [[x00, x01, x02], [x10, x11, x12], [x20, x21, x22]], iD 1, ls [u0, u1, u2] c z] = some (matD (splitM [[x00, x01, x02], [x10, x11, x12], [x20, x21, x22]] 1 [u0, u1, u2])) := by kernel_rfl
theorem u39_32 (ok : Nat → List DV → Bool) (c z : Bool) (x00 x01 x02 x10 x11 x12 x20 x21 x22 u0 u1 u2 : Int) : pureE aeC (evS ok (.tup [mtx [[x00, x01, x02], [x10, x11, x12], [x20, x21, x22]], iD 0])) 30 39 Try.f39 [matD [[x00, x01, x02], [x10, x11, x12], [x20, x21, x22]], iD 2, ls [u0, u1, u2] c z] = R39 ok (matD [[x00, x01, x02], [x10, x11, x12], [x20, x21, x22]]) [u0, u1, u2] [x20, x21, x22] ((.tup [matD (splitM [[x00, x01, x02], [x10, x11, x12], [x20, x21, x22]] 2 [u0, u1, u2]), iD 0])) := by kernel_rfl
theorem u42_32 (ok : Nat → List DV → Bool) (Q : Nat → List DV → DV) (c z : Bool) (x00 x01 x02 x10 x11 x12 x20 x21 x22 u0 u1 u2 : Int) : pureE aeC (evW [] ok Q) 30 42 Try.f42 [matD [[x00, x01, x02], [x10, x11, x12], [x20, x21, x22]], iD 2, ls [u0, u1, u2] c z] = some (matD (splitM [[x00, x01, x02], [x10, x11, x12], [x20, x21, x22]] 2 [u0, u1, u2])) := by kernel_rfl
theorem d39_4 (ok : Nat → List DV → Bool) (A U : List DV) (s : Int) (n : Nat) (c z : Bool) (x00 x01 x02 x03 x10 x11 x12 x13 x20 x21 x22 x23 x30 x31 x32 x33 : Int) : startS aeC (evS ok (.tup [mtx [[x00, x01, x02, x03], [x10, x11, x12, x13], [x20, x21, x22, x23], [x30, x31, x32, x33]], iD 0])) 39 0 Try.f39 none ⟨envOf 0 [.d (.sl A 4 1 false false), .d (iD s), .d (.sl U n 1 c z)], [], []⟩ (doneE aeC Try.f39 0 fun v h => freezeV h 4 v) = bif ok 61 [.sl A 4 1 false false] then (bif decide (s < 0) then some (nilD2 1) else bif decide (4 ≤ s) then some (nilD2 1) else bif !decide ((n : Int) = 4) then some (nilD2 1) else none) else none := by kernel_rfl
theorem u39_40 (ok : Nat → List DV → Bool) (c z : Bool) (x00 x01 x02 x03 x10 x11 x12 x13 x20 x21 x22 x23 x30 x31 x32 x33 u0 u1 u2 u3 : Int) : pureE aeC (evS ok (.tup [mtx [[x00, x01, x02, x03], [x10, x11, x12, x13], [x20, x21, x22, x23], [x30, x31, x32, x33]], iD 0])) 30 39 Try.f39 [matD [[x00, x01, x02, x03], [x10, x11, x12, x13], [x20, x21, x22, x23], [x30, x31, x32, x33]], iD 0, ls [u0, u1, u2, u3] c z] = R39 ok (matD [[x00, x01, x02, x03], [x10, x11, x12, x13], [x20, x21, x22, x23], [x30, x31, x32, x33]]) [u0, u1, u2, u3] [x00, x01, x02, x03] ((.tup [matD (splitM [[x00, x01, x02, x03], [x10, x11, x12, x13], [x20, x21, x22, x23], [x30, x31, x32, x33]] 0 [u0, u1, u2, u3]), iD 0])) := by kernel_rfl
theorem u42_40 (ok : Nat → List DV → Bool) (Q : Nat → List DV → DV) (c z : Bool) (x00 x01 x02 x03 x10 x11 x12 x13 x20 x21 x22 x23 x30 x31 x32 x33 u0 u1 u2 u3 : Int) : pureE aeC (evW [] ok Q) 30 42 Try.f42 [matD [[x00, x01, x02, x03], [x10, x11, x12, x13], [x20, x21, x22, x23], [x30, x31, x32, x33]], iD 0, ls [u0, u1, u2, u3] c z] = some (matD (splitM [[x00, x01, x02, x03], [x10, x11, x12, x13], [x20, x21, x22, x23], [x30, x31, x32, x33]] 0 [u0, u1, u2, u3])) := by kernel_rfl
theorem u39_41 (ok : Nat → List DV → Bool) (c z : Bool) (x00 x01 x02 x03 x10 x11 x12 x13 x20 x21 x22 x23 x30 x31 x32 x33 u0 u1 u2 u3 : Int) : pureE aeC (evS ok (.tup [mtx [[x00, x01, x02, x03], [x10, x11, x12, x13], [x20, x21, x22, x23], [x30, x31, x32, x33]], iD 0])) 30 39 Try.f39 [matD [[x00, x01, x02, x03], [x10, x11, x12, x13], [x20, x21, x22, x23], [x30, x31, x32, x33]], iD 1, ls [u0, u1, u2, u3] c z] = R39 ok (matD [[x00, x01, x02, x03], [x10, x11, x12, x13], [x20, x21, x22, x23], [x30, x31, x32, x33]]) [u0, u1, u2, u3] [x10, x11, x12, x13] ((.tup [matD (splitM [[x00, x01, x02, x03], [x10, x11, x12, x13], [x20, x21, x22, x23], [x30, x31, x32, x33]] 1 [u0, u1, u2, u3]), iD 0])) := by kernel_rfl
theorem u42_41 (ok : Nat → List DV → Bool) (Q : Nat → List DV → DV) (c z : Bool) (x00 x01 x02 x03 x10 x11 x12 x13 x20 x21 x22 x23 x30 x31 x32 x33 u0 u1 u2 u3 : Int) : pureE aeC (evW [] ok Q) 30 42 Try.f42 [matD [[x00, x01, x02, x03], [x10, x11, x12, x13], [x20, x21, x22, x23], [x30, x31, x32, x33]], iD 1, ls [u0, u1, u2, u3] c z] = some (matD (splitM [[x00, x01, x02, x03], [x10, x11, x12, x13], [x20, x21, x22, x23], [x30, x31, x32, x33]] 1 [u0, u1, u2, u3])) := by kernel_rfl
theorem u39_42 (ok : Nat → List DV → Bool) (c z : Bool) (x00 x01 x02 x03 x10 x11 x12 x13 x20 x21 x22 x23 x30 x31 x32 x33 u0 u1 u2 u3 : Int) : pureE aeC (evS ok (.tup [mtx [[x00, x01, x02, x03], [x10, x11, x12, x13], [x20, x21, x22, x23], [x30, x31, x32, x33]], iD 0])) 30 39 Try.f39 [matD [[x00, x01, x02, x03], [x10, x11, x12, x13], [x20, x21, x22, x23], [x30, x31, x32, x33]], iD 2, ls [u0, u1, u2, u3] c z] = R39 ok (matD [[x00, x01, x02, x03], [x10, x11, x12, x13], [x20, x21, x22, x23], [x30, x31, x32, x33]]) [u0, u1, u2, u3] [x20, x21, x22, x23] ((.tup [matD (splitM [[x00, x01, x02, x03], [x10, x11, x12, x13], [x20, x21, x22, x23], [x30, x31, x32, x33]] 2 [u0, u1, u2, u3]), iD 0])) := by kernel_rfl
theorem u42_42 (ok : Nat → List DV → Bool) (Q : Nat → List DV → DV) (c z : Bool) (x00 x01 x02 x03 x10 x11 x12 x13 x20 x21 x22 x23 x30 x31 x32 x33 u0 u1 u2 u3 : Int) : pureE aeC (evW [] ok Q) 30 42 Try.f42 [matD [[x00, x01, x02, x03], [x10, x11, x12, x13], [x20, x21, x22, x23], [x30, x31, x32, x33]], iD 2, ls [u0, u1, u2, u3] c z] = some (matD (splitM [[x00, x01, x02, x03], [x10, x11, x12, x13], [x20, x21, x22, x23], [x30, x31, x32, x33]] 2 [u0, u1, u2, u3])) := by kernel_rfl
theorem u39_43 (ok : Nat → List DV → Bool) (c z : Bool) (x00 x01 x02 x03 x10 x11 x12 x13 x20 x21 x22 x23 x30 x31 x32 x33 u0 u1 u2 u3 : Int) : pureE aeC (evS ok (.tup [mtx [[x00, x01, x02, x03], [x10, x11, x12, x13], [x20, x21, x22, x23], [x30, x31, x32, x33]], iD 0])) 30 39 Try.f39 [matD [[x00, x01, x02, x03], [x10, x11, x12, x13], [x20, x21, x22, x23], [x30, x31, x32, x33]], iD 3, ls [u0, u1, u2, u3] c z] = R39 ok (matD [[x00, x01, x02, x03], [x10, x11, x12, x13], [x20, x21, x22, x23], [x30, x31, x32, x33]]) [u0, u1, u2, u3] [x30, x31, x32, x33] ((.tup [matD (splitM [[x00, x01, x02, x03], [x10, x11, x12, x13], [x20, x21, x22, x23], [x30, x31, x32, x33]] 3 [u0, u1, u2, u3]), iD 0])) := by kernel_rfl
theorem u42_43 (ok : Nat → List DV → Bool) (Q : Nat → List DV → DV) (c z : Bool) (x00 x01 x02 x03 x10 x11 x12 x13 x20 x21 x22 x23 x30 x31 x32 x33 u0 u1 u2 u3 : Int) : pureE aeC (evW [] ok Q) 30 42 Try.f42 [matD [[x00, x01, x02, x03], [x10, x11, x12, x13], [x20, x21, x22, x23], [x30, x31, x32, x33]], iD 3, ls [u0, u1, u2, u3] c z] = some (matD (splitM [[x00, x01, x02, x03], [x10, x11, x12, x13], [x20, x21, x22, x23], [x30, x31, x32, x33]] 3 [u0, u1, u2, u3])) := by kernel_rfl
theorem d39_5 (ok : Nat → List DV → Bool) (A U : List DV) (s : Int) (n : Nat) (c z : Bool) (x00 x01 x02 x03 x04 x10 x11 x12 x13 x14 x20 x21 x22 x23 x24 x30 x31 x32 x33 x34 x40 x41 x42 x43 x44 : Int) : startS aeC (evS ok (.tup [mtx [[x00, x01, x02, x03, x04], [x10, x11, x12, x13, x14], [x20, x21, x22, x23, x24], [x30, x31, x32, x33, x34], [x40, x41, x42, x43, x44]], iD 0])) 39 0 Try.f39 none ⟨envOf 0 [.d (.sl A 5 1 false false), .d (iD s), .d (.sl U n 1 c z)], [], []⟩ (doneE aeC Try.f39 0 fun v h => freezeV h 4 v) = bif ok 61 [.sl A 5 1 false false] then (bif decide (s < 0) then some (nilD2 1) else bif decide (5 ≤ s) then some (nilD2 1) else bif !decide ((n : Int) = 5) then some (nilD2 1) else none) else none := by kernel_rfl
theorem u39_50 (ok : Nat → List DV → Bool) (c z : Bool) (x00 x01 x02 x03 x04 x10 x11 x12 x13 x14 x20 x21 x22 x23 x24 x30 x31 x32 x33 x34 x40 x41 x42 x43 x44 u0 u1 u2 u3 u4 : Int) : pureE aeC (evS ok (.tup [mtx [[x00, x01, x02, x03, x04], [x10, x11, x12, x13, x14], [x20, x21, x22, x23, x24], [x30, x31, x32, x33, x34], [x40, x41, x42, x43, x44]], iD 0])) 30 39 Try.f39 [matD [[x00, x01, x02, x03, x04], [x10, x11, x12, x13, x14], [x20, x21, x22, x23, x24], [x30, x31, x32, x33, x34], [x40, x41, x42, x43, x44]], iD 0, ls [u0, u1, u2, u3, u4] c z] = R39 ok (matD [[x00, x01, x02, x03, x04], [x10, x11, x12, x13, x14], [x20, x21, x22, x23, x24], [x30, x31, x32, x33, x34], [x40, x41, x42, x43, x44]]) [u0, u1, u2, u3, u4] [x00, x01, x02, x03, x04] (nilD2 8) := by kernel_rfl
theorem u39_51 (ok : Nat → List DV → Bool) (c z : Bool) (x00 x01 x02 x03 x04 x10 x11 x12 x13 x14 x20 x21 x22 x23 x24 x30 x31 x32 x33 x34 x40 x41 x42 x43 x44 u0 u1 u2 u3 u4 : Int) : pureE aeC (evS ok (.tup [mtx [[x00, x01, x02, x03, x04], [x10, x11, x12, x13, x14], [x20, x21, x22, x23, x24], [x30, x31, x32, x33, x34], [x40, x41, x42, x43, x44]], iD 0])) 30 39 Try.f39 [matD [[x00, x01, x02, x03, x04], [x10, x11, x12, x13, x14], [x20, x21, x22, x23, x24], [x30, x31, x32, x33, x34], [x40, x41, x42, x43, x44]], iD 1, ls [u0, u1, u2, u3, u4] c z] = R39 ok (matD [[x00, x01, x02, x03, x04], [x10, x11, x12, x13, x14], [x20, x21, x22, x23, x24], [x30, x31, x32, x33, x34], [x40, x41, x42, x43, x44]]) [u0, u1, u2, u3, u4] [x10, x11, x12, x13, x14] (nilD2 8) := by kernel_rfl
theorem u39_52 (ok : Nat → List DV → Bool) (c z : Bool) (x00 x01 x02 x03 x04 x10 x11 x12 x13 x14 x20 x21 x22 x23 x24 x30 x31 x32 x33 x34 x40 x41 x42 x43 x44 u0 u1 u2 u3 u4 : Int) : pureE aeC (evS ok (.tup [mtx [[x00, x01, x02, x03, x04], [x10, x11, x12, x13, x14], [x20, x21, x22, x23, x24], [x30, x31, x32, x33, x34], [x40, x41, x42, x43, x44]], iD 0])) 30 39 Try.f39 [matD [[x00, x01, x02, x03, x04], [x10, x11, x12, x13, x14], [x20, x21, x22, x23, x24], [x30, x31, x32, x33, x34], [x40, x41, x42, x43, x44]], iD 2, ls [u0, u1, u2, u3, u4] c z] = R39 ok (matD [[x00, x01, x02, x03, x04], [x10, x11, x12, x13, x14], [x20, x21, x22, x23, x24], [x30, x31, x32, x33, x34], [x40, x41, x42, x43, x44]]) [u0, u1, u2, u3, u4] [x20, x21, x22, x23, x24] (nilD2 8) := by kernel_rfl
theorem u39_53 (ok : Nat → List DV → Bool) (c z : Bool) (x00 x01 x02 x03 x04 x10 x11 x12 x13 x14 x20 x21 x22 x23 x24 x30 x31 x32 x33 x34 x40 x41 x42 x43 x44 u0 u1 u2 u3 u4 : Int) : pureE aeC (evS ok (.tup [mtx [[x00, x01, x02, x03, x04], [x10, x11, x12, x13, x14], [x20, x21, x22, x23, x24], [x30, x31, x32, x33, x34], [x40, x41, x42, x43, x44]], iD 0])) 30 39 Try.f39 [matD [[x00, x01, x02, x03, x04], [x10, x11, x12, x13, x14], [x20, x21, x22, x23, x24], [x30, x31, x32, x33, x34], [x40, x41, x42, x43, x44]], iD 3, ls [u0, u1, u2, u3, u4] c z] = R39 ok (matD [[x00, x01, x02, x03, x04], [x10, x11, x12, x13, x14], [x20, x21, x22, x23, x24], [x30, x31, x32, x33, x34], [x40, x41, x42, x43, x44]]) [u0, u1, u2, u3, u4] [x30, x31, x32, x33, x34] (nilD2 8) := by kernel_rfl
theorem u39_54 (ok : Nat → List DV → Bool) (c z : Bool) (x00 x01 x02 x03 x04 x10 x11 x12 x13 x14 x20 x21 x22 x23 x24 x30 x31 x32 x33 x34 x40 x41 x42 x43 x44 u0 u1 u2 u3 u4 : Int) : pureE aeC (evS ok (.tup [mtx [[x00, x01, x02, x03, x04], [x10, x11, x12, x13, x14], [x20, x21, x22, x23, x24], [x30, x31, x32, x33, x34], [x40, x41, x42, x43, x44]], iD 0])) 30 39 Try.f39 [matD [[x00, x01, x02, x03, x04], [x10, x11, x12, x13, x14], [x20, x21, x22, x23, x24], [x30, x31, x32, x33, x34], [x40, x41, x42, x43, x44]], iD 4, ls [u0, u1, u2, u3, u4] c z] = R39 ok (matD [[x00, x01, x02, x03, x04], [x10, x11, x12, x13, x14], [x20, x21, x22, x23, x24], [x30, x31, x32, x33, x34], [x40, x41, x42, x43, x44]]) [u0, u1, u2, u3, u4] [x40, x41, x42, x43, x44] (nilD2 8) := by kernel_rfl
end Go.Proofs.Ytjfopbpkophoeaa

/- Chapter 06: whether a list splits a state. -/
namespace Go.Proofs.Ytjfopbpkophoeaa
open Go Go.AE
set_option maxRecDepth 100000
def s40 (A : List DV) (k s : Nat) (U : List DV) (n : Nat) (c z p q : Bool) (j : Int) : St := ⟨[(0, .d (DV.sl A k 1 false false)), (1, .d (iD (s : Int))), (2, .d (DV.sl U n 1 c z)), (7, .d (bD p)), (8, .d (bD q)), (9, .d (iD j))], [], []⟩
theorem t40_h (A : List DV) (k n : Nat) (U : List DV) (c z : Bool) (s : Nat) : startS aeC Ev.nil 40 0 Try.f40 none ⟨envOf 0 [.d (.sl A k 1 false false), .d (iD (s : Int)), .d (.sl U n 1 c z)], [], []⟩ (heldD aeC 40 0) =
  bif decide ((k : Int) ≤ (s : Int)) then none else bif !decide ((n : Int) = (k : Int)) then none else some (0, s40 A k s U n c z true true 0) := by kernel_rfl
theorem t40_q (A : List DV) (k n : Nat) (U : List DV) (c z : Bool) (s : Int) : startS aeC Ev.nil 40 0 Try.f40 none ⟨envOf 0 [.d (.sl A k 1 false false), .d (iD s), .d (.sl U n 1 c z)], [], []⟩ (doneE aeC Try.f40 0 fun v h => freezeV h 4 v) =
  bif decide (s < 0) then some (bD false) else bif decide ((k : Int) ≤ s) then some (bD false) else bif !decide ((n : Int) = (k : Int)) then some (bD false) else none := by kernel_rfl
theorem t40_0 (A U : List DV) (k n s j : Nat) (c z p q : Bool) : startS aeC Ev.nil 40 0 Try.f40 (some 0) (s40 A k s U n c z p q j) (roundD aeC 40 0 0) =
  bif decide ((j : Int) < (n : Int)) then
    bif inRange (j : Int) n then
      getI (nth U (Int.toNat (j : Int) * 1)) fun x0 =>
      bif decide (x0 < 0) then
        some (Ex.ret, (⟨[(6, .d (bD false))], [], []⟩ : St))
      else
        bif inRange (j : Int) n then
          getI (nth U (Int.toNat (j : Int) * 1)) fun x1 =>
          bif inRange (s : Int) k then
            getS (nth A (Int.toNat (s : Int) * 1)) fun cs2 n2 sz2 c2 nl2 =>
            bif nl2 || Nat.beq sz2 1 then
              bif inRange (j : Int) n2 then
                getI (nth cs2 (Int.toNat (j : Int) * 1)) fun x3 =>
                bif decide (x3 < x1) then
                  some (Ex.ret, ⟨[(6, .d (bD false))], [], []⟩)
                else
                  bif p then
                    bif inRange (j : Int) n then
                      getI (nth U (Int.toNat (j : Int) * 1)) fun x4 =>
                      bif q then
                        bif inRange (j : Int) n then
                          getI (nth U (Int.toNat (j : Int) * 1)) fun x5 =>
                          bif inRange (s : Int) k then
                            getS (nth A (Int.toNat (s : Int) * 1)) fun cs6 n6 sz6 c6 nl6 =>
                            bif nl6 || Nat.beq sz6 1 then
                              bif inRange (j : Int) n6 then
                                getI (nth cs6 (Int.toNat (j : Int) * 1)) fun x7 =>
                                some (Ex.norm, s40 A k s U n c z (decide (x4 = 0)) (decide (x5 = x7)) (IntKind.wrap IntKind.i64 ((j : Int) + 1)))
                              else none
                            else none
                          else none
                        else none
                      else
                        some (Ex.norm, s40 A k s U n c z (decide (x4 = 0)) false (IntKind.wrap IntKind.i64 ((j : Int) + 1)))
                    else none
                  else
                    bif q then
                      bif inRange (j : Int) n then
                        getI (nth U (Int.toNat (j : Int) * 1)) fun x8 =>
                        bif inRange (s : Int) k then
                          getS (nth A (Int.toNat (s : Int) * 1)) fun cs9 n9 sz9 c9 nl9 =>
                          bif nl9 || Nat.beq sz9 1 then
                            bif inRange (j : Int) n9 then
                              getI (nth cs9 (Int.toNat (j : Int) * 1)) fun x10 =>
                              some (Ex.norm, s40 A k s U n c z false (decide (x8 = x10)) (IntKind.wrap IntKind.i64 ((j : Int) + 1)))
                            else none
                          else none
                        else none
                      else none
                    else
                      some (Ex.norm, s40 A k s U n c z false false (IntKind.wrap IntKind.i64 ((j : Int) + 1)))
              else none
            else none
          else none
        else none
    else none
  else
    some (Ex.exit 0, ⟨[(7, .d (bD p)), (8, .d (bD q))], [], []⟩) := by kernel_rfl
theorem t40_e (p q : Bool) : nextS aeC Ev.nil 40 0 Try.f40 none 0 (.exit 0) ⟨[(7, .d (bD p)), (8, .d (bD q))], [], []⟩ (doneE aeC Try.f40 0 fun v h => freezeV h 4 v) = bif !p then some (bD !q) else some (bD false) := by kernel_rfl
theorem t40_g (p : Bool) : nextS aeC Ev.nil 40 0 Try.f40 none 0 .ret ⟨[(6, .d (bD p))], [], []⟩ (doneE aeC Try.f40 0 fun v h => freezeV h 4 v) = some (bD p) := by kernel_rfl
theorem k40 : OkSeg Try.f40 none [0] := ⟨by kernel_rfl, by kernel_rfl, by decide⟩
theorem k40_0 : OkSeg Try.f40 (some 0) [] := ⟨by kernel_rfl, by kernel_rfl, by decide⟩
section
variable {M : List (List Int)} {s : Nat} {l : List Int} {c z : Bool}
theorem t40_r (hs : s < M.length) (hm : M.length ≤ 100) (hr : (M.getD s []).length = M.length) (hl : l.length = M.length) {j : Nat} (hj : j < l.length) (p q : Bool) :
    startS aeC Ev.nil 40 0 Try.f40 (some 0) (s40 (M.map rowD) M.length s (ints l) l.length c z p q j) (roundD aeC 40 0 0) =
    bif decide (l.getD j 0 < 0) then some (Ex.ret, (⟨[(6, .d (bD false))], [], []⟩ : St)) else bif decide ((M.getD s []).getD j 0 < l.getD j 0) then some (Ex.ret, ⟨[(6, .d (bD false))], [], []⟩) else
      some (Ex.norm, s40 (M.map rowD) M.length s (ints l) l.length c z (p && decide (l.getD j 0 = 0)) (q && decide (l.getD j 0 = (M.getD s []).getD j 0)) ((j + 1 : Nat) : Int)) := by
  have e1 : Int.toNat (s : Int) * 1 = s := by simp
  have e2 : Int.toNat (j : Int) * 1 = j := by simp
  have hw : IntKind.wrap .i64 ((j : Int) + 1) = ((j + 1 : Nat) : Int) := by rw [wrap64_o (by omega) (by omega)]; rfl
  rw [t40_0, e1, e2, hw, nth_mat hs, nth_ints_o hj]
  unfold rowD
  simp only [getS_some, getI_some, Nat.beq_refl, Bool.or_true, cond_true]
  rw [nth_ints_o (l := M.getD s []) (i := j) (by omega)]
  simp only [getI_some]
  rw [cnd_pos (p := (j : Int) < (l.length : Int)) (by omega)]
  simp only [show inRange (j : Int) l.length = true by simp [inRange]; omega, show inRange (s : Int) M.length = true by simp [inRange]; omega, show inRange (j : Int) (M.getD s []).length = true by rw [hr]; simp [inRange]; omega, cond_true]
  cases p <;> cases q <;> rfl
theorem loop40 (hs : s < M.length) (hm : M.length ≤ 100) (hr : (M.getD s []).length = M.length) (hl : l.length = M.length) : ∀ (us xs : List Int) (j : Nat) (p q : Bool), l.drop j = us → (M.getD s []).drop j = xs →
    (inB us xs = false → LoopAt aeC Ev.nil 40 0 Try.f40 0 (s40 (M.map rowD) M.length s (ints l) l.length c z p q j) .ret ⟨[(6, .d (bD false))], [], []⟩) ∧
    (inB us xs = true → LoopAt aeC Ev.nil 40 0 Try.f40 0 (s40 (M.map rowD) M.length s (ints l) l.length c z p q j) (.exit 0) ⟨[(7, .d (bD (p && allZ us))), (8, .d (bD (q && allX us xs)))], [], []⟩)
  | [], xs, j, p, q, h1, h2 => by
    have hj := drop_nil_o h1
    refine ⟨fun e => by simp [inB] at e, fun _ => ?_⟩
    simp only [allZ, allX, Bool.and_true]
    exact .out k40_0 (by simp) ((t40_0 ..).trans (cnd_neg (by omega)))
  | u :: us, [], j, p, q, h1, h2 => by
    have := drop_nil_o h2
    have := (drop_cons_o (d := 0) h1).1
    omega
  | u :: us, x :: xs, j, p, q, h1, h2 => by
    obtain ⟨g1, g2, g3⟩ := drop_cons_o (d := 0) h1
    obtain ⟨f1, f2, f3⟩ := drop_cons_o (d := 0) h2
    have hh := t40_r (c := c) (z := z) hs hm hr hl g1 p q
    rw [g2, f2] at hh
    simp only [inB, allZ, allX]
    by_cases a1 : u < 0
    · rw [decide_eq_false (p := 0 ≤ u) (by omega)]
      exact ⟨fun _ => .out k40_0 (by simp) (hh.trans (cnd_pos a1)), fun e => by simp at e⟩
    · rw [cnd_neg a1] at hh
      by_cases a2 : x < u
      · rw [decide_eq_false (p := u ≤ x) (by omega), Bool.and_false]
        exact ⟨fun _ => .out k40_0 (by simp) (hh.trans (cnd_pos a2)), fun e => by simp at e⟩
      · rw [cnd_neg a2] at hh
        rw [decide_eq_true (p := u ≤ x) (by omega), decide_eq_true (p := 0 ≤ u) (by omega), ← Bool.and_assoc, ← Bool.and_assoc]
        obtain ⟨i1, i2⟩ := loop40 hs hm hr hl us xs (j + 1) (p && decide (u = 0)) (q && decide (u = x)) g3 f3
        exact ⟨fun e => .next k40_0 hh (i1 e), fun e => .next k40_0 hh (i2 e)⟩
end
theorem c40 {k : Nat} {M : List (List Int)} (hM : matB k M) (h1 : 1 ≤ k) (h5 : k ≤ 5) (s : Int) (l : List Int) (c z : Bool) : PureOK Try.prog 40 [matD M, iD s, ls l c z] (bD (splitsB M s l)) := by
  have hk := hM.1
  have cl : ∀ d, startF aeC Ev.nil 40 0 Try.f40 none ⟨envOf 0 [.d (matD M), .d (iD s), .d (ls l c z)], [], []⟩ (doneE aeC Try.f40 0 fun v h => freezeV h 4 v) = some d → PureOK Try.prog 40 [matD M, iD s, ls l c z] d := fun d e => ae_pure EvOK.nil (fn := Try.f40) k40 (by kernel_rfl) (by kernel_rfl) e
  have hq := t40_q (M.map rowD) M.length l.length (ints l) c z s
  unfold splitsB
  by_cases b1 : s < 0
  · rw [decide_eq_false (p := 0 ≤ s) (by omega)]
    exact cl _ (startF_done k40 done_plain (hq.trans (cnd_pos b1)))
  rw [decide_eq_true (p := 0 ≤ s) (by omega)]
  rw [cnd_neg b1] at hq
  by_cases b2 : (M.length : Int) ≤ s
  · rw [decide_eq_false (p := s < (M.length : Int)) (by omega)]
    exact cl _ (startF_done k40 done_plain (hq.trans (cnd_pos b2)))
  rw [decide_eq_true (p := s < (M.length : Int)) (by omega)]
  rw [cnd_neg b2] at hq
  by_cases b3 : l.length = M.length
  · obtain ⟨s', rfl⟩ : ∃ s' : Nat, s = (s' : Int) := ⟨s.toNat, by omega⟩
    have hs : s' < M.length := by omega
    have hr : (M.getD s' []).length = M.length := by
      rw [hk]
      refine (hM.2 _ ?_).1
      rw [List.getD_eq_getElem?_getD, List.getElem?_eq_getElem hs]; exact List.getElem_mem _
    rw [decide_eq_true (p := l.length = M.length) b3]
    simp only [Int.toNat_natCast, Bool.true_and]
    have hh := t40_h (M.map rowD) M.length l.length (ints l) c z s'
    rw [cnd_neg (by omega), decide_eq_true (p := (l.length : Int) = (M.length : Int)) (by omega)] at hh
    obtain ⟨L1, L2⟩ := loop40 (c := c) (z := z) hs (by omega) hr b3 l (M.getD s' []) 0 true true rfl rfl
    refine cl _ ?_
    cases hi : inB l (M.getD s' []) with
    | false => exact (startF_seg k40 hh (L1 hi)).trans (nextF_done k40 done_plain (t40_g false))
    | true =>
      refine (startF_seg k40 hh (L2 hi)).trans (nextF_done k40 done_plain ((t40_e _ _).trans ?_))
      cases allZ l <;> cases allX l (M.getD s' []) <;> rfl
  · rw [decide_eq_false (p := l.length = M.length) b3]
    rw [decide_eq_false (p := (l.length : Int) = (M.length : Int)) (by omega)] at hq
    exact cl _ (startF_done k40 done_plain hq)
end Go.Proofs.Ytjfopbpkophoeaa

/- Chapter 06: contracts of Split, R.Split, part. Written by wip/tools/gen6c.py. -/
namespace Go.Proofs.Ytjfopbpkophoeaa
open Go Go.AE
set_option maxRecDepth 100000
theorem R39_split {ok : Nat → List DV → Bool} {A : DV} {u x : List Int} {good : DV} (h : ok 61 [A] = true) : R39 ok A u x good = some (bif inB u x && (!allZ u && !allX u x) then good else nilD2 1) := by
  unfold R39
  rw [h, cond_true, chI_eq]
  cases inB u x <;> cases allZ u <;> cases allX u x <;> rfl
theorem h61 {k : Nat} {M : List (List Int)} (h : matB k M) (h1 : 1 ≤ k) (h5 : k ≤ 5) : okS (fun _ _ => .tup [mtx M, iD 0]) 61 [matD M] = true := okS_is (c61 h h1 h5)
theorem walkS {q : DV} {f : FuncId} {fn : Func} {ds : List DV} {d : DV} (h : tget aeF f = some fn) (e : pureE aeC (evS (okS fun _ _ => q) q) 30 f fn ds = some d) : PureOK Try.prog f ds d := walk h e
theorem cl39 {q : DV} {a s l d : DV} (e : startS aeC (evS (okS fun _ _ => q) q) 39 0 Try.f39 none ⟨envOf 0 [.d a, .d s, .d l], [], []⟩ (doneE aeC Try.f39 0 fun v h => freezeV h 4 v) = some d) : PureOK Try.prog 39 [a, s, l] d :=
  ae_pure (evW_ok [61] fun _ _ => q) (fn := Try.f39) k39 (by kernel_rfl) (by kernel_rfl) (startF_done k39 done_plain e)
/-- A state that is not one, or a list of another length. -/
theorem split_bad {M : List (List Int)} {s : Int} {l : List Int} (h : ¬ (0 ≤ s ∧ s < M.length ∧ l.length = M.length)) : splitsB M s l = false := by
  unfold splitsB
  by_cases h1 : 0 ≤ s
  · by_cases h2 : s < M.length
    · rw [decide_eq_false (p := l.length = M.length) (by omega)]; simp
    · rw [decide_eq_false (p := s < (M.length : Int)) h2]; simp
  · rw [decide_eq_false (p := 0 ≤ s) h1]; rfl
theorem c39 {k : Nat} {M : List (List Int)} (hM : matB k M) (h1 : 1 ≤ k) (h5 : k ≤ 5) (s : Int) (l : List Int) (c z : Bool) : PureOK Try.prog 39 [matD M, iD s, ls l c z] (splitD M s l) := by
  have g := h61 hM h1 h5
  have hk := hM.1
  by_cases hb : 0 ≤ s ∧ s < M.length ∧ l.length = M.length
  · obtain ⟨b1, b2, b3⟩ := hb
    obtain ⟨s, rfl⟩ : ∃ s' : Nat, s = (s' : Int) := ⟨s.toNat, by omega⟩
    rw [hk] at b3
    have b2 : s < k := by omega
    clear hk b1
    rcases mat_forms hM h1 h5 with ⟨rfl, x00, rfl⟩ | ⟨rfl, x00, x01, x10, x11, rfl⟩ | ⟨rfl, x00, x01, x02, x10, x11, x12, x20, x21, x22, rfl⟩ | ⟨rfl, x00, x01, x02, x03, x10, x11, x12, x13, x20, x21, x22, x23, x30, x31, x32, x33, rfl⟩ | ⟨rfl, x00, x01, x02, x03, x04, x10, x11, x12, x13, x14, x20, x21, x22, x23, x24, x30, x31, x32, x33, x34, x40, x41, x42, x43, x44, rfl⟩
    · obtain ⟨u0, rfl⟩ := len1 b3
      rcases (show s = 0 by omega) with rfl
      · exact walkS (by kernel_rfl : tget aeF 39 = some Try.f39) ((u39_10 (okS fun _ _ => .tup [mtx [[x00]], iD 0]) c z x00 u0).trans ((R39_split g).trans rfl))
    · obtain ⟨u0, u1, rfl⟩ := len2 b3
      rcases (show s = 0 ∨ s = 1 by omega) with rfl | rfl
      · exact walkS (by kernel_rfl : tget aeF 39 = some Try.f39) ((u39_20 (okS fun _ _ => .tup [mtx [[x00, x01], [x10, x11]], iD 0]) c z x00 x01 x10 x11 u0 u1).trans ((R39_split g).trans rfl))
      · exact walkS (by kernel_rfl : tget aeF 39 = some Try.f39) ((u39_21 (okS fun _ _ => .tup [mtx [[x00, x01], [x10, x11]], iD 0]) c z x00 x01 x10 x11 u0 u1).trans ((R39_split g).trans rfl))
    · obtain ⟨u0, u1, u2, rfl⟩ := len3 b3
      rcases (show s = 0 ∨ s = 1 ∨ s = 2 by omega) with rfl | rfl | rfl
      · exact walkS (by kernel_rfl : tget aeF 39 = some Try.f39) ((u39_30 (okS fun _ _ => .tup [mtx [[x00, x01, x02], [x10, x11, x12], [x20, x21, x22]], iD 0]) c z x00 x01 x02 x10 x11 x12 x20 x21 x22 u0 u1 u2).trans ((R39_split g).trans rfl))
      · exact walkS (by kernel_rfl : tget aeF 39 = some Try.f39) ((u39_31 (okS fun _ _ => .tup [mtx [[x00, x01, x02], [x10, x11, x12], [x20, x21, x22]], iD 0]) c z x00 x01 x02 x10 x11 x12 x20 x21 x22 u0 u1 u2).trans ((R39_split g).trans rfl))
      · exact walkS (by kernel_rfl : tget aeF 39 = some Try.f39) ((u39_32 (okS fun _ _ => .tup [mtx [[x00, x01, x02], [x10, x11, x12], [x20, x21, x22]], iD 0]) c z x00 x01 x02 x10 x11 x12 x20 x21 x22 u0 u1 u2).trans ((R39_split g).trans rfl))
    · obtain ⟨u0, u1, u2, u3, rfl⟩ := len4 b3
      rcases (show s = 0 ∨ s = 1 ∨ s = 2 ∨ s = 3 by omega) with rfl | rfl | rfl | rfl
      · exact walkS (by kernel_rfl : tget aeF 39 = some Try.f39) ((u39_40 (okS fun _ _ => .tup [mtx [[x00, x01, x02, x03], [x10, x11, x12, x13], [x20, x21, x22, x23], [x30, x31, x32, x33]], iD 0]) c z x00 x01 x02 x03 x10 x11 x12 x13 x20 x21 x22 x23 x30 x31 x32 x33 u0 u1 u2 u3).trans ((R39_split g).trans rfl))
      · exact walkS (by kernel_rfl : tget aeF 39 = some Try.f39) ((u39_41 (okS fun _ _ => .tup [mtx [[x00, x01, x02, x03], [x10, x11, x12, x13], [x20, x21, x22, x23], [x30, x31, x32, x33]], iD 0]) c z x00 x01 x02 x03 x10 x11 x12 x13 x20 x21 x22 x23 x30 x31 x32 x33 u0 u1 u2 u3).trans ((R39_split g).trans rfl))
      · exact walkS (by kernel_rfl : tget aeF 39 = some Try.f39) ((u39_42 (okS fun _ _ => .tup [mtx [[x00, x01, x02, x03], [x10, x11, x12, x13], [x20, x21, x22, x23], [x30, x31, x32, x33]], iD 0]) c z x00 x01 x02 x03 x10 x11 x12 x13 x20 x21 x22 x23 x30 x31 x32 x33 u0 u1 u2 u3).trans ((R39_split g).trans rfl))
      · exact walkS (by kernel_rfl : tget aeF 39 = some Try.f39) ((u39_43 (okS fun _ _ => .tup [mtx [[x00, x01, x02, x03], [x10, x11, x12, x13], [x20, x21, x22, x23], [x30, x31, x32, x33]], iD 0]) c z x00 x01 x02 x03 x10 x11 x12 x13 x20 x21 x22 x23 x30 x31 x32 x33 u0 u1 u2 u3).trans ((R39_split g).trans rfl))
    · obtain ⟨u0, u1, u2, u3, u4, rfl⟩ := len5 b3
      rcases (show s = 0 ∨ s = 1 ∨ s = 2 ∨ s = 3 ∨ s = 4 by omega) with rfl | rfl | rfl | rfl | rfl
      · exact walkS (by kernel_rfl : tget aeF 39 = some Try.f39) ((u39_50 (okS fun _ _ => .tup [mtx [[x00, x01, x02, x03, x04], [x10, x11, x12, x13, x14], [x20, x21, x22, x23, x24], [x30, x31, x32, x33, x34], [x40, x41, x42, x43, x44]], iD 0]) c z x00 x01 x02 x03 x04 x10 x11 x12 x13 x14 x20 x21 x22 x23 x24 x30 x31 x32 x33 x34 x40 x41 x42 x43 x44 u0 u1 u2 u3 u4).trans ((R39_split g).trans rfl))
      · exact walkS (by kernel_rfl : tget aeF 39 = some Try.f39) ((u39_51 (okS fun _ _ => .tup [mtx [[x00, x01, x02, x03, x04], [x10, x11, x12, x13, x14], [x20, x21, x22, x23, x24], [x30, x31, x32, x33, x34], [x40, x41, x42, x43, x44]], iD 0]) c z x00 x01 x02 x03 x04 x10 x11 x12 x13 x14 x20 x21 x22 x23 x24 x30 x31 x32 x33 x34 x40 x41 x42 x43 x44 u0 u1 u2 u3 u4).trans ((R39_split g).trans rfl))
      · exact walkS (by kernel_rfl : tget aeF 39 = some Try.f39) ((u39_52 (okS fun _ _ => .tup [mtx [[x00, x01, x02, x03, x04], [x10, x11, x12, x13, x14], [x20, x21, x22, x23, x24], [x30, x31, x32, x33, x34], [x40, x41, x42, x43, x44]], iD 0]) c z x00 x01 x02 x03 x04 x10 x11 x12 x13 x14 x20 x21 x22 x23 x24 x30 x31 x32 x33 x34 x40 x41 x42 x43 x44 u0 u1 u2 u3 u4).trans ((R39_split g).trans rfl))
      · exact walkS (by kernel_rfl : tget aeF 39 = some Try.f39) ((u39_53 (okS fun _ _ => .tup [mtx [[x00, x01, x02, x03, x04], [x10, x11, x12, x13, x14], [x20, x21, x22, x23, x24], [x30, x31, x32, x33, x34], [x40, x41, x42, x43, x44]], iD 0]) c z x00 x01 x02 x03 x04 x10 x11 x12 x13 x14 x20 x21 x22 x23 x24 x30 x31 x32 x33 x34 x40 x41 x42 x43 x44 u0 u1 u2 u3 u4).trans ((R39_split g).trans rfl))
      · exact walkS (by kernel_rfl : tget aeF 39 = some Try.f39) ((u39_54 (okS fun _ _ => .tup [mtx [[x00, x01, x02, x03, x04], [x10, x11, x12, x13, x14], [x20, x21, x22, x23, x24], [x30, x31, x32, x33, x34], [x40, x41, x42, x43, x44]], iD 0]) c z x00 x01 x02 x03 x04 x10 x11 x12 x13 x14 x20 x21 x22 x23 x24 x30 x31 x32 x33 x34 x40 x41 x42 x43 x44 u0 u1 u2 u3 u4).trans ((R39_split g).trans rfl))
  · have hf : splitD M s l = nilD2 1 := by unfold splitD; rw [split_bad hb]; rfl
    rw [hf]
    rcases mat_forms hM h1 h5 with ⟨rfl, x00, rfl⟩ | ⟨rfl, x00, x01, x10, x11, rfl⟩ | ⟨rfl, x00, x01, x02, x10, x11, x12, x20, x21, x22, rfl⟩ | ⟨rfl, x00, x01, x02, x03, x10, x11, x12, x13, x20, x21, x22, x23, x30, x31, x32, x33, rfl⟩ | ⟨rfl, x00, x01, x02, x03, x04, x10, x11, x12, x13, x14, x20, x21, x22, x23, x24, x30, x31, x32, x33, x34, x40, x41, x42, x43, x44, rfl⟩
    · refine cl39 ((d39_1 (okS fun _ _ => .tup [mtx [[x00]], iD 0]) _ (ints l) s l.length c z x00).trans ((cond_is' g).trans ?_))
      have hb : ¬ (0 ≤ s ∧ s < 1 ∧ l.length = 1) := fun h => hb ⟨h.1, by simpa using h.2.1, by simpa using h.2.2⟩
      by_cases b1 : s < 0
      · exact cnd_pos b1
      · refine (cnd_neg b1).trans ?_
        by_cases b2 : 1 ≤ s
        · exact cnd_pos b2
        · refine (cnd_neg b2).trans ?_
          rw [decide_eq_false (p := (l.length : Int) = 1) (by omega)]
          rfl
    · refine cl39 ((d39_2 (okS fun _ _ => .tup [mtx [[x00, x01], [x10, x11]], iD 0]) _ (ints l) s l.length c z x00 x01 x10 x11).trans ((cond_is' g).trans ?_))
      have hb : ¬ (0 ≤ s ∧ s < 2 ∧ l.length = 2) := fun h => hb ⟨h.1, by simpa using h.2.1, by simpa using h.2.2⟩
      by_cases b1 : s < 0
      · exact cnd_pos b1
      · refine (cnd_neg b1).trans ?_
        by_cases b2 : 2 ≤ s
        · exact cnd_pos b2
        · refine (cnd_neg b2).trans ?_
          rw [decide_eq_false (p := (l.length : Int) = 2) (by omega)]
          rfl
    · refine cl39 ((d39_3 (okS fun _ _ => .tup [mtx [[x00, x01, x02], [x10, x11, x12], [x20, x21, x22]], iD 0]) _ (ints l) s l.length c z x00 x01 x02 x10 x11 x12 x20 x21 x22).trans ((cond_is' g).trans ?_))
      have hb : ¬ (0 ≤ s ∧ s < 3 ∧ l.length = 3) := fun h => hb ⟨h.1, by simpa using h.2.1, by simpa using h.2.2⟩
      by_cases b1 : s < 0
      · exact cnd_pos b1
      · refine (cnd_neg b1).trans ?_
        by_cases b2 : 3 ≤ s
        · exact cnd_pos b2
        · refine (cnd_neg b2).trans ?_
          rw [decide_eq_false (p := (l.length : Int) = 3) (by omega)]
          rfl
    · refine cl39 ((d39_4 (okS fun _ _ => .tup [mtx [[x00, x01, x02, x03], [x10, x11, x12, x13], [x20, x21, x22, x23], [x30, x31, x32, x33]], iD 0]) _ (ints l) s l.length c z x00 x01 x02 x03 x10 x11 x12 x13 x20 x21 x22 x23 x30 x31 x32 x33).trans ((cond_is' g).trans ?_))
      have hb : ¬ (0 ≤ s ∧ s < 4 ∧ l.length = 4) := fun h => hb ⟨h.1, by simpa using h.2.1, by simpa using h.2.2⟩
      by_cases b1 : s < 0
      · exact cnd_pos b1
      · refine (cnd_neg b1).trans ?_
        by_cases b2 : 4 ≤ s
        · exact cnd_pos b2
        · refine (cnd_neg b2).trans ?_
          rw [decide_eq_false (p := (l.length : Int) = 4) (by omega)]
          rfl
    · refine cl39 ((d39_5 (okS fun _ _ => .tup [mtx [[x00, x01, x02, x03, x04], [x10, x11, x12, x13, x14], [x20, x21, x22, x23, x24], [x30, x31, x32, x33, x34], [x40, x41, x42, x43, x44]], iD 0]) _ (ints l) s l.length c z x00 x01 x02 x03 x04 x10 x11 x12 x13 x14 x20 x21 x22 x23 x24 x30 x31 x32 x33 x34 x40 x41 x42 x43 x44).trans ((cond_is' g).trans ?_))
      have hb : ¬ (0 ≤ s ∧ s < 5 ∧ l.length = 5) := fun h => hb ⟨h.1, by simpa using h.2.1, by simpa using h.2.2⟩
      by_cases b1 : s < 0
      · exact cnd_pos b1
      · refine (cnd_neg b1).trans ?_
        by_cases b2 : 5 ≤ s
        · exact cnd_pos b2
        · refine (cnd_neg b2).trans ?_
          rw [decide_eq_false (p := (l.length : Int) = 5) (by omega)]
          rfl
theorem c42 {k : Nat} {M : List (List Int)} (hM : matB k M) (h1 : 1 ≤ k) (h4 : k ≤ 4) {s : Nat} (hs : s < k) {l : List Int} (hl : l.length = k) (c z : Bool) : PureOK Try.prog 42 [matD M, iD (s : Int), ls l c z] (matD (splitM M s l)) := by
  rcases mat_forms hM h1 (by omega) with ⟨rfl, x00, rfl⟩ | ⟨rfl, x00, x01, x10, x11, rfl⟩ | ⟨rfl, x00, x01, x02, x10, x11, x12, x20, x21, x22, rfl⟩ | ⟨rfl, x00, x01, x02, x03, x10, x11, x12, x13, x20, x21, x22, x23, x30, x31, x32, x33, rfl⟩ | ⟨rfl, x00, x01, x02, x03, x04, x10, x11, x12, x13, x14, x20, x21, x22, x23, x24, x30, x31, x32, x33, x34, x40, x41, x42, x43, x44, rfl⟩
  · obtain ⟨u0, rfl⟩ := len1 hl
    rcases (show s = 0 by omega) with rfl
    · exact walkA (by kernel_rfl : tget aeF 42 = some Try.f42) (u42_10 _ _ c z x00 u0)
  · obtain ⟨u0, u1, rfl⟩ := len2 hl
    rcases (show s = 0 ∨ s = 1 by omega) with rfl | rfl
    · exact walkA (by kernel_rfl : tget aeF 42 = some Try.f42) (u42_20 _ _ c z x00 x01 x10 x11 u0 u1)
    · exact walkA (by kernel_rfl : tget aeF 42 = some Try.f42) (u42_21 _ _ c z x00 x01 x10 x11 u0 u1)
  · obtain ⟨u0, u1, u2, rfl⟩ := len3 hl
    rcases (show s = 0 ∨ s = 1 ∨ s = 2 by omega) with rfl | rfl | rfl
    · exact walkA (by kernel_rfl : tget aeF 42 = some Try.f42) (u42_30 _ _ c z x00 x01 x02 x10 x11 x12 x20 x21 x22 u0 u1 u2)
    · exact walkA (by kernel_rfl : tget aeF 42 = some Try.f42) (u42_31 _ _ c z x00 x01 x02 x10 x11 x12 x20 x21 x22 u0 u1 u2)
    · exact walkA (by kernel_rfl : tget aeF 42 = some Try.f42) (u42_32 _ _ c z x00 x01 x02 x10 x11 x12 x20 x21 x22 u0 u1 u2)
  · obtain ⟨u0, u1, u2, u3, rfl⟩ := len4 hl
    rcases (show s = 0 ∨ s = 1 ∨ s = 2 ∨ s = 3 by omega) with rfl | rfl | rfl | rfl
    · exact walkA (by kernel_rfl : tget aeF 42 = some Try.f42) (u42_40 _ _ c z x00 x01 x02 x03 x10 x11 x12 x13 x20 x21 x22 x23 x30 x31 x32 x33 u0 u1 u2 u3)
    · exact walkA (by kernel_rfl : tget aeF 42 = some Try.f42) (u42_41 _ _ c z x00 x01 x02 x03 x10 x11 x12 x13 x20 x21 x22 x23 x30 x31 x32 x33 u0 u1 u2 u3)
    · exact walkA (by kernel_rfl : tget aeF 42 = some Try.f42) (u42_42 _ _ c z x00 x01 x02 x03 x10 x11 x12 x13 x20 x21 x22 x23 x30 x31 x32 x33 u0 u1 u2 u3)
    · exact walkA (by kernel_rfl : tget aeF 42 = some Try.f42) (u42_43 _ _ c z x00 x01 x02 x03 x10 x11 x12 x13 x20 x21 x22 x23 x30 x31 x32 x33 u0 u1 u2 u3)
  · omega
theorem getD_mem_i {r : List Int} {j : Nat} (h : j < r.length) : r.getD j 0 ∈ r := by
  rw [List.getD_eq_getElem?_getD, List.getElem?_eq_getElem h]; exact List.getElem_mem _
/-! ### A part of a row -/
def pt (r l : List Int) (j : Nat) : Int := bif decide (j < l.length) then IntKind.wrap .i64 (Int.tmod (IntKind.wrap .u64 (l.getD j 0)) (IntKind.wrap .u64 (IntKind.wrap .i64 (r.getD j 0 + 1)))) else r.getD j 0
def ptL (r l : List Int) (j : Nat) : List Int := (List.range j).map (pt r l)
theorem ptL_len (r l : List Int) (j : Nat) : (ptL r l j).length = j := by simp [ptL]
theorem ptL_succ (r l : List Int) (j : Nat) : ptL r l j ++ [pt r l j] = ptL r l (j + 1) := by simp [ptL, List.range_succ]
noncomputable def evP (ok : Nat → List DV → Bool) (B : Bool) : Ev := evT ok fun _ _ => bD B
def s43 (A : List DV) (n s : Nat) (U : List DV) (m : Nat) (c z c2 z2 : Bool) (H : List DV) (i : Int) : St := ⟨[(0, .d (.sl A n 1 c z)), (1, .d (iD (s : Int))), (2, .d (.sl U m 1 c2 z2)), (8, AV.grow 0 1 false), (9, .d (iD i))], [.dc H], []⟩
theorem t43_h (ok : Nat → List DV → Bool) (B : Bool) (A U : List DV) (n m s : Nat) (c z c2 z2 : Bool) : startS aeC (evP ok B) 43 0 Try.f43 none ⟨envOf 0 [.d (.sl A n 1 c z), .d (iD (s : Int)), .d (.sl U m 1 c2 z2)], [], []⟩ (heldD aeC 43 0) = some (0, s43 A n s U m c z c2 z2 [] 0) := by kernel_rfl
theorem t43_0 (ok : Nat → List DV → Bool) (B : Bool) (A U : List DV) (n m i s : Nat) (c z c2 z2 : Bool) (H : List DV) : startS aeC (evP ok B) 43 0 Try.f43 (some 0) (s43 A n s U m c z c2 z2 H i) (roundD aeC 43 0 0) =
  bif decide ((i : Int) < (n : Int)) then
    bif inRange (s : Int) n then
      getS (nth A (Int.toNat (s : Int) * 1)) fun cs0 n0 sz0 c0 nl0 =>
      bif nl0 || Nat.beq sz0 1 then
        bif inRange (i : Int) n0 then
          getI (nth cs0 (Int.toNat (i : Int) * 1)) fun x1 =>
          bif decide ((i : Int) < (m : Int)) then
            bif inRange (i : Int) m then
              getI (nth U (Int.toNat (i : Int) * 1)) fun x2 =>
              bif inRange (s : Int) n then
                getS (nth A (Int.toNat (s : Int) * 1)) fun cs3 n3 sz3 c3 nl3 =>
                bif nl3 || Nat.beq sz3 1 then
                  bif inRange (i : Int) n3 then
                    getI (nth cs3 (Int.toNat (i : Int) * 1)) fun x4 =>
                    bif decide (IntKind.wrap IntKind.u64 (IntKind.wrap IntKind.i64 (x4 + 1)) = 0) then none
                    else
                      bif Nat.ble (lenOf 1 (List.length H) + 1) 1048576 then
                        some (Ex.norm, s43 A n s U m c z c2 z2 (H ++ [iD (IntKind.wrap IntKind.i64 (Int.tmod (IntKind.wrap IntKind.u64 x2) (IntKind.wrap IntKind.u64 (IntKind.wrap IntKind.i64 (x4 + 1)))))]) (IntKind.wrap IntKind.i64 ((i : Int) + 1)))
                      else none
                  else none
                else none
              else none
            else none
          else
            bif Nat.ble (lenOf 1 (List.length H) + 1) 1048576 then
              some (Ex.norm, s43 A n s U m c z c2 z2 (H ++ [iD x1]) (IntKind.wrap IntKind.i64 ((i : Int) + 1)))
            else none
        else none
      else none
    else none
  else
    some (Ex.exit 0, ⟨[(0, .d (DV.sl A n 1 c z)), (1, .d (iD (s : Int))), (8, AV.grow 0 1 false)], [.dc H], []⟩) := by kernel_rfl
theorem t43_e (ok : Nat → List DV → Bool) (B : Bool) (A H : List DV) (n s : Nat) (c z : Bool) : nextS aeC (evP ok B) 43 0 Try.f43 none 0 (.exit 0) ⟨[(0, .d (.sl A n 1 c z)), (1, .d (iD (s : Int))), (8, AV.grow 0 1 false)], [.dc H], []⟩ (doneE aeC Try.f43 0 fun v h => freezeV h 4 v) =
  bif ok 40 [DV.sl A n 1 c z, iD (s : Int), DV.sl H (lenOf 1 (List.length H)) 1 false (true && Nat.beq (List.length H) 0)] then
    some (DV.tup [DV.sl H (lenOf 1 (List.length H)) 1 false (true && Nat.beq (List.length H) 0), bD B])
  else none := by kernel_rfl
theorem k43 : OkSeg Try.f43 none [0] := ⟨by kernel_rfl, by kernel_rfl, by decide⟩
theorem k43_0 : OkSeg Try.f43 (some 0) [] := ⟨by kernel_rfl, by kernel_rfl, by decide⟩
theorem wr_small {x : Int} (h0 : 0 ≤ x) (h9 : x ≤ 9) : decide (IntKind.wrap IntKind.u64 (IntKind.wrap IntKind.i64 (x + 1)) = 0) = false := by
  rw [wrap64_o (by omega) (by omega), wrapU_eq]
  exact decide_eq_false (by omega)
section
variable {M : List (List Int)} {s : Nat} {l : List Int} {c z c2 z2 B : Bool} {ok : Nat → List DV → Bool}
theorem loop43 (hs : s < M.length) (hm : M.length ≤ 100) (hr : (M.getD s []).length = M.length) (hb : smallB (M.getD s []) = true) : ∀ (t j : Nat), j + t = M.length →
    LoopAt aeC (evP ok B) 43 0 Try.f43 0 (s43 (M.map rowD) M.length s (ints l) l.length c z c2 z2 (ints (ptL (M.getD s []) l j)) j) (.exit 0) ⟨[(0, .d (DV.sl (M.map rowD) M.length 1 c z)), (1, .d (iD (s : Int))), (8, AV.grow 0 1 false)], [.dc (ints (ptL (M.getD s []) l M.length))], []⟩
  | 0, j, hj => by
    obtain rfl : j = M.length := by omega
    exact .out k43_0 (by simp) ((t43_0 ..).trans (cnd_neg (by omega)))
  | t + 1, j, hj => by
    have e1 : Int.toNat (s : Int) * 1 = s := by simp
    have e2 : Int.toNat (j : Int) * 1 = j := by simp
    have hw : IntKind.wrap .i64 ((j : Int) + 1) = ((j + 1 : Nat) : Int) := by rw [wrap64_o (by omega) (by omega)]; rfl
    have ha := t43_0 ok B (M.map rowD) (ints l) M.length l.length j s c z c2 z2 (ints (ptL (M.getD s []) l j))
    rw [e1, e2, hw, nth_mat hs] at ha
    unfold rowD at ha
    simp only [getS_some, Nat.beq_refl, Bool.or_true, cond_true] at ha
    rw [nth_ints_o (l := M.getD s []) (i := j) (by omega)] at ha
    simp only [getI_some] at ha
    rw [cnd_pos (p := (j : Int) < (M.length : Int)) (by omega)] at ha
    have hg : (M.getD s []).getD j 0 ∈ M.getD s [] := getD_mem_i (by omega)
    have hx := smallB_at hb _ hg
    simp only [show inRange (s : Int) M.length = true by simp [inRange]; omega, show inRange (j : Int) (M.getD s []).length = true by rw [hr]; simp [inRange]; omega, cond_true] at ha
    have hlen : Nat.ble (lenOf 1 (ints (ptL (M.getD s []) l j)).length + 1) 1048576 = true := by
      rw [len_ints, ptL_len]; exact Nat.ble_eq_true_of_le (by show j + 1 ≤ _; omega)
    rw [hlen] at ha
    refine .next k43_0 (ha.trans ?_) (loop43 hs hm hr hb t (j + 1) (by omega))
    rw [← ptL_succ]
    by_cases hl : j < l.length
    · rw [cnd_pos (p := (j : Int) < (l.length : Int)) (by omega), nth_ints_o hl]
      simp only [getI_some, show inRange (j : Int) l.length = true by simp [inRange]; omega, cond_true, wr_small hx.1 hx.2, cond_false]
      rw [ints_app1, show pt (M.getD s []) l j = IntKind.wrap .i64 (Int.tmod (IntKind.wrap .u64 (l.getD j 0)) (IntKind.wrap .u64 (IntKind.wrap .i64 ((M.getD s []).getD j 0 + 1)))) from cnd_pos hl]
      rfl
    · rw [cnd_neg (p := (j : Int) < (l.length : Int)) (by omega), ints_app1, show pt (M.getD s []) l j = (M.getD s []).getD j 0 from cnd_neg hl]
      rfl
end
theorem c43 {k : Nat} {M : List (List Int)} (hM : matB k M) (h1 : 1 ≤ k) (h5 : k ≤ 5) {s : Nat} (hs : s < k) (l : List Int) (c z : Bool) :
    ∃ p B, p.length = k ∧ PureOK Try.prog 43 [matD M, iD (s : Int), ls l c z] (.tup [.sl (ints p) p.length 1 false false, bD B]) := by
  have hk := hM.1
  have hs' : s < M.length := by omega
  have hrow := hM.2 (M.getD s []) (by rw [List.getD_eq_getElem?_getD, List.getElem?_eq_getElem hs']; exact List.getElem_mem _)
  refine ⟨ptL (M.getD s []) l M.length, splitsB M s (ptL (M.getD s []) l M.length), (ptL_len ..).trans hk, ?_⟩
  have g : okS (fun _ _ => bD (splitsB M s (ptL (M.getD s []) l M.length))) 40 [matD M, iD (s : Int), ls (ptL (M.getD s []) l M.length) false false] = true := okS_is (c40 hM h1 h5 _ _ _ _)
  refine ae_pure (evT_ok (fun _ _ => bD (splitsB M s (ptL (M.getD s []) l M.length)))) (fn := Try.f43) k43 (by kernel_rfl) (by kernel_rfl) ((startF_seg k43 (t43_h _ _ _ _ _ _ _ _ _ _ _) (loop43 hs' (by omega) (by omega) hrow.2 M.length 0 (by omega))).trans (nextF_done k43 done_plain ((t43_e ..).trans ?_)))
  have e : Nat.beq (ints (ptL (M.getD s []) l M.length)).length 0 = false := by
    rw [len_ints, ptL_len]; cases hh : Nat.beq M.length 0 with
    | false => rfl
    | true => have := Nat.eq_of_beq_eq_true hh; omega
  rw [e, len_ints, Go.AE.lenOf_1]
  exact cond_is' g
end Go.Proofs.Ytjfopbpkophoeaa

/- Chapter 06: the law of splits on data. -/
namespace Go.Proofs.Ytjfopbpkophoeaa
open Go Go.AE
set_option maxRecDepth 100000
structure TbS where
  M : List DV
  k : Nat
  Y : List DV → List DV
  yn : List DV → Nat
  ys : List DV → Nat
  yz : List DV → Bool
  E : List DV → Int
  S : List DV → Bool
  Z : List DV → List DV
  zn : List DV → Nat
  L : List DV
  ln : Nat
  B : Bool
  P : List DV → List DV
  pn : List DV → Nat
  pz : List DV → Bool
def iS (T : TbS) (f : Nat) (ds : List DV) : DV := match f with
  | 14 => .sl T.M T.k 1 false false
  | 38 => .sl (T.P ds) (T.pn ds) 1 false (T.pz ds)
  | 39 => .tup [.sl (T.Y ds) (T.yn ds) (T.ys ds) false (T.yz ds), iD (T.E ds)]
  | 40 => bD (T.S ds)
  | 41 => bD true
  | 42 => .sl (T.Z ds) (T.zn ds) 1 false false
  | 43 => .tup [.sl T.L T.ln 1 false false, bD T.B]
  | 21 => bD true
  | _ => .nilp
noncomputable def evL (ok : Nat → List DV → Bool) (T : TbS) : Ev := evT ok (iS T)
def s8 (M : List DV) (k : Nat) (u : DV) (s : Int) (U : List DV) (n : Nat) (z : Bool) (i : Int) : St := ⟨[(1, .d (iD s)), (2, .d u), (7, .d (.sl M k 1 false false)), (8, .d (.sl U n 1 false z)), (9, .d (iD i))], [], []⟩
theorem s8_h (ok : Nat → List DV → Bool) (T : TbS) (a u : DV) (s : Int) : startS aeC (evL ok T) 8 0 Try.f8 none ⟨envOf 0 [.d a, .d (iD s), .d u], [], []⟩ (heldD aeC 8 0) =
  bif ok 14 [a, iD 5] then
    bif ok 38 [u, iD 8] then
      bif TbS.pz T [u, iD 8] || true then
        some (0, s8 (TbS.M T) (TbS.k T) u s (TbS.P T [u, iD 8]) (TbS.pn T [u, iD 8]) (TbS.pz T [u, iD 8]) 0)
      else
        none
    else
      none
  else
    none := by kernel_rfl
theorem s8_0 (ok : Nat → List DV → Bool) (T : TbS) (u : DV) (M U : List DV) (k n : Nat) (z : Bool) (s : Int) (i : Nat) : startS aeC (evL ok T) 8 0 Try.f8 (some 0) (s8 M k u s U n z i) (roundD aeC 8 0 0) =
  bif decide ((↑i : Int) < 2) then
    bif ok 39 [DV.sl M k 1 false false, iD s, DV.sl U n 1 false z] then
      bif TbS.yz T [DV.sl M k 1 false false, iD s, DV.sl U n 1 false z] || Nat.beq (TbS.ys T [DV.sl M k 1 false false, iD s, DV.sl U n 1 false z]) 1 then
        bif ok 40 [DV.sl M k 1 false false, iD s, DV.sl U n 1 false z] then
          bif !TbS.S T [DV.sl M k 1 false false, iD s, DV.sl U n 1 false z] then
            bif !decide (TbS.E T [DV.sl M k 1 false false, iD s, DV.sl U n 1 false z] = 1) then
              some (Ex.ret, (⟨[(6, .d (bD false))], [], []⟩ : St))
            else
              bif !decide ((↑(TbS.yn T [DV.sl M k 1 false false, iD s, DV.sl U n 1 false z]) : Int) = 0) then
                some (Ex.ret, (⟨[(6, .d (bD false))], [], []⟩ : St))
              else
                bif decide (IntKind.wrap IntKind.u64 (↑k : Int) = 0) then
                  none
                else
                  bif ok 43 [DV.sl M k 1 false false, iD (IntKind.wrap IntKind.i64 (Int.tmod (IntKind.wrap IntKind.u64 s) (IntKind.wrap IntKind.u64 (↑k : Int)))), u] then
                    some (Ex.norm, s8 M k u (IntKind.wrap IntKind.i64 (Int.tmod (IntKind.wrap IntKind.u64 s) (IntKind.wrap IntKind.u64 (↑k : Int)))) (TbS.L T) (TbS.ln T) false (IntKind.wrap IntKind.i64 ((↑i : Int) + 1)))
                  else
                    none
          else
            bif decide ((↑k : Int) = 5) then
              bif !decide (TbS.E T [DV.sl M k 1 false false, iD s, DV.sl U n 1 false z] = 8) then
                some (Ex.ret, (⟨[(6, .d (bD false))], [], []⟩ : St))
              else
                bif !decide ((↑(TbS.yn T [DV.sl M k 1 false false, iD s, DV.sl U n 1 false z]) : Int) = 0) then
                  some (Ex.ret, (⟨[(6, .d (bD false))], [], []⟩ : St))
                else
                  bif decide (IntKind.wrap IntKind.u64 (↑k : Int) = 0) then
                    none
                  else
                    bif ok 43 [DV.sl M k 1 false false, iD (IntKind.wrap IntKind.i64 (Int.tmod (IntKind.wrap IntKind.u64 s) (IntKind.wrap IntKind.u64 (↑k : Int)))), u] then
                      some (Ex.norm, s8 M k u (IntKind.wrap IntKind.i64 (Int.tmod (IntKind.wrap IntKind.u64 s) (IntKind.wrap IntKind.u64 (↑k : Int)))) (TbS.L T) (TbS.ln T) false (IntKind.wrap IntKind.i64 ((↑i : Int) + 1)))
                    else
                      none
            else
              bif !decide (TbS.E T [DV.sl M k 1 false false, iD s, DV.sl U n 1 false z] = 0) then
                some (Ex.ret, (⟨[(6, .d (bD false))], [], []⟩ : St))
              else
                bif ok 42 [DV.sl M k 1 false false, iD s, DV.sl U n 1 false z] then
                  bif ok 41 [DV.sl (TbS.Y T [DV.sl M k 1 false false, iD s, DV.sl U n 1 false z]) (TbS.yn T [DV.sl M k 1 false false, iD s, DV.sl U n 1 false z]) 1 false (TbS.yz T [DV.sl M k 1 false false, iD s, DV.sl U n 1 false z]), DV.sl (TbS.Z T [DV.sl M k 1 false false, iD s, DV.sl U n 1 false z]) (TbS.zn T [DV.sl M k 1 false false, iD s, DV.sl U n 1 false z]) 1 false false] then
                    bif decide (IntKind.wrap IntKind.u64 (↑k : Int) = 0) then
                      none
                    else
                      bif ok 43 [DV.sl M k 1 false false, iD (IntKind.wrap IntKind.i64 (Int.tmod (IntKind.wrap IntKind.u64 s) (IntKind.wrap IntKind.u64 (↑k : Int)))), u] then
                        some (Ex.norm, s8 M k u (IntKind.wrap IntKind.i64 (Int.tmod (IntKind.wrap IntKind.u64 s) (IntKind.wrap IntKind.u64 (↑k : Int)))) (TbS.L T) (TbS.ln T) false (IntKind.wrap IntKind.i64 ((↑i : Int) + 1)))
                      else
                        none
                  else
                    none
                else
                  none
        else
          none
      else
        none
    else
      none
  else
    some (Ex.exit 0, (⟨[], [], []⟩ : St)) := by kernel_rfl
theorem s8_x (ok : Nat → List DV → Bool) (T : TbS) : nextS aeC (evL ok T) 8 0 Try.f8 none 0 (.exit 0) ⟨[], [], []⟩ (doneE aeC Try.f8 0 fun v h => freezeV h 4 v) =
  bif ok 21 [] then
    some (bD true)
  else
    none := by kernel_rfl

theorem k8 : OkSeg Try.f8 none [0] := ⟨by kernel_rfl, by kernel_rfl, by decide⟩
theorem k8_0 : OkSeg Try.f8 (some 0) [] := ⟨by kernel_rfl, by kernel_rfl, by decide⟩
def argS : List DV → Int × List Int
  | [_, .int _ s, .sl cs _ _ _ _] => (s, unI cs)
  | _ => (0, [])
def slL : DV → List DV
  | .tup (.sl y _ _ _ _ :: _) => y
  | _ => []
def slN : DV → Nat
  | .tup (.sl _ n _ _ _ :: _) => n
  | _ => 0
def slS : DV → Nat
  | .tup (.sl _ _ s _ _ :: _) => s
  | _ => 0
def slZ : DV → Bool
  | .tup (.sl _ _ _ _ z :: _) => z
  | _ => false
def slE : DV → Int
  | .tup [_, .int _ e] => e
  | _ => 0
/-- What the calls of the law answer. -/
def tbS (M : List (List Int)) (l p : List Int) (B : Bool) : TbS where
  M := M.map rowD
  k := M.length
  Y ds := slL (splitD M (argS ds).1 (argS ds).2)
  yn ds := slN (splitD M (argS ds).1 (argS ds).2)
  ys ds := slS (splitD M (argS ds).1 (argS ds).2)
  yz ds := slZ (splitD M (argS ds).1 (argS ds).2)
  E ds := slE (splitD M (argS ds).1 (argS ds).2)
  S ds := splitsB M (argS ds).1 (argS ds).2
  Z ds := (splitM M (argS ds).1.toNat (argS ds).2).map rowD
  zn ds := (splitM M (argS ds).1.toNat (argS ds).2).length
  L := ints p
  ln := p.length
  B := B
  P _ := ints (l.take 8)
  pn _ := (l.take 8).length
  pz _ := (l.take 8).isEmpty
theorem arg_ls (a : DV) (s : Int) (U : List Int) (c z : Bool) : argS [a, iD s, .sl (ints U) U.length 1 c z] = (s, U) := by
  show (s, unI (ints U)) = _
  rw [unI_ints]
theorem splitD_cases (M : List (List Int)) (s : Int) (U : List Int) : (splitsB M s U = false ∧ splitD M s U = nilD2 1) ∨ (splitsB M s U = true ∧ M.length = 5 ∧ splitD M s U = nilD2 8) ∨
    (splitsB M s U = true ∧ M.length ≠ 5 ∧ splitD M s U = .tup [matD (splitM M s.toNat U), iD 0]) := by
  unfold splitD
  cases splitsB M s U with
  | false => exact .inl ⟨rfl, rfl⟩
  | true =>
    by_cases h : M.length = 5
    · exact .inr (.inl ⟨rfl, h, by rw [cond_true, cnd_pos h]⟩)
    · exact .inr (.inr ⟨rfl, h, by rw [cond_true, cnd_neg h]⟩)
theorem splitD_sl (M : List (List Int)) (s : Int) (U : List Int) : DV.tup [.sl (slL (splitD M s U)) (slN (splitD M s U)) (slS (splitD M s U)) false (slZ (splitD M s U)), iD (slE (splitD M s U))] = splitD M s U := by
  rcases splitD_cases M s U with ⟨_, h⟩ | ⟨_, _, h⟩ | ⟨_, _, h⟩ <;> rw [h] <;> rfl
theorem split_facts {M : List (List Int)} {s : Int} {U : List Int} (h : splitsB M s U = true) : 0 ≤ s ∧ s < M.length ∧ U.length = M.length := by
  by_cases hb : 0 ≤ s ∧ s < M.length ∧ U.length = M.length
  · exact hb
  · rw [split_bad hb] at h; cases h
theorem splitM_len {k : Nat} {M : List (List Int)} (hM : matB k M) (h5 : k ≤ 5) {s : Nat} {U : List Int} (hU : U.length = k) : (splitM M s U).length ≤ 100 ∧ ∀ r ∈ splitM M s U, r.length ≤ 100 := by
  have hk := hM.1
  have hrow : ∀ r ∈ M.set s U, r.length = k := fun r hr => by
    rcases List.mem_or_eq_of_mem_set hr with h | h
    · exact (hM.2 r h).1
    · rw [h]; exact hU
  refine ⟨by simp [splitM]; omega, fun r hr => ?_⟩
  unfold splitM at hr
  rcases List.mem_append.1 hr with h | h
  · obtain ⟨r', h', rfl⟩ := List.mem_map.1 h
    have := hrow r' h'
    simp; omega
  · rw [List.mem_singleton] at h
    rw [h]
    simp only [List.length_append, List.length_zipWith, List.length_cons, List.length_nil]
    omega
theorem modk {k : Nat} (h1 : 1 ≤ k) (h5 : k ≤ 5) (s : Int) : ∃ s' : Nat, s' < k ∧ IntKind.wrap IntKind.i64 (Int.tmod (IntKind.wrap IntKind.u64 s) (IntKind.wrap IntKind.u64 (k : Int))) = s' := by
  rw [wrapU_eq, wrapU_eq, show (k : Int) % 18446744073709551616 = k by omega, Int.tmod_eq_emod_of_nonneg (by omega)]
  have g0 := Int.emod_nonneg (s % 18446744073709551616) (b := (k : Int)) (by omega)
  have g1 := Int.emod_lt_of_pos (s % 18446744073709551616) (b := (k : Int)) (by omega)
  rw [wrap64_o (by omega) (by omega)]
  exact ⟨(s % 18446744073709551616 % k).toNat, by omega, by omega⟩
theorem modk_id {k s : Nat} (h5 : k ≤ 5) (hs : s < k) : IntKind.wrap IntKind.i64 (Int.tmod (IntKind.wrap IntKind.u64 (s : Int)) (IntKind.wrap IntKind.u64 (k : Int))) = s := by
  rw [wrapU_eq, wrapU_eq, show (k : Int) % 18446744073709551616 = k by omega, show (s : Int) % 18446744073709551616 = s by omega, Int.tmod_eq_emod_of_nonneg (by omega), Int.emod_eq_of_lt (by omega) (by omega), wrap64_o (by omega) (by omega)]
section
variable {k : Nat} {M : List (List Int)} {l p : List Int} {B : Bool}
theorem round8 (hM : matB k M) (h1 : 1 ≤ k) (h5 : k ≤ 5) {u : DV} {s : Int} {s' : Nat} (es : IntKind.wrap IntKind.i64 (Int.tmod (IntKind.wrap IntKind.u64 s) (IntKind.wrap IntKind.u64 (k : Int))) = s')
    (g43 : okS (iS (tbS M l p B)) 43 [matD M, iD (s' : Int), u] = true) (U : List Int) (z : Bool) {i i' : Nat} (hi : i < 2) (hi' : i' = i + 1) :
    startS aeC (evL (okS (iS (tbS M l p B))) (tbS M l p B)) 8 0 Try.f8 (some 0) (s8 (M.map rowD) M.length u s (ints U) U.length z i) (roundD aeC 8 0 0) = some (Ex.norm, s8 (M.map rowD) M.length u s' (ints p) p.length false i') := by
  have hk := hM.1
  have hw : IntKind.wrap .i64 ((i : Int) + 1) = (i' : Int) := by rw [wrap64_o (by omega) (by omega)]; omega
  have ha := arg_ls (matD M) s U false z
  have h := s8_0 (okS (iS (tbS M l p B))) (tbS M l p B) u (M.map rowD) (ints U) M.length U.length z s i
  rw [hk] at h
  rw [es, hw, cnd_pos (p := (i : Int) < 2) (by omega)] at h
  have k0 : decide (IntKind.wrap IntKind.u64 (k : Int) = 0) = false := decide_eq_false (by rw [wrapU_eq]; omega)
  have hm : DV.sl (M.map rowD) k 1 false false = matD M := by unfold matD; rw [hk]
  rw [hm, k0] at h
  have eY : (tbS M l p B).Y [matD M, iD s, .sl (ints U) U.length 1 false z] = slL (splitD M s U) := by show slL (splitD M (argS _).1 (argS _).2) = _; rw [ha]
  have eyn : (tbS M l p B).yn [matD M, iD s, .sl (ints U) U.length 1 false z] = slN (splitD M s U) := by show slN (splitD M (argS _).1 (argS _).2) = _; rw [ha]
  have eys : (tbS M l p B).ys [matD M, iD s, .sl (ints U) U.length 1 false z] = slS (splitD M s U) := by show slS (splitD M (argS _).1 (argS _).2) = _; rw [ha]
  have eyz : (tbS M l p B).yz [matD M, iD s, .sl (ints U) U.length 1 false z] = slZ (splitD M s U) := by show slZ (splitD M (argS _).1 (argS _).2) = _; rw [ha]
  have eE : (tbS M l p B).E [matD M, iD s, .sl (ints U) U.length 1 false z] = slE (splitD M s U) := by show slE (splitD M (argS _).1 (argS _).2) = _; rw [ha]
  have eS : (tbS M l p B).S [matD M, iD s, .sl (ints U) U.length 1 false z] = splitsB M s U := by show splitsB M (argS _).1 (argS _).2 = _; rw [ha]
  have eZ : (tbS M l p B).Z [matD M, iD s, .sl (ints U) U.length 1 false z] = (splitM M s.toNat U).map rowD := by show (splitM M (argS _).1.toNat (argS _).2).map rowD = _; rw [ha]
  have ezn : (tbS M l p B).zn [matD M, iD s, .sl (ints U) U.length 1 false z] = (splitM M s.toNat U).length := by show (splitM M (argS _).1.toNat (argS _).2).length = _; rw [ha]
  have g39 : okS (iS (tbS M l p B)) 39 [matD M, iD s, .sl (ints U) U.length 1 false z] = true := okS_is (by
    show PureOK Try.prog 39 _ (.tup [.sl ((tbS M l p B).Y [matD M, iD s, .sl (ints U) U.length 1 false z]) ((tbS M l p B).yn [matD M, iD s, .sl (ints U) U.length 1 false z]) ((tbS M l p B).ys [matD M, iD s, .sl (ints U) U.length 1 false z]) false ((tbS M l p B).yz [matD M, iD s, .sl (ints U) U.length 1 false z]), iD ((tbS M l p B).E [matD M, iD s, .sl (ints U) U.length 1 false z])])
    rw [eY, eyn, eys, eyz, eE, splitD_sl]
    exact c39 hM h1 h5 s U false z)
  have g40 : okS (iS (tbS M l p B)) 40 [matD M, iD s, .sl (ints U) U.length 1 false z] = true := okS_is (by
    show PureOK Try.prog 40 _ (bD ((tbS M l p B).S [matD M, iD s, .sl (ints U) U.length 1 false z]))
    rw [eS]
    exact c40 hM h1 h5 s U false z)
  have fin : ∀ {R : Type} {x y : R}, (bif okS (iS (tbS M l p B)) 43 [matD M, iD (s' : Int), u] then x else y) = x := fun {R x y} => cond_is' g43
  rw [eyz, eys, eE, eyn, eS, g39, g40, fin, eY, eZ, ezn] at h
  rw [hk]
  rcases splitD_cases M s U with ⟨hb, hd⟩ | ⟨hb, h5', hd⟩ | ⟨hb, h5', hd⟩
  · rw [hd, hb] at h
    exact h
  · rw [hd, hb, decide_eq_true (p := (k : Int) = 5) (by omega)] at h
    exact h
  · obtain ⟨f1, f2, f3⟩ := split_facts hb
    obtain ⟨s0, rfl⟩ : ∃ s0 : Nat, s = (s0 : Int) := ⟨s.toNat, by omega⟩
    simp only [Int.toNat_natCast] at h hd eZ ezn
    have hl := splitM_len hM h5 (s := s0) (U := U) (by omega)
    have g42 : okS (iS (tbS M l p B)) 42 [matD M, iD (s0 : Int), .sl (ints U) U.length 1 false z] = true := okS_is (by
      show PureOK Try.prog 42 _ (.sl ((tbS M l p B).Z [matD M, iD (s0 : Int), .sl (ints U) U.length 1 false z]) ((tbS M l p B).zn [matD M, iD (s0 : Int), .sl (ints U) U.length 1 false z]) 1 false false)
      rw [eZ, ezn]
      exact c42 hM h1 (by omega) (by omega) (by omega) false z)
    have g41 : okS (iS (tbS M l p B)) 41 [.sl ((splitM M s0 U).map rowD) (splitM M s0 U).length 1 false false, .sl ((splitM M s0 U).map rowD) (splitM M s0 U).length 1 false false] = true := okS_is (c41 hl.1 hl.2)
    rw [hd, hb, decide_eq_false (p := (k : Int) = 5) (by omega), g42] at h
    rw [show slL (.tup [matD (splitM M s0 U), iD 0]) = (splitM M s0 U).map rowD from rfl, show slN (.tup [matD (splitM M s0 U), iD 0]) = (splitM M s0 U).length from rfl, show slZ (.tup [matD (splitM M s0 U), iD 0]) = false from rfl, g41] at h
    exact h
end
/-- The law on data: a split, or the error, of any state by any list, and of one by a part of its row. -/
theorem splits_pure (Y : List (List Int × Bool)) (c z : Bool) (s : Int) (l : List Int) (c2 z2 : Bool) : PureOK Try.prog 8 [.sl (rowsD Y) Y.length 1 c z, iD s, ls l c2 z2] (bD true) := by
  obtain ⟨k, M, h1, h5, hM, h14⟩ := c14 Y c z 5 (by omega) (by omega)
  obtain ⟨s', hs', es⟩ := modk h1 h5 s
  obtain ⟨p, B, hp, h43⟩ := c43 hM h1 h5 hs' l c2 z2
  have g14 : okS (iS (tbS M l p B)) 14 [.sl (rowsD Y) Y.length 1 c z, iD 5] = true := okS_is h14
  have g38 : okS (iS (tbS M l p B)) 38 [ls l c2 z2, iD 8] = true := okS_is (c38 l c2 z2 8 (by omega))
  have g43 : okS (iS (tbS M l p B)) 43 [matD M, iD (s' : Int), ls l c2 z2] = true := okS_is h43
  have g21 : okS (iS (tbS M l p B)) 21 [] = true := okS_is awake_ok
  have r0 := round8 (l := l) (p := p) (B := B) hM h1 h5 es g43 (l.take 8) (l.take 8).isEmpty (i := 0) (i' := 1) (by omega) rfl
  have r1 := round8 (l := l) (p := p) (B := B) hM h1 h5 (modk_id h5 hs') g43 p false (i := 1) (i' := 2) (by omega) rfl
  have r2 := s8_0 (okS (iS (tbS M l p B))) (tbS M l p B) (ls l c2 z2) (M.map rowD) (ints p) M.length p.length false s' 2
  have hh := (s8_h (okS (iS (tbS M l p B))) (tbS M l p B) (.sl (rowsD Y) Y.length 1 c z) (ls l c2 z2) s).trans ((cond_is' g14).trans ((cond_is' g38).trans (cond_is' (by simp))))
  refine ae_pure (evT_ok (iS (tbS M l p B))) (fn := Try.f8) k8 (by kernel_rfl) (by kernel_rfl) ?_
  refine (startF_seg k8 hh (.next k8_0 r0 (.next k8_0 r1 (.out k8_0 (by simp) r2)))).trans ?_
  exact nextF_done k8 done_plain ((s8_x ..).trans (cond_is' g21))
end Go.Proofs.Ytjfopbpkophoeaa
