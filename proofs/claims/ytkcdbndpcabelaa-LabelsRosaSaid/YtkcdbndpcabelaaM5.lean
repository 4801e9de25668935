/- Part 5 of what the law stands on: the abstract machine over the model, and what the functions answer. No condition. -/
import Derived.Test.YtkcdbndpcabelaaProg
import Derived.Test.YtkcdbndpcabelaaChecked
import Derived.KernelRfl
import Derived.Test.YtkcdbndpcabelaaM4
set_option linter.unusedSimpArgs false
set_option linter.unusedVariables false

/- The tables of the seat for the abstract machine, written by a program of this session (wip/tools/aectx.py). -/
namespace Go.Proofs.Ytkcdbndpcabelaa
open Go Go.AE

noncomputable def aeT : Tab TI :=
  (.node 60 (⟨.other, 1, 0, []⟩) (.node 33 (⟨.other, 1, 8, [.nilf]⟩) (.node 17 (⟨(.ptr 120), 1, 8, [.nilp]⟩) (.node 6 (⟨(.int .u8), 1, 1, [.int .u8 0]⟩) (.node 3 (⟨(.int .i64), 1, 8, [.int .i64 0]⟩) (.node 1 (⟨.other, 1, 8, [.nilf]⟩) (.node 0 (⟨.other, 1, 0, []⟩) .leaf .leaf) (.node 2 (⟨(.int .i64), 1, 8, [.int .i64 0]⟩) .leaf .leaf)) (.node 5 (⟨(.int .u8), 1, 1, [.int .u8 0]⟩) (.node 4 (⟨.bool, 1, 1, [.bool false]⟩) .leaf .leaf) .leaf)) (.node 12 (⟨(.int .u64), 1, 8, [.int .u64 0]⟩) (.node 10 (⟨.str, 1, 16, [.str ⟨#[]⟩]⟩) (.node 9 (⟨.str, 1, 16, [.str ⟨#[]⟩]⟩) .leaf .leaf) (.node 11 (⟨.str, 1, 16, [.str ⟨#[]⟩]⟩) .leaf .leaf)) (.node 16 (⟨(.ptr 110), 1, 8, [.nilp]⟩) (.node 15 (⟨(.ptr 107), 1, 8, [.nilp]⟩) .leaf .leaf) .leaf))) (.node 26 (⟨.other, 1, 8, [.nilf]⟩) (.node 23 (⟨(.slice 3), 1, 24, [.sl [] 0 0 false true]⟩) (.node 21 (⟨(.int .i32), 1, 4, [.int .i32 0]⟩) (.node 20 (⟨.other, 1, 16, [.nili]⟩) .leaf .leaf) (.node 22 (⟨(.slice 57), 1, 24, [.sl [] 0 0 false true]⟩) .leaf .leaf)) (.node 25 (⟨.other, 1, 8, [.nilf]⟩) (.node 24 (⟨.other, 1, 0, []⟩) .leaf .leaf) .leaf)) (.node 30 (⟨.other, 1, 8, [.nilf]⟩) (.node 28 (⟨(.int .i64), 1, 8, [.int .i64 0]⟩) (.node 27 (⟨(.slice 22), 1, 24, [.sl [] 0 0 false true]⟩) .leaf .leaf) (.node 29 (⟨.other, 1, 0, []⟩) .leaf .leaf)) (.node 32 (⟨.other, 1, 8, [.nilf]⟩) (.node 31 (⟨.other, 1, 8, [.nilf]⟩) .leaf .leaf) .leaf)))) (.node 47 (⟨(.int .u64), 1, 8, [.int .u64 0]⟩) (.node 40 (⟨.other, 1, 8, [.nilf]⟩) (.node 37 (⟨.other, 1, 8, [.nilf]⟩) (.node 35 (⟨.other, 1, 8, [.nilf]⟩) (.node 34 (⟨.other, 1, 8, [.nilf]⟩) .leaf .leaf) (.node 36 (⟨.other, 1, 0, []⟩) .leaf .leaf)) (.node 39 (⟨.other, 1, 8, [.nilf]⟩) (.node 38 (⟨.other, 1, 8, [.nilf]⟩) .leaf .leaf) .leaf)) (.node 44 (⟨.other, 1, 0, []⟩) (.node 42 (⟨.other, 1, 0, []⟩) (.node 41 (⟨.other, 1, 8, [.nilf]⟩) .leaf .leaf) (.node 43 (⟨.other, 1, 8, [.nilf]⟩) .leaf .leaf)) (.node 46 (⟨.other, 1, 8, [.nilf]⟩) (.node 45 (⟨.other, 1, 8, [.nilf]⟩) .leaf .leaf) .leaf))) (.node 54 (⟨.other, 1, 8, [.nilf]⟩) (.node 51 (⟨.other, 1, 8, [.nilf]⟩) (.node 49 (⟨.other, 1, 8, [.nilf]⟩) (.node 48 (⟨.other, 1, 8, [.nilf]⟩) .leaf .leaf) (.node 50 (⟨.other, 1, 0, []⟩) .leaf .leaf)) (.node 53 (⟨.other, 1, 8, [.nilf]⟩) (.node 52 (⟨.other, 1, 8, [.nilf]⟩) .leaf .leaf) .leaf)) (.node 57 (⟨(.array 2 3), 2, 16, [.int .i64 0, .int .i64 0]⟩) (.node 56 (⟨.other, 1, 8, [.nilf]⟩) (.node 55 (⟨.other, 1, 8, [.nilf]⟩) .leaf .leaf) .leaf) (.node 59 (⟨.other, 1, 8, [.nilf]⟩) (.node 58 (⟨.other, 1, 8, [.nilf]⟩) .leaf .leaf) .leaf))))) (.node 88 (⟨(.map 90 3), 1, 8, [.nilm]⟩) (.node 74 (⟨.other, 1, 0, []⟩) (.node 67 (⟨.other, 1, 8, [.nilf]⟩) (.node 64 (⟨.other, 1, 8, [.nilf]⟩) (.node 62 (⟨.other, 1, 8, [.nilf]⟩) (.node 61 (⟨.other, 1, 8, [.nilf]⟩) .leaf .leaf) (.node 63 (⟨.other, 1, 0, []⟩) .leaf .leaf)) (.node 66 (⟨.other, 1, 8, [.nilf]⟩) (.node 65 (⟨.other, 1, 8, [.nilf]⟩) .leaf .leaf) .leaf)) (.node 71 (⟨.other, 1, 0, []⟩) (.node 69 (⟨.other, 1, 8, [.nilf]⟩) (.node 68 (⟨.other, 1, 8, [.nilf]⟩) .leaf .leaf) (.node 70 (⟨(.ptr 98), 1, 8, [.nilp]⟩) .leaf .leaf)) (.node 73 (⟨(.slice 4), 1, 24, [.sl [] 0 0 false true]⟩) (.node 72 (⟨.other, 1, 8, [.nilf]⟩) .leaf .leaf) .leaf))) (.node 81 (⟨(.ptr 79), 1, 8, [.nilp]⟩) (.node 78 (⟨(.struct [(0, 23), (1, 77)]), 27, 56, [.sl [] 0 0 false true, .bool false, .bool false, .bool false, .bool false, .bool false, .bool false, .bool false, .bool false, .bool false, .bool false, .bool false, .bool false, .bool false, .bool false, .bool false, .bool false, .bool false, .bool false, .bool false, .bool false, .bool false, .bool false, .bool false, .bool false, .bool false, .bool false]⟩) (.node 76 (⟨(.array 26 4), 26, 26, (List.replicate 26 (.bool false))⟩) (.node 75 (⟨.other, 1, 8, [.nilf]⟩) .leaf .leaf) (.node 77 (⟨(.array 26 4), 26, 26, (List.replicate 26 (.bool false))⟩) .leaf .leaf)) (.node 80 (⟨.other, 1, 8, [.nilf]⟩) (.node 79 (⟨(.struct [(0, 23), (1, 77)]), 27, 56, [.sl [] 0 0 false true, .bool false, .bool false, .bool false, .bool false, .bool false, .bool false, .bool false, .bool false, .bool false, .bool false, .bool false, .bool false, .bool false, .bool false, .bool false, .bool false, .bool false, .bool false, .bool false, .bool false, .bool false, .bool false, .bool false, .bool false, .bool false, .bool false]⟩) .leaf .leaf) .leaf)) (.node 85 (⟨.other, 1, 8, [.nilf]⟩) (.node 83 (⟨.other, 1, 8, [.nilf]⟩) (.node 82 (⟨.other, 1, 8, [.nilf]⟩) .leaf .leaf) (.node 84 (⟨.other, 1, 8, [.nilf]⟩) .leaf .leaf)) (.node 87 (⟨.other, 1, 8, [.nilf]⟩) (.node 86 (⟨.other, 1, 8, [.nilf]⟩) .leaf .leaf) .leaf)))) (.node 102 (⟨.other, 1, 8, [.nilf]⟩) (.node 95 (⟨.other, 1, 8, [.nilf]⟩) (.node 92 (⟨.other, 1, 0, []⟩) (.node 90 (⟨(.struct [(0, 3), (1, 3)]), 2, 16, [.int .i64 0, .int .i64 0]⟩) (.node 89 (⟨(.struct [(0, 3), (1, 3)]), 2, 16, [.int .i64 0, .int .i64 0]⟩) .leaf .leaf) (.node 91 (⟨.other, 1, 8, [.nilf]⟩) .leaf .leaf)) (.node 94 (⟨(.slice 23), 1, 24, [.sl [] 0 0 false true]⟩) (.node 93 (⟨.other, 1, 8, [.nilf]⟩) .leaf .leaf) .leaf)) (.node 99 (⟨.other, 1, 8, [.nilf]⟩) (.node 97 (⟨(.struct [(0, 3), (1, 22)]), 2, 32, [.int .i64 0, .sl [] 0 0 false true]⟩) (.node 96 (⟨.other, 1, 8, [.nilf]⟩) .leaf .leaf) (.node 98 (⟨(.struct [(0, 3), (1, 22)]), 2, 32, [.int .i64 0, .sl [] 0 0 false true]⟩) .leaf .leaf)) (.node 101 (⟨.other, 1, 8, [.nilf]⟩) (.node 100 (⟨.other, 1, 8, [.nilf]⟩) .leaf .leaf) .leaf))) (.node 114 (⟨(.int .u8), 1, 1, [.int .u8 0]⟩) (.node 111 (⟨.other, 1, 8, [.nilf]⟩) (.node 104 (⟨(.array 11 4), 11, 11, (List.replicate 11 (.bool false))⟩) (.node 103 (⟨.other, 1, 8, [.nilf]⟩) .leaf .leaf) (.node 105 (⟨.other, 1, 8, [.nilf]⟩) .leaf .leaf)) (.node 113 (⟨(.int .u8), 1, 1, [.int .u8 0]⟩) (.node 112 (⟨(.int .u32), 1, 4, [.int .u32 0]⟩) .leaf .leaf) .leaf)) (.node 117 (⟨(.int .i32), 1, 4, [.int .i32 0]⟩) (.node 116 (⟨(.ptr 5), 1, 8, [.nilp]⟩) (.node 115 (⟨.other, 1, 8, [.nilf]⟩) .leaf .leaf) .leaf) (.node 121 (⟨.other, 1, 8, []⟩) (.node 118 (⟨(.int .i32), 1, 4, [.int .i32 0]⟩) .leaf .leaf) .leaf))))))

noncomputable def aeRets : Tab (List Nat) :=
  (.node 44 [3, 22] (.node 22 [4] (.node 11 [4] (.node 5 [4] (.node 2 [] (.node 1 [] (.node 0 [] .leaf .leaf) .leaf) (.node 4 [4] (.node 3 [4] .leaf .leaf) .leaf)) (.node 8 [4] (.node 7 [4] (.node 6 [4] .leaf .leaf) .leaf) (.node 10 [4] (.node 9 [4] .leaf .leaf) .leaf))) (.node 17 [4] (.node 14 [23] (.node 13 [3, 22] (.node 12 [4] .leaf .leaf) .leaf) (.node 16 [4] (.node 15 [27, 28] .leaf .leaf) .leaf)) (.node 20 [4] (.node 19 [23] (.node 18 [27] .leaf .leaf) .leaf) (.node 21 [23, 28] .leaf .leaf)))) (.node 33 [4, 28] (.node 28 [23, 4, 28] (.node 25 [4, 28] (.node 24 [23] (.node 23 [4] .leaf .leaf) .leaf) (.node 27 [23] (.node 26 [23, 4, 28] .leaf .leaf) .leaf)) (.node 31 [3] (.node 30 [23, 4, 28] (.node 29 [3, 28] .leaf .leaf) .leaf) (.node 32 [22] .leaf .leaf))) (.node 39 [3, 4] (.node 36 [4, 28] (.node 35 [4] (.node 34 [4] .leaf .leaf) .leaf) (.node 38 [23, 28] (.node 37 [3, 4, 28] .leaf .leaf) .leaf)) (.node 42 [4, 28] (.node 41 [4] (.node 40 [23] .leaf .leaf) .leaf) (.node 43 [23, 28] .leaf .leaf))))) (.node 67 [3] (.node 56 [4] (.node 50 [23] (.node 47 [70, 28] (.node 46 [28] (.node 45 [3] .leaf .leaf) .leaf) (.node 49 [23, 3] (.node 48 [4] .leaf .leaf) .leaf)) (.node 53 [23] (.node 52 [84] (.node 51 [81] .leaf .leaf) .leaf) (.node 55 [23] (.node 54 [3] .leaf .leaf) .leaf))) (.node 62 [4] (.node 59 [3] (.node 58 [94] (.node 57 [23, 4] .leaf .leaf) .leaf) (.node 61 [4] (.node 60 [3] .leaf .leaf) .leaf)) (.node 65 [3] (.node 64 [4] (.node 63 [] .leaf .leaf) .leaf) (.node 66 [4] .leaf .leaf)))) (.node 78 [] (.node 73 [9] (.node 70 [3] (.node 69 [3] (.node 68 [4] .leaf .leaf) .leaf) (.node 72 [4] (.node 71 [3] .leaf .leaf) .leaf)) (.node 76 [] (.node 75 [9] (.node 74 [] .leaf .leaf) .leaf) (.node 77 [9] .leaf .leaf))) (.node 84 [] (.node 81 [9] (.node 80 [] (.node 79 [9] .leaf .leaf) .leaf) (.node 83 [9] (.node 82 [] .leaf .leaf) .leaf)) (.node 87 [] (.node 86 [9] (.node 85 [3] .leaf .leaf) .leaf) (.node 88 [9] .leaf .leaf))))))

noncomputable def aeIsoT : Tab Bool :=
  (.node 33 true (.node 17 true (.node 9 true (.node 5 true (.node 3 true (.node 2 true .leaf .leaf) (.node 4 true .leaf .leaf)) (.node 7 true (.node 6 true .leaf .leaf) (.node 8 true .leaf .leaf))) (.node 13 true (.node 11 true (.node 10 true .leaf .leaf) (.node 12 true .leaf .leaf)) (.node 15 true (.node 14 true .leaf .leaf) (.node 16 true .leaf .leaf)))) (.node 25 true (.node 21 true (.node 19 true (.node 18 true .leaf .leaf) (.node 20 true .leaf .leaf)) (.node 23 true (.node 22 true .leaf .leaf) (.node 24 true .leaf .leaf))) (.node 29 true (.node 27 true (.node 26 true .leaf .leaf) (.node 28 true .leaf .leaf)) (.node 31 true (.node 30 true .leaf .leaf) (.node 32 true .leaf .leaf))))) (.node 49 true (.node 41 true (.node 37 true (.node 35 true (.node 34 true .leaf .leaf) (.node 36 true .leaf .leaf)) (.node 39 true (.node 38 true .leaf .leaf) (.node 40 true .leaf .leaf))) (.node 45 true (.node 43 true (.node 42 true .leaf .leaf) (.node 44 true .leaf .leaf)) (.node 47 true (.node 46 true .leaf .leaf) (.node 48 true .leaf .leaf)))) (.node 58 true (.node 54 true (.node 51 true (.node 50 true .leaf .leaf) (.node 52 true .leaf .leaf)) (.node 56 true (.node 55 true .leaf .leaf) (.node 57 true .leaf .leaf))) (.node 69 true (.node 60 true (.node 59 true .leaf .leaf) (.node 61 true .leaf .leaf)) (.node 71 true (.node 70 true .leaf .leaf) (.node 72 true .leaf .leaf))))))

noncomputable def aeIso (f : FuncId) : Bool := (tget aeIsoT f).isSome

noncomputable def aePolT : Tab (Tab Pol) :=
  (.node 41 (.node 2 ⟨[0, 1, 5, 7, 8], [], []⟩ (.node 0 ⟨[0, 1, 5, 6], [], []⟩ .leaf .leaf) (.node 4 ⟨[0, 1, 7, 9], [], []⟩ .leaf .leaf)) (.node 21 (.node 0 ⟨[0, 12], [], []⟩ .leaf .leaf) (.node 11 (.node 0 ⟨[0, 1, 5, 6, 7], [], []⟩ .leaf .leaf) (.node 7 (.node 4 ⟨[0, 2, 7, 9, 12, 13], [(7, 1)], []⟩ (.node 2 ⟨[0, 2, 7, 9], [(7, 1)], []⟩ (.node 0 ⟨[0, 1, 2, 7, 8], [(7, 1)], []⟩ .leaf .leaf) .leaf) (.node 6 ⟨[0, 2, 7, 9, 12, 13, 14, 15], [(14, 2)], []⟩ .leaf .leaf)) (.node 5 (.node 2 ⟨[1, 5, 6, 14, 15], [], []⟩ (.node 0 ⟨[1, 5, 6], [], [5]⟩ .leaf .leaf) .leaf) (.node 3 (.node 0 ⟨[7, 8, 9, 10], [], []⟩ .leaf .leaf) .leaf .leaf) .leaf) (.node 9 (.node 0 ⟨[2, 7, 8, 9, 10], [], []⟩ .leaf .leaf) (.node 8 (.node 6 ⟨[1, 5, 6, 8, 11, 17, 18, 20, 21, 22], [], []⟩ (.node 2 ⟨[1, 5, 6, 8, 11, 15, 17, 18, 19], [], []⟩ (.node 0 ⟨[1, 5, 6, 8, 11, 15, 16], [], []⟩ .leaf .leaf) (.node 4 ⟨[1, 5, 6, 8, 11, 17, 18, 20], [], []⟩ .leaf .leaf)) (.node 10 ⟨[23, 24, 25, 26], [(24, 2)], []⟩ (.node 8 ⟨[23, 24, 25], [(24, 2)], []⟩ .leaf .leaf) .leaf)) .leaf .leaf) .leaf)) (.node 16 (.node 2 ⟨[0, 1, 2, 7, 8, 9], [], []⟩ (.node 0 ⟨[0, 1, 2, 7, 8], [], []⟩ .leaf .leaf) (.node 4 ⟨[1, 2, 7, 10, 11], [], []⟩ .leaf .leaf)) (.node 15 (.node 2 ⟨[1, 2, 10, 11, 12, 13, 35, 36, 39, 40, 41], [(13, 2)], []⟩ (.node 0 ⟨[1, 2, 10, 11, 35, 36], [(11, 1)], []⟩ .leaf .leaf) .leaf) (.node 13 (.node 2 ⟨[0, 1, 2, 8, 9, 10], [(8, 2)], []⟩ (.node 0 ⟨[0, 1, 2, 8, 9], [(8, 2)], []⟩ .leaf .leaf) (.node 4 ⟨[0, 1, 2, 8, 9, 10, 11], [(8, 2)], []⟩ .leaf .leaf)) .leaf .leaf) .leaf) (.node 18 (.node 2 ⟨[0, 1, 5, 6, 7, 8, 9], [(8, 2)], []⟩ (.node 0 ⟨[0, 1, 5, 6, 7], [(6, 1)], []⟩ .leaf .leaf) .leaf) (.node 17 (.node 2 ⟨[0, 1, 5, 6], [], []⟩ (.node 0 ⟨[0, 1, 5], [], []⟩ .leaf .leaf) .leaf) .leaf .leaf) .leaf))) (.node 34 (.node 2 ⟨[0, 1, 5, 6], [], []⟩ (.node 0 ⟨[0, 1, 5], [], []⟩ .leaf .leaf) .leaf) (.node 24 (.node 0 ⟨[0, 3], [], []⟩ .leaf .leaf) (.node 23 (.node 0 ⟨[0, 1, 5], [], []⟩ .leaf .leaf) (.node 22 (.node 2 ⟨[0, 3, 4, 5], [], []⟩ (.node 0 ⟨[0, 3, 4], [], []⟩ .leaf .leaf) .leaf) .leaf .leaf) .leaf) (.node 33 (.node 2 ⟨[0, 6, 25, 26, 27, 34, 35, 36], [], []⟩ (.node 0 ⟨[0, 6, 25, 26, 27], [], []⟩ .leaf .leaf) (.node 4 ⟨[0, 6, 69], [], []⟩ .leaf .leaf)) (.node 27 (.node 0 ⟨[0, 1, 2, 7], [], []⟩ .leaf .leaf) .leaf .leaf) .leaf)) (.node 39 (.node 2 ⟨[0, 1, 6, 7, 8], [], []⟩ (.node 0 ⟨[0, 1, 6], [], []⟩ .leaf .leaf) .leaf) (.node 38 (.node 0 ⟨[1, 10, 26, 27, 28], [(10, 1)], []⟩ .leaf .leaf) (.node 35 (.node 4 ⟨[0, 5, 8], [], []⟩ (.node 2 ⟨[0, 1, 5, 6, 7], [], []⟩ (.node 0 ⟨[0, 1, 5, 6], [], []⟩ .leaf .leaf) .leaf) (.node 6 ⟨[0, 5, 8, 9], [], []⟩ .leaf .leaf)) .leaf .leaf) .leaf) (.node 40 (.node 0 ⟨[0, 1, 5, 6], [(5, 1)], []⟩ .leaf .leaf) .leaf .leaf)))) (.node 56 (.node 2 ⟨[0, 1, 5, 6, 7], [], []⟩ (.node 0 ⟨[0, 1, 5, 6], [], []⟩ .leaf .leaf) (.node 4 ⟨[0, 5, 10], [], []⟩ .leaf .leaf)) (.node 49 (.node 0 ⟨[0, 1, 2, 3, 4, 14, 15, 16], [], []⟩ .leaf .leaf) (.node 45 (.node 0 ⟨[0, 1, 5], [], []⟩ .leaf .leaf) (.node 44 (.node 2 ⟨[0, 1, 6, 7, 8], [(6, 2)], []⟩ (.node 0 ⟨[0, 1, 6, 7], [(6, 2)], []⟩ .leaf .leaf) .leaf) (.node 43 (.node 4 ⟨[8, 10, 11, 13, 14, 15, 16, 18, 62, 63, 64, 72, 73, 74], [(18, 1)], []⟩ (.node 2 ⟨[8, 10, 11, 13, 14, 15, 62, 63, 64], [], []⟩ (.node 0 ⟨[1, 8, 10, 11, 44, 45], [], []⟩ .leaf .leaf) .leaf) (.node 6 ⟨[8, 10, 11, 13, 14, 15, 62, 63, 64, 117, 118, 119], [], []⟩ .leaf .leaf)) .leaf .leaf) .leaf) (.node 48 (.node 2 ⟨[1, 7, 49, 50, 51], [], []⟩ (.node 0 ⟨[0, 1, 5, 6, 7, 25, 26, 27], [], []⟩ .leaf .leaf) .leaf) (.node 47 (.node 0 ⟨[0, 1, 22, 23, 24], [], []⟩ .leaf .leaf) .leaf .leaf) .leaf)) (.node 54 (.node 0 ⟨[1, 5, 6, 14, 15, 16], [], []⟩ .leaf .leaf) (.node 51 (.node 0 ⟨[0, 3, 4, 25, 26, 27], [], []⟩ .leaf .leaf) (.node 50 (.node 0 ⟨[1, 2, 3, 7], [], []⟩ .leaf .leaf) .leaf .leaf) .leaf) (.node 55 (.node 0 ⟨[1, 2, 7, 8], [], []⟩ .leaf .leaf) .leaf .leaf))) (.node 64 (.node 2 ⟨[0, 1, 3, 5, 6, 7, 10, 11, 26, 27, 37, 38, 39], [], []⟩ (.node 0 ⟨[0, 1, 3, 5, 6, 7, 26, 27], [], []⟩ .leaf .leaf) .leaf) (.node 59 (.node 0 ⟨[0, 1, 9, 10, 11], [], []⟩ .leaf .leaf) (.node 58 (.node 0 ⟨[3, 14, 15, 16], [(3, 1)], []⟩ .leaf .leaf) (.node 57 (.node 2 ⟨[4, 7, 8, 9, 10, 53, 54, 60, 61, 62], [], []⟩ (.node 0 ⟨[4, 7, 8, 53, 54], [], []⟩ .leaf .leaf) (.node 4 ⟨[4, 7, 13, 14], [(13, 1)], []⟩ .leaf .leaf)) .leaf .leaf) .leaf) (.node 62 (.node 0 ⟨[0, 1, 5, 16, 17, 18], [], []⟩ .leaf .leaf) (.node 61 (.node 2 ⟨[1, 2, 13], [], []⟩ (.node 0 ⟨[0, 1, 2, 7, 8], [], []⟩ .leaf .leaf) .leaf) .leaf .leaf) .leaf)) (.node 70 (.node 0 ⟨[0, 3, 4], [], []⟩ .leaf .leaf) (.node 67 (.node 0 ⟨[0, 1, 7, 8], [], []⟩ .leaf .leaf) (.node 65 (.node 0 ⟨[1, 3, 6, 15, 16, 17], [], []⟩ .leaf .leaf) .leaf .leaf) .leaf) (.node 71 (.node 0 ⟨[0, 3, 4], [], []⟩ .leaf .leaf) .leaf .leaf)))))

noncomputable def aePol (f b : Nat) : Option Pol := match tget aePolT f with
  | some t => tget t b
  | none => none

noncomputable def aeXPolT : Tab (Tab Pol) :=
  (.node 41 (.node 2 ⟨[0, 1, 5], [], []⟩ (.node 0 ⟨[0, 1, 5], [], []⟩ .leaf .leaf) (.node 4 ⟨[0, 1], [], []⟩ .leaf .leaf)) (.node 21 (.node 0 ⟨[], [], []⟩ .leaf .leaf) (.node 11 (.node 0 ⟨[], [], []⟩ .leaf .leaf) (.node 7 (.node 4 ⟨[0, 2, 7, 9], [], []⟩ (.node 2 ⟨[], [], []⟩ (.node 0 ⟨[0, 2, 7], [], []⟩ .leaf .leaf) .leaf) (.node 6 ⟨[0, 2, 7, 9, 12, 13, 14], [], []⟩ .leaf .leaf)) (.node 5 (.node 2 ⟨[1, 6, 14], [], []⟩ (.node 0 ⟨[], [], []⟩ .leaf .leaf) .leaf) (.node 3 (.node 0 ⟨[], [], []⟩ .leaf .leaf) .leaf .leaf) .leaf) (.node 9 (.node 0 ⟨[], [], []⟩ .leaf .leaf) (.node 8 (.node 6 ⟨[1, 5, 6, 8, 11, 17, 18, 20, 21], [], []⟩ (.node 2 ⟨[1, 5, 6, 8, 11, 17, 18], [], []⟩ (.node 0 ⟨[1, 5, 6, 8, 11, 15], [], []⟩ .leaf .leaf) (.node 4 ⟨[1, 6, 8, 11, 17, 18], [], []⟩ .leaf .leaf)) (.node 10 ⟨[23, 24, 25], [], []⟩ (.node 8 ⟨[23, 24], [], [24]⟩ .leaf .leaf) .leaf)) .leaf .leaf) .leaf)) (.node 16 (.node 2 ⟨[0, 1, 2, 7, 8], [], []⟩ (.node 0 ⟨[1, 2, 7], [], []⟩ .leaf .leaf) (.node 4 ⟨[], [], []⟩ .leaf .leaf)) (.node 15 (.node 2 ⟨[1, 2, 10, 11, 13, 35, 36], [], [13]⟩ (.node 0 ⟨[11], [], []⟩ .leaf .leaf) .leaf) (.node 13 (.node 2 ⟨[0, 1, 2, 8, 9], [], []⟩ (.node 0 ⟨[0, 8], [], []⟩ .leaf .leaf) (.node 4 ⟨[0, 1, 2, 8, 9, 10], [], []⟩ .leaf .leaf)) .leaf .leaf) .leaf) (.node 18 (.node 2 ⟨[0, 1, 5, 6, 7, 8], [], [8]⟩ (.node 0 ⟨[6], [], []⟩ .leaf .leaf) .leaf) (.node 17 (.node 2 ⟨[0, 1, 5], [], []⟩ (.node 0 ⟨[], [], []⟩ .leaf .leaf) .leaf) .leaf .leaf) .leaf))) (.node 34 (.node 2 ⟨[0, 1, 5], [], []⟩ (.node 0 ⟨[], [], []⟩ .leaf .leaf) .leaf) (.node 24 (.node 0 ⟨[], [], []⟩ .leaf .leaf) (.node 23 (.node 0 ⟨[], [], []⟩ .leaf .leaf) (.node 22 (.node 2 ⟨[0, 3, 4], [], []⟩ (.node 0 ⟨[], [], []⟩ .leaf .leaf) .leaf) .leaf .leaf) .leaf) (.node 33 (.node 2 ⟨[0, 6, 25, 26, 27], [], []⟩ (.node 0 ⟨[0, 6], [], []⟩ .leaf .leaf) (.node 4 ⟨[0, 6], [], []⟩ .leaf .leaf)) (.node 27 (.node 0 ⟨[], [], []⟩ .leaf .leaf) .leaf .leaf) .leaf)) (.node 39 (.node 2 ⟨[0, 1, 6, 7], [], []⟩ (.node 0 ⟨[], [], []⟩ .leaf .leaf) .leaf) (.node 38 (.node 0 ⟨[10], [], []⟩ .leaf .leaf) (.node 35 (.node 4 ⟨[], [], []⟩ (.node 2 ⟨[0, 1, 5, 6], [], []⟩ (.node 0 ⟨[0, 5], [], []⟩ .leaf .leaf) .leaf) (.node 6 ⟨[0, 5, 8], [], []⟩ .leaf .leaf)) .leaf .leaf) .leaf) (.node 40 (.node 0 ⟨[5], [], []⟩ .leaf .leaf) .leaf .leaf)))) (.node 56 (.node 2 ⟨[0, 1, 5, 6], [], []⟩ (.node 0 ⟨[0, 5], [], []⟩ .leaf .leaf) (.node 4 ⟨[], [], []⟩ .leaf .leaf)) (.node 49 (.node 1 ⟨[0, 1, 2, 3, 4, 14, 15, 16], [], []⟩ (.node 0 ⟨[14, 15], [], []⟩ .leaf .leaf) .leaf) (.node 45 (.node 0 ⟨[1], [], []⟩ .leaf .leaf) (.node 44 (.node 2 ⟨[0, 1, 6, 7], [], []⟩ (.node 0 ⟨[0, 6], [], []⟩ .leaf .leaf) .leaf) (.node 43 (.node 4 ⟨[8, 10, 11, 13, 14, 15, 16, 18, 62, 63, 64], [], []⟩ (.node 2 ⟨[11], [], []⟩ (.node 0 ⟨[1, 8, 10, 11], [], []⟩ .leaf .leaf) .leaf) (.node 6 ⟨[8, 10, 11, 13, 14, 15, 62, 63, 64], [], []⟩ .leaf .leaf)) .leaf .leaf) .leaf) (.node 48 (.node 2 ⟨[], [], []⟩ (.node 0 ⟨[0, 1, 7], [], []⟩ .leaf .leaf) .leaf) (.node 47 (.node 0 ⟨[0, 1], [], []⟩ .leaf .leaf) .leaf .leaf) .leaf)) (.node 54 (.node 0 ⟨[5, 6], [], []⟩ .leaf .leaf) (.node 51 (.node 0 ⟨[3], [], []⟩ .leaf .leaf) (.node 50 (.node 0 ⟨[], [], []⟩ .leaf .leaf) .leaf .leaf) .leaf) (.node 55 (.node 0 ⟨[7], [], []⟩ .leaf .leaf) .leaf .leaf))) (.node 64 (.node 2 ⟨[0, 1, 3, 5, 6, 7, 10, 11, 26, 27], [], []⟩ (.node 1 ⟨[0, 1, 3, 5, 6, 7, 26, 27], [], []⟩ (.node 0 ⟨[], [], []⟩ .leaf .leaf) .leaf) (.node 3 ⟨[0, 1, 3, 5, 6, 7, 10, 11, 26, 27, 37, 38, 39], [], []⟩ .leaf .leaf)) (.node 59 (.node 0 ⟨[0, 1], [], []⟩ .leaf .leaf) (.node 58 (.node 0 ⟨[3], [], []⟩ .leaf .leaf) (.node 57 (.node 2 ⟨[4, 7, 8, 9, 10, 53, 54], [], []⟩ (.node 0 ⟨[4, 7, 8], [], []⟩ .leaf .leaf) .leaf) .leaf .leaf) .leaf) (.node 62 (.node 0 ⟨[0, 1, 5], [], []⟩ .leaf .leaf) (.node 61 (.node 1 ⟨[0, 1, 2, 7, 8], [], []⟩ (.node 0 ⟨[1, 2], [], []⟩ .leaf .leaf) (.node 2 ⟨[], [], []⟩ .leaf .leaf)) .leaf .leaf) .leaf)) (.node 70 (.node 0 ⟨[3], [], []⟩ .leaf .leaf) (.node 67 (.node 0 ⟨[], [], []⟩ .leaf .leaf) (.node 65 (.node 0 ⟨[6], [], []⟩ .leaf .leaf) .leaf .leaf) .leaf) (.node 71 (.node 0 ⟨[3], [], []⟩ .leaf .leaf) .leaf .leaf)))))

noncomputable def aeXPol (f b : Nat) : Option Pol := match tget aeXPolT f with
  | some t => tget t b
  | none => none

noncomputable def aePlanT : Tab (Tab Plan) :=
  (.node 45 (.node 6 ⟨[⟨0, false, [], false, none⟩, ⟨1, false, [], false, none⟩, ⟨2, false, [], false, none⟩, ⟨3, false, [], false, none⟩, ⟨4, false, [], false, none⟩, ⟨5, false, [], false, none⟩, ⟨6, false, [], false, none⟩, ⟨7, false, [], false, none⟩, ⟨8, false, [], false, none⟩, ⟨9, false, [], false, none⟩, ⟨10, false, [], false, none⟩, ⟨11, false, [], false, none⟩], [[], [], [0, 1], [0, 1, 2], [0, 1, 2, 3], [], [], [5, 6], [5, 6, 7], [5, 6, 7, 8], [0, 1, 2, 3, 4], [0, 1, 2, 3, 4, 5, 6, 7, 8, 9, 10]]⟩ .leaf .leaf) (.node 18 (.node 10 ⟨[⟨0, false, [], false, none⟩, ⟨1, false, [], false, none⟩, ⟨2, false, [], false, none⟩, ⟨3, false, [], false, none⟩, ⟨4, false, [], false, none⟩, ⟨5, false, [], false, none⟩, ⟨6, false, [], false, none⟩, ⟨7, false, [], false, none⟩, ⟨8, false, [], false, none⟩, ⟨9, false, [], false, none⟩, ⟨10, false, [], false, none⟩, ⟨11, false, [], false, none⟩, ⟨12, false, [], false, none⟩, ⟨13, false, [], false, none⟩, ⟨14, false, [], false, none⟩, ⟨15, false, [], false, none⟩, ⟨16, false, [], false, none⟩, ⟨17, false, [], false, none⟩, ⟨18, false, [], false, none⟩, ⟨19, false, [], false, none⟩, ⟨20, false, [], false, none⟩, ⟨21, false, [], false, none⟩, ⟨22, false, [], false, none⟩, ⟨23, false, [], false, none⟩, ⟨24, false, [], false, none⟩, ⟨25, false, [], false, none⟩], [[], [], [], [1, 2], [1, 2, 3], [1, 2, 3, 4], [0, 1, 2, 3, 4, 5], [0, 1, 2, 3, 4, 5, 6], [], [0, 1, 2, 3, 4, 5, 6, 7, 8], [], [0, 1, 2, 3, 4, 5, 6, 7, 8, 9, 10], [], [], [], [13, 14], [13, 14, 15], [13, 14, 15, 16], [12, 13, 14, 15, 16, 17], [12, 13, 14, 15, 16, 17, 18], [], [12, 13, 14, 15, 16, 17, 18, 19, 20], [], [12, 13, 14, 15, 16, 17, 18, 19, 20, 21, 22], [0, 1, 2, 3, 4, 5, 6, 7, 8, 9, 10, 11], [0, 1, 2, 3, 4, 5, 6, 7, 8, 9, 10, 11, 12, 13, 14, 15, 16, 17, 18, 19, 20, 21, 22, 23, 24]]⟩ .leaf .leaf) (.node 15 (.node 15 ⟨[⟨0, false, [], false, none⟩, ⟨1, false, [], false, none⟩, ⟨2, false, [], false, none⟩, ⟨3, false, [], false, none⟩, ⟨4, false, [], false, none⟩, ⟨5, false, [], false, none⟩, ⟨6, false, [], false, none⟩, ⟨7, false, [], false, none⟩, ⟨8, false, [], false, none⟩, ⟨9, false, [], false, none⟩, ⟨10, false, [], false, none⟩, ⟨11, false, [], false, none⟩, ⟨12, false, [], false, none⟩, ⟨13, false, [], false, none⟩, ⟨14, false, [], false, none⟩, ⟨15, false, [], false, none⟩, ⟨16, false, [], false, none⟩, ⟨17, false, [], false, none⟩, ⟨18, false, [], false, none⟩, ⟨19, false, [], false, none⟩], [[], [], [1], [0, 1, 2], [0, 1, 2, 3], [], [0, 1, 2, 3, 4, 5], [], [0, 1, 2, 3, 4, 5, 6, 7], [], [], [10], [9, 10, 11], [9, 10, 11, 12], [], [9, 10, 11, 12, 13, 14], [], [9, 10, 11, 12, 13, 14, 15, 16], [0, 1, 2, 3, 4, 5, 6, 7, 8], [0, 1, 2, 3, 4, 5, 6, 7, 8, 9, 10, 11, 12, 13, 14, 15, 16, 17, 18]]⟩ .leaf .leaf) (.node 8 (.node 25 ⟨[⟨0, false, [], false, none⟩, ⟨1, false, [], false, none⟩, ⟨2, false, [], false, none⟩, ⟨3, false, [], false, none⟩, ⟨4, false, [], false, none⟩, ⟨5, false, [], false, none⟩, ⟨6, false, [], false, none⟩, ⟨7, false, [], false, none⟩, ⟨8, false, [], false, none⟩, ⟨9, false, [], false, none⟩, ⟨10, false, [], false, none⟩, ⟨11, false, [], false, none⟩, ⟨12, false, [], false, none⟩, ⟨13, false, [], false, none⟩, ⟨14, false, [], false, none⟩, ⟨15, false, [], false, none⟩, ⟨16, false, [], false, none⟩, ⟨17, false, [], false, none⟩, ⟨18, false, [], false, none⟩, ⟨19, false, [], false, none⟩, ⟨20, false, [], false, none⟩], [[], [0], [0, 1], [0, 1], [0, 1], [0, 1, 3, 4], [0, 1, 3, 4, 5], [0, 1, 3, 4, 5, 6], [0, 1, 2, 3, 4, 5, 6, 7], [0, 1, 2, 3, 4, 5, 6, 7, 8], [0, 1], [0, 1], [0, 1], [0, 1, 11, 12], [0, 1, 11, 12, 13], [0, 1, 11, 12, 13, 14], [0, 1, 10, 11, 12, 13, 14, 15], [0, 1, 10, 11, 12, 13, 14, 15, 16], [0, 1, 2, 3, 4, 5, 6, 7, 8, 9, 10, 11, 12, 13, 14, 15, 16, 17], [0, 1, 2, 3, 4, 5, 6, 7, 8, 9, 10, 11, 12, 13, 14, 15, 16, 17, 18], [0, 1, 2, 3, 4, 5, 6, 7, 8, 9, 10, 11, 12, 13, 14, 15, 16, 17, 18, 19]]⟩ .leaf .leaf) (.node 5 (.node 22 ⟨[⟨0, false, [], false, none⟩, ⟨1, false, [], false, none⟩, ⟨2, false, [], false, none⟩, ⟨3, false, [], false, none⟩, ⟨4, false, [], false, none⟩, ⟨5, false, [], false, none⟩, ⟨6, false, [], false, none⟩, ⟨7, false, [], false, none⟩, ⟨8, false, [], false, none⟩, ⟨9, false, [], false, none⟩, ⟨10, false, [], false, none⟩, ⟨11, false, [], false, none⟩, ⟨12, false, [], false, none⟩, ⟨13, false, [], false, none⟩, ⟨14, false, [], false, none⟩, ⟨15, false, [], false, none⟩, ⟨16, false, [], false, none⟩, ⟨17, true, [], false, none⟩, ⟨18, false, [], false, none⟩], [[], [], [], [2], [2, 3], [1, 2, 3, 4], [1, 2, 3, 4, 5], [1, 2, 3, 4, 5, 6], [], [], [8, 9], [8, 9, 10], [8, 9, 10, 11], [8, 9, 10, 11, 12], [8, 9, 10, 11, 12, 13], [1, 2, 3, 4, 5, 6, 7, 8, 9, 10, 11, 12, 13, 14], [1, 2, 3, 4, 5, 6, 7, 8, 9, 10, 11, 12, 13, 14, 15], [0, 1, 2, 3, 4, 5, 6, 7, 8, 9, 10, 11, 12, 13, 14, 15, 16], [0, 1, 2, 3, 4, 5, 6, 7, 8, 9, 10, 11, 12, 13, 14, 15, 16, 17]]⟩ .leaf .leaf) .leaf .leaf) (.node 13 (.node 12 ⟨[⟨0, false, [], false, none⟩, ⟨1, false, [], false, none⟩, ⟨2, false, [], false, none⟩, ⟨3, false, [], false, none⟩, ⟨4, false, [], false, none⟩, ⟨5, false, [], false, none⟩, ⟨6, false, [], false, none⟩, ⟨7, false, [], false, none⟩, ⟨8, false, [], false, none⟩, ⟨9, false, [], false, none⟩, ⟨10, false, [], false, none⟩, ⟨11, false, [], false, none⟩, ⟨12, false, [], false, none⟩, ⟨13, false, [], false, none⟩, ⟨14, false, [], false, none⟩, ⟨15, false, [], false, none⟩, ⟨16, false, [], false, none⟩, ⟨17, false, [], false, none⟩, ⟨18, false, [], false, none⟩, ⟨19, false, [], false, none⟩, ⟨20, false, [], false, none⟩, ⟨21, false, [], false, none⟩], [[], [], [0, 1], [0, 1, 2], [0, 1, 2, 3], [0, 1, 2, 3, 4], [], [6], [0, 1, 2, 3, 4, 5, 6, 7], [0, 1, 2, 3, 4, 5, 6, 7, 8], [], [], [10, 11], [10, 11, 12], [10, 11, 12, 13], [10, 11, 12, 13, 14], [], [16], [10, 11, 12, 13, 14, 15, 16, 17], [10, 11, 12, 13, 14, 15, 16, 17, 18], [0, 1, 2, 3, 4, 5, 6, 7, 8, 9], [0, 1, 2, 3, 4, 5, 6, 7, 8, 9, 10, 11, 12, 13, 14, 15, 16, 17, 18, 19, 20]]⟩ .leaf .leaf) .leaf .leaf)) (.node 17 (.node 11 ⟨[⟨0, false, [], false, none⟩, ⟨1, false, [], false, none⟩, ⟨2, false, [], false, none⟩, ⟨3, false, [], false, none⟩, ⟨4, false, [], false, none⟩, ⟨5, false, [], false, none⟩, ⟨6, false, [], false, none⟩, ⟨7, false, [], false, none⟩, ⟨8, false, [], false, none⟩, ⟨9, false, [], false, none⟩, ⟨10, false, [], false, none⟩, ⟨11, false, [], false, none⟩, ⟨12, false, [], false, none⟩, ⟨13, false, [], false, none⟩, ⟨14, false, [], false, none⟩], [[], [], [0, 1], [0, 1, 2], [], [0, 1, 2, 3, 4], [0, 1, 2, 3, 4, 5], [], [], [7, 8], [7, 8, 9], [], [7, 8, 9, 10, 11], [7, 8, 9, 10, 11, 12], [0, 1, 2, 3, 4, 5, 6, 7, 8, 9, 10, 11, 12, 13]]⟩ (.node 6 ⟨[⟨0, false, [], false, none⟩, ⟨1, false, [], false, none⟩, ⟨2, false, [], false, none⟩, ⟨3, false, [], false, none⟩, ⟨4, false, [], false, none⟩, ⟨5, false, [], false, none⟩, ⟨6, false, [], false, none⟩, ⟨7, false, [], false, none⟩, ⟨8, false, [], false, none⟩, ⟨9, false, [], false, none⟩, ⟨10, false, [], false, none⟩], [[], [], [0, 1], [0, 1, 2], [0, 1, 2, 3], [], [], [5, 6], [5, 6, 7], [5, 6, 7, 8], [0, 1, 2, 3, 4, 5, 6, 7, 8, 9]]⟩ .leaf .leaf) .leaf) (.node 16 (.node 18 ⟨[⟨0, false, [], false, none⟩, ⟨1, false, [], false, none⟩, ⟨2, false, [], false, none⟩, ⟨3, false, [], false, none⟩, ⟨4, false, [], false, none⟩, ⟨5, false, [], false, none⟩, ⟨6, false, [], false, none⟩, ⟨7, false, [], false, none⟩, ⟨8, false, [], false, none⟩, ⟨9, false, [], false, none⟩, ⟨10, false, [], false, none⟩, ⟨11, false, [], false, none⟩, ⟨12, false, [], false, none⟩, ⟨13, false, [], false, none⟩, ⟨14, false, [], false, none⟩, ⟨15, false, [], false, none⟩, ⟨16, false, [], false, none⟩, ⟨17, false, [], false, none⟩, ⟨18, false, [], false, none⟩, ⟨19, false, [], false, none⟩, ⟨20, false, [], false, none⟩, ⟨21, false, [], false, none⟩, ⟨22, false, [], false, none⟩, ⟨23, false, [], false, none⟩, ⟨24, false, [], false, none⟩, ⟨25, false, [], false, none⟩, ⟨26, false, [], false, none⟩, ⟨27, false, [], false, none⟩, ⟨28, false, [], false, none⟩, ⟨29, false, [], false, none⟩, ⟨30, false, [], false, none⟩, ⟨31, false, [], false, none⟩, ⟨32, false, [], false, none⟩, ⟨33, false, [], false, none⟩, ⟨34, false, [], false, none⟩, ⟨35, false, [], false, none⟩], [[], [], [], [1, 2], [1, 2, 3], [1, 2, 3, 4], [0, 1, 2, 3, 4, 5], [0, 1, 2, 3, 4, 5, 6], [], [], [], [9, 10], [9, 10, 11], [9, 10, 11, 12], [8, 9, 10, 11, 12, 13], [8, 9, 10, 11, 12, 13, 14], [0, 1, 2, 3, 4, 5, 6, 7, 8, 9, 10, 11, 12, 13, 14, 15], [], [], [], [18, 19], [18, 19, 20], [18, 19, 20, 21], [17, 18, 19, 20, 21, 22], [17, 18, 19, 20, 21, 22, 23], [], [], [], [26, 27], [26, 27, 28], [26, 27, 28, 29], [25, 26, 27, 28, 29, 30], [25, 26, 27, 28, 29, 30, 31], [17, 18, 19, 20, 21, 22, 23, 24, 25, 26, 27, 28, 29, 30, 31, 32], [0, 1, 2, 3, 4, 5, 6, 7, 8, 9, 10, 11, 12, 13, 14, 15, 16, 17, 18, 19, 20, 21, 22, 23, 24, 25, 26, 27, 28, 29, 30, 31, 32, 33], [0, 1, 2, 3, 4, 5, 6, 7, 8, 9, 10, 11, 12, 13, 14, 15, 16, 17, 18, 19, 20, 21, 22, 23, 24, 25, 26, 27, 28, 29, 30, 31, 32, 33, 34]]⟩ (.node 12 ⟨[⟨0, false, [], false, none⟩, ⟨1, false, [], false, none⟩, ⟨2, false, [], false, none⟩, ⟨3, false, [], false, none⟩, ⟨4, false, [], false, none⟩, ⟨5, false, [], false, none⟩, ⟨6, false, [], false, none⟩, ⟨7, false, [], false, none⟩, ⟨8, false, [], false, none⟩], [[], [], [0, 1], [0, 1, 2], [], [], [4, 5], [4, 5, 6], [0, 1, 2, 3, 4, 5, 6, 7]]⟩ .leaf .leaf) .leaf) .leaf .leaf) .leaf)) (.node 33 (.node 14 ⟨[⟨0, false, [], false, none⟩, ⟨1, false, [], false, none⟩, ⟨2, false, [], false, none⟩, ⟨3, false, [], false, none⟩, ⟨4, false, [], false, none⟩, ⟨5, false, [], false, none⟩, ⟨8, true, [], false, none⟩, ⟨6, false, [8], false, none⟩, ⟨7, false, [8], false, none⟩, ⟨9, false, [], false, none⟩, ⟨10, true, [], false, none⟩], [[], [], [1], [], [3], [1, 2, 3, 4], [0, 1, 2, 3, 4, 5], [0, 1, 2, 3, 4, 5, 6], [0, 1, 2, 3, 4, 5], [0, 1, 2, 3, 4, 5, 8], [0, 1, 2, 3, 4, 5, 6, 7, 8, 9]]⟩ .leaf .leaf) (.node 23 (.node 6 ⟨[⟨0, false, [], false, none⟩, ⟨1, false, [], false, none⟩, ⟨2, false, [], false, none⟩, ⟨3, false, [], false, none⟩, ⟨4, false, [], false, none⟩, ⟨5, false, [], false, none⟩, ⟨6, false, [], false, none⟩, ⟨7, false, [], false, none⟩, ⟨8, false, [], false, none⟩], [[], [], [0, 1], [0, 1, 2], [], [], [4, 5], [4, 5, 6], [0, 1, 2, 3, 4, 5, 6, 7]]⟩ .leaf .leaf) (.node 22 (.node 12 ⟨[⟨0, false, [], false, none⟩, ⟨1, false, [], false, none⟩, ⟨2, false, [], false, none⟩, ⟨3, false, [], false, none⟩, ⟨4, false, [], false, none⟩, ⟨5, false, [], false, none⟩, ⟨6, false, [], false, none⟩, ⟨7, false, [], false, none⟩, ⟨8, false, [], false, none⟩, ⟨9, false, [], false, none⟩, ⟨10, false, [], false, none⟩], [[], [], [0, 1], [0, 1, 2], [], [], [4, 5], [4, 5, 6], [0, 1, 2, 3, 4, 5, 6, 7], [0, 1, 2, 3, 4, 5, 6, 7, 8], [0, 1, 2, 3, 4, 5, 6, 7, 8, 9]]⟩ (.node 7 ⟨[⟨0, false, [], false, none⟩, ⟨1, false, [], false, none⟩, ⟨2, false, [], false, none⟩, ⟨3, false, [], false, none⟩, ⟨4, false, [], false, none⟩, ⟨5, false, [], false, none⟩, ⟨6, false, [], false, none⟩, ⟨7, false, [], false, none⟩, ⟨8, false, [], false, none⟩, ⟨9, false, [], false, none⟩, ⟨10, false, [], false, none⟩, ⟨11, false, [], false, none⟩, ⟨12, false, [], false, none⟩, ⟨13, false, [], false, none⟩, ⟨14, false, [], false, none⟩, ⟨15, false, [], false, none⟩, ⟨16, false, [], false, none⟩], [[], [], [0, 1], [0, 1, 2], [], [], [5], [4, 5, 6], [4, 5, 6, 7], [0, 1, 2, 3, 4, 5, 6, 7, 8], [0, 1, 2, 3, 4, 5, 6, 7, 8, 9], [0, 1, 2, 3, 4, 5, 6, 7, 8, 9, 10], [0, 1, 2, 3, 4, 5, 6, 7, 8, 9, 10], [0, 1, 2, 3, 4, 5, 6, 7, 8, 9, 10, 11, 12], [0, 1, 2, 3, 4, 5, 6, 7, 8, 9, 10, 11, 12, 13], [0, 1, 2, 3, 4, 5, 6, 7, 8, 9, 10, 11, 12, 13, 14], [0, 1, 2, 3, 4, 5, 6, 7, 8, 9, 10, 11, 12, 13, 14, 15]]⟩ .leaf .leaf) (.node 14 ⟨[⟨0, false, [], false, none⟩, ⟨1, false, [], false, none⟩, ⟨2, false, [], false, none⟩, ⟨3, false, [], false, none⟩, ⟨4, false, [], false, none⟩, ⟨5, false, [], false, none⟩, ⟨6, false, [], false, none⟩, ⟨7, false, [], false, none⟩, ⟨8, false, [], false, none⟩, ⟨9, false, [], false, none⟩, ⟨10, true, [], false, none⟩], [[], [], [0, 1], [0, 1, 2], [], [], [4, 5], [4, 5, 6], [0, 1, 2, 3, 4, 5, 6, 7], [0, 1, 2, 3, 4, 5, 6, 7, 8], [0, 1, 2, 3, 4, 5, 6, 7, 8, 9]]⟩ .leaf .leaf)) .leaf .leaf) .leaf) (.node 39 (.node 8 ⟨[⟨0, false, [], false, none⟩, ⟨1, false, [], false, none⟩, ⟨2, false, [], false, none⟩, ⟨3, false, [], false, none⟩, ⟨4, false, [], false, none⟩, ⟨5, false, [], false, none⟩, ⟨6, false, [], false, none⟩, ⟨7, false, [], false, none⟩, ⟨8, false, [], false, none⟩, ⟨9, false, [], false, none⟩, ⟨10, false, [], false, none⟩, ⟨11, false, [], false, none⟩, ⟨12, false, [], false, none⟩, ⟨13, false, [], false, none⟩, ⟨14, false, [], false, none⟩, ⟨15, false, [], false, none⟩, ⟨16, false, [], false, none⟩, ⟨17, false, [], false, none⟩, ⟨18, false, [], false, none⟩, ⟨19, false, [], false, none⟩, ⟨20, false, [], false, none⟩, ⟨21, false, [], false, none⟩, ⟨22, false, [], false, none⟩, ⟨23, false, [], false, none⟩, ⟨24, false, [], false, none⟩], [[], [0], [0, 1], [0, 1], [0, 1], [0, 1, 3, 4], [0, 1, 3, 4, 5], [0, 1, 3, 4, 5, 6], [0, 1, 2, 3, 4, 5, 6, 7], [0, 1, 2, 3, 4, 5, 6, 7, 8], [0, 1], [0, 1, 2, 3, 4, 5, 6, 7, 8, 9, 10], [0, 1], [0, 1], [0, 1], [0, 1, 13, 14], [0, 1, 13, 14, 15], [0, 1, 13, 14, 15, 16], [0, 1, 12, 13, 14, 15, 16, 17], [0, 1, 12, 13, 14, 15, 16, 17, 18], [0, 1], [0, 1, 12, 13, 14, 15, 16, 17, 18, 19, 20], [0, 1, 2, 3, 4, 5, 6, 7, 8, 9, 10, 11, 12, 13, 14, 15, 16, 17, 18, 19, 20, 21], [0, 1, 2, 3, 4, 5, 6, 7, 8, 9, 10, 11, 12, 13, 14, 15, 16, 17, 18, 19, 20, 21, 22], [0, 1, 2, 3, 4, 5, 6, 7, 8, 9, 10, 11, 12, 13, 14, 15, 16, 17, 18, 19, 20, 21, 22, 23]]⟩ .leaf .leaf) (.node 35 (.node 8 ⟨[⟨0, false, [], false, none⟩, ⟨1, false, [], false, none⟩, ⟨2, false, [], false, none⟩, ⟨3, false, [], false, none⟩, ⟨4, false, [], false, none⟩, ⟨5, false, [], false, none⟩, ⟨6, false, [], false, none⟩, ⟨7, false, [], false, none⟩, ⟨8, false, [], false, none⟩, ⟨9, false, [], false, none⟩, ⟨10, false, [], false, none⟩, ⟨11, false, [], false, none⟩, ⟨12, false, [], false, none⟩, ⟨13, false, [], false, none⟩, ⟨14, false, [], false, none⟩, ⟨15, false, [], false, none⟩, ⟨16, false, [], false, none⟩, ⟨17, false, [], false, none⟩, ⟨18, false, [], false, none⟩, ⟨19, false, [], false, none⟩, ⟨20, false, [], false, none⟩, ⟨21, false, [], false, none⟩, ⟨22, false, [], false, none⟩, ⟨23, false, [], false, none⟩, ⟨24, true, [], false, none⟩], [[], [], [], [1, 2], [1, 2, 3], [], [1, 2, 3, 4, 5], [1, 2, 3, 4, 5, 6], [1, 2, 3, 4, 5, 6, 7], [], [1, 2, 3, 4, 5, 6, 7, 8, 9], [], [], [11, 12], [11, 12, 13], [], [11, 12, 13, 14, 15], [11, 12, 13, 14, 15, 16], [11, 12, 13, 14, 15, 16, 17], [1, 2, 3, 4, 5, 6, 7, 8, 9, 10, 11, 12, 13, 14, 15, 16, 17, 18], [0, 1, 2, 3, 4, 5, 6, 7, 8, 9, 10, 11, 12, 13, 14, 15, 16, 17, 18, 19], [0, 1, 2, 3, 4, 5, 6, 7, 8, 9, 10, 11, 12, 13, 14, 15, 16, 17, 18, 19, 20], [0, 1, 2, 3, 4, 5, 6, 7, 8, 9, 10, 11, 12, 13, 14, 15, 16, 17, 18, 19, 20, 21], [0, 1, 2, 3, 4, 5, 6, 7, 8, 9, 10, 11, 12, 13, 14, 15, 16, 17, 18, 19, 20, 21, 22], [0, 1, 2, 3, 4, 5, 6, 7, 8, 9, 10, 11, 12, 13, 14, 15, 16, 17, 18, 19, 20, 21, 22, 23]]⟩ .leaf .leaf) .leaf .leaf) .leaf))) (.node 56 (.node 9 ⟨[⟨0, false, [], false, none⟩, ⟨1, false, [], false, none⟩, ⟨2, false, [], false, none⟩, ⟨3, false, [], false, none⟩, ⟨4, false, [], false, none⟩, ⟨5, false, [], false, none⟩, ⟨6, false, [], false, none⟩, ⟨7, false, [], false, none⟩, ⟨8, false, [], false, none⟩, ⟨9, false, [], false, none⟩, ⟨10, false, [], false, none⟩, ⟨11, false, [], false, none⟩], [[], [], [0, 1], [0, 1, 2], [0, 1, 2, 3], [], [], [5, 6], [5, 6, 7], [5, 6, 7, 8], [0, 1, 2, 3, 4], [0, 1, 2, 3, 4, 5, 6, 7, 8, 9, 10]]⟩ .leaf .leaf) (.node 50 (.node 6 ⟨[⟨0, false, [], false, none⟩, ⟨1, false, [], false, none⟩, ⟨2, true, [], false, none⟩, ⟨3, false, [2], false, none⟩, ⟨4, false, [2], false, none⟩, ⟨5, false, [], false, none⟩, ⟨6, false, [2], true, none⟩, ⟨7, true, [], false, some 6⟩], [[], [0], [0, 1], [], [3], [0, 1, 2, 3, 4], [], [0, 1, 2, 3, 4, 5, 6]]⟩ .leaf .leaf) (.node 48 (.node 15 ⟨[⟨0, false, [], false, none⟩, ⟨1, false, [], false, none⟩, ⟨2, false, [], false, none⟩, ⟨3, false, [], false, none⟩, ⟨4, false, [], false, none⟩, ⟨5, false, [], false, none⟩, ⟨6, false, [], false, none⟩, ⟨7, false, [], false, none⟩, ⟨8, false, [], false, none⟩, ⟨9, false, [], false, none⟩, ⟨10, false, [], false, none⟩, ⟨11, false, [], false, none⟩, ⟨12, false, [], false, none⟩], [[], [], [1], [0, 1, 2], [0, 1, 2, 3], [], [], [6], [5, 6, 7], [5, 6, 7, 8], [0, 1, 2, 3, 4, 5, 6, 7, 8, 9], [0, 1, 2, 3, 4, 5, 6, 7, 8, 9, 10], [0, 1, 2, 3, 4, 5, 6, 7, 8, 9, 10, 11]]⟩ .leaf .leaf) (.node 47 (.node 8 ⟨[⟨0, false, [], false, none⟩, ⟨1, false, [], false, none⟩, ⟨2, false, [], false, none⟩, ⟨3, false, [], false, none⟩, ⟨4, false, [], false, none⟩, ⟨5, false, [], false, none⟩, ⟨6, false, [], false, none⟩, ⟨7, false, [], false, none⟩, ⟨8, false, [], false, none⟩, ⟨9, false, [], false, none⟩, ⟨10, false, [], false, none⟩, ⟨11, false, [], false, none⟩, ⟨12, false, [], false, none⟩, ⟨13, false, [], false, none⟩, ⟨14, false, [], false, none⟩, ⟨15, false, [], false, none⟩, ⟨16, false, [], false, none⟩, ⟨17, false, [], false, none⟩, ⟨18, false, [], false, none⟩, ⟨19, false, [], false, none⟩, ⟨20, false, [], false, none⟩, ⟨21, false, [], false, none⟩, ⟨22, false, [], false, none⟩, ⟨23, false, [], false, none⟩, ⟨24, false, [], false, none⟩, ⟨25, false, [], false, none⟩, ⟨26, false, [], false, none⟩, ⟨27, false, [], false, none⟩, ⟨28, false, [], false, none⟩, ⟨29, false, [], false, none⟩], [[], [0], [0, 1], [0, 1, 2], [0, 1, 2, 3], [0, 1, 2, 3, 4], [0, 1, 2, 3], [0, 1, 2, 3, 6], [0, 1, 2, 3, 4, 5, 6, 7], [0, 1, 2, 3, 4, 5, 6, 7, 8], [0, 1, 2, 3, 4, 5, 6, 7, 8, 9], [0, 1, 2, 3, 4, 5, 6, 7, 8, 9, 10], [0, 1, 2, 3, 4, 5, 6, 7, 8, 9, 10, 11], [0, 1, 2, 3, 4, 5, 6, 7, 8, 9, 10], [0, 1, 2, 3, 4, 5, 6, 7, 8, 9, 10, 11, 12, 13], [0, 1, 2, 3, 4, 5, 6, 7, 8, 9, 10, 11, 12, 13, 14], [0, 1, 2, 3, 4, 5, 6, 7, 8, 9, 10, 11, 12, 13, 14, 15], [0, 1, 2, 3, 4, 5, 6, 7, 8, 9, 10, 11, 12, 13, 14, 15, 16], [0, 1, 2, 3, 4, 5, 6, 7, 8, 9, 10, 11, 12, 13, 14, 15, 16, 17], [0, 1, 2, 3, 4, 5, 6, 7, 8, 9, 10, 11, 12, 13, 14, 15, 16, 17, 18], [0, 1, 2, 3, 4, 5, 6, 7, 8, 9, 10, 11, 12, 13, 14, 15, 16, 17, 18, 19], [0, 1, 2, 3, 4, 5, 6, 7, 8, 9, 10, 11, 12, 13, 14, 15, 16, 17, 18, 19], [0, 1, 2, 3, 4, 5, 6, 7, 8, 9, 10, 11, 12, 13, 14, 15, 16, 17, 18, 19, 21], [0, 1, 2, 3, 4, 5, 6, 7, 8, 9, 10, 11, 12, 13, 14, 15, 16, 17, 18, 19, 20, 21, 22], [0, 1, 2, 3, 4, 5, 6, 7, 8, 9, 10, 11, 12, 13, 14, 15, 16, 17, 18, 19, 20, 21, 22, 23], [0, 1, 2, 3, 4, 5, 6, 7, 8, 9, 10, 11, 12, 13, 14, 15, 16, 17, 18, 19], [0, 1, 2, 3, 4, 5, 6, 7, 8, 9, 10, 11, 12, 13, 14, 15, 16, 17, 18, 19, 20, 21, 22, 23, 24, 25], [0, 1, 2, 3, 4, 5, 6, 7, 8, 9, 10, 11, 12, 13, 14, 15, 16, 17, 18, 19, 20, 21, 22, 23, 24, 25, 26], [0, 1, 2, 3, 4, 5, 6, 7, 8, 9, 10, 11, 12, 13, 14, 15, 16, 17, 18, 19, 20, 21, 22, 23, 24, 25, 26, 27], [0, 1, 2, 3, 4, 5, 6, 7, 8, 9, 10, 11, 12, 13, 14, 15, 16, 17, 18, 19, 20, 21, 22, 23, 24, 25, 26, 27, 28]]⟩ .leaf .leaf) .leaf .leaf) .leaf) (.node 55 (.node 5 ⟨[⟨0, false, [], false, none⟩, ⟨1, false, [], false, none⟩, ⟨2, false, [], false, none⟩, ⟨3, false, [], false, none⟩, ⟨4, false, [], false, none⟩, ⟨5, false, [], false, none⟩, ⟨6, false, [], false, none⟩, ⟨7, false, [], false, none⟩, ⟨8, false, [], false, none⟩, ⟨9, false, [], false, none⟩, ⟨10, false, [], false, none⟩, ⟨11, false, [], false, none⟩], [[], [], [0, 1], [0, 1, 2], [0, 1, 2, 3], [], [], [5, 6], [5, 6, 7], [5, 6, 7, 8], [0, 1, 2, 3, 4], [0, 1, 2, 3, 4, 5, 6, 7, 8, 9, 10]]⟩ .leaf .leaf) (.node 54 (.node 5 ⟨[⟨0, false, [], false, none⟩, ⟨1, false, [], false, none⟩, ⟨2, false, [], false, none⟩, ⟨3, false, [], false, none⟩, ⟨4, false, [], false, none⟩, ⟨5, false, [], false, none⟩, ⟨6, false, [], false, none⟩, ⟨7, false, [], false, none⟩, ⟨8, false, [], false, none⟩, ⟨9, false, [], false, none⟩, ⟨10, false, [], false, none⟩, ⟨11, false, [], false, none⟩], [[], [], [1], [0, 1, 2], [0, 1, 2, 3], [], [], [6], [5, 6, 7], [5, 6, 7, 8], [0, 1, 2, 3, 4], [0, 1, 2, 3, 4, 5, 6, 7, 8, 9, 10]]⟩ .leaf .leaf) .leaf .leaf) .leaf)) (.node 61 (.node 10 ⟨[⟨0, false, [], false, none⟩, ⟨1, false, [], false, none⟩, ⟨2, false, [], false, none⟩, ⟨3, false, [], false, none⟩, ⟨4, false, [], false, none⟩, ⟨5, false, [], false, none⟩, ⟨6, false, [], false, none⟩, ⟨7, false, [], false, none⟩, ⟨8, false, [], false, none⟩, ⟨9, false, [], false, none⟩, ⟨10, false, [], false, none⟩, ⟨11, false, [], false, none⟩, ⟨12, false, [], false, none⟩, ⟨13, false, [], false, none⟩], [[], [], [0, 1], [0, 1, 2], [], [0, 1, 2, 3, 4], [], [], [], [7, 8], [7, 8, 9], [6, 7, 8, 9, 10], [0, 1, 2, 3, 4, 5, 6, 7, 8, 9, 10, 11], [0, 1, 2, 3, 4, 5, 6, 7, 8, 9, 10, 11, 12]]⟩ (.node 5 ⟨[⟨0, false, [], false, none⟩, ⟨1, false, [], false, none⟩, ⟨2, false, [], false, none⟩, ⟨3, false, [], false, none⟩, ⟨4, false, [], false, none⟩, ⟨5, false, [], false, none⟩, ⟨6, false, [], false, none⟩, ⟨7, false, [], false, none⟩, ⟨8, false, [], false, none⟩, ⟨9, false, [], false, none⟩, ⟨10, false, [], false, none⟩, ⟨11, false, [], false, none⟩], [[], [], [0, 1], [0, 1, 2], [0, 1, 2, 3], [], [], [5, 6], [5, 6, 7], [5, 6, 7, 8], [0, 1, 2, 3, 4], [0, 1, 2, 3, 4, 5, 6, 7, 8, 9, 10]]⟩ .leaf .leaf) .leaf) (.node 58 (.node 6 ⟨[⟨3, false, [], false, none⟩, ⟨4, false, [], false, none⟩, ⟨5, false, [], false, none⟩, ⟨6, false, [], false, none⟩, ⟨7, false, [], false, none⟩, ⟨8, false, [], false, none⟩, ⟨9, false, [], false, none⟩, ⟨10, false, [], false, none⟩, ⟨11, true, [], false, none⟩, ⟨0, false, [11], false, none⟩, ⟨1, false, [11], false, none⟩, ⟨2, false, [11], false, none⟩, ⟨12, false, [], false, none⟩, ⟨13, true, [], false, none⟩], [[], [], [1], [], [], [4], [3, 4, 5], [3, 4, 5, 6], [], [8], [8, 9], [3, 4, 5, 6, 7, 8, 9, 10], [0, 1, 2, 3, 4, 5, 6, 7, 8, 9, 10, 11], [0, 1, 2, 3, 4, 5, 6, 7, 8, 9, 10, 11, 12]]⟩ (.node 5 ⟨[⟨3, false, [], false, none⟩, ⟨4, false, [], false, none⟩, ⟨5, false, [], false, none⟩, ⟨6, false, [], false, none⟩, ⟨7, false, [], false, none⟩, ⟨8, false, [], false, none⟩, ⟨9, false, [], false, none⟩, ⟨10, false, [], false, none⟩, ⟨11, true, [], false, none⟩, ⟨0, false, [11], false, none⟩, ⟨1, false, [11], false, none⟩, ⟨2, false, [11], false, none⟩, ⟨12, false, [], false, none⟩, ⟨13, true, [], false, none⟩], [[], [], [1], [], [], [4], [3, 4, 5], [3, 4, 5, 6], [], [8], [8, 9], [3, 4, 5, 6, 7, 8, 9, 10], [0, 1, 2, 3, 4, 5, 6, 7, 8, 9, 10, 11], [0, 1, 2, 3, 4, 5, 6, 7, 8, 9, 10, 11, 12]]⟩ .leaf .leaf) .leaf) (.node 57 (.node 7 ⟨[⟨0, false, [], false, none⟩, ⟨1, true, [], false, none⟩, ⟨2, false, [1], false, none⟩, ⟨3, false, [1], false, none⟩, ⟨4, false, [1], false, none⟩, ⟨5, false, [1], false, none⟩, ⟨6, false, [], false, none⟩], [[], [0], [], [2], [2, 3], [2, 3, 4], [0, 1, 2, 3, 4, 5]]⟩ (.node 2 ⟨[⟨0, false, [], false, none⟩, ⟨1, false, [], false, none⟩, ⟨2, false, [], false, none⟩, ⟨3, false, [], false, none⟩, ⟨4, false, [], false, none⟩, ⟨5, false, [], false, none⟩, ⟨6, false, [], false, none⟩, ⟨7, false, [], false, none⟩, ⟨8, false, [], false, none⟩, ⟨9, false, [], false, none⟩, ⟨10, false, [], false, none⟩], [[], [0], [0, 1], [0, 1, 2], [0, 1, 2, 3], [], [5], [5, 6], [5, 6, 7], [5, 6, 7, 8], [0, 1, 2, 3, 4, 5, 6, 7, 8, 9]]⟩ .leaf .leaf) .leaf) .leaf .leaf) .leaf) (.node 64 (.node 19 ⟨[⟨0, false, [], false, none⟩, ⟨2, false, [], false, none⟩, ⟨3, true, [], false, none⟩, ⟨1, false, [3], false, none⟩, ⟨4, true, [], false, none⟩], [[], [], [0], [0, 2], [0, 1, 2, 3]]⟩ .leaf .leaf) (.node 62 (.node 10 ⟨[⟨2, false, [], false, none⟩, ⟨3, false, [], false, none⟩, ⟨4, false, [], false, none⟩, ⟨5, false, [], false, none⟩, ⟨6, false, [], false, none⟩, ⟨7, false, [], false, none⟩, ⟨8, true, [], false, none⟩, ⟨0, false, [8], false, none⟩, ⟨10, false, [], false, none⟩, ⟨11, false, [], false, none⟩, ⟨12, true, [], false, none⟩, ⟨1, false, [8, 12], false, none⟩, ⟨9, false, [8, 12], false, none⟩, ⟨13, false, [], false, none⟩, ⟨14, false, [], false, none⟩, ⟨15, true, [], false, none⟩], [[], [], [], [2], [2, 3], [2, 3, 4], [], [6], [2, 3, 4, 5, 6, 7], [], [0, 2, 3, 4, 5, 6, 7, 8], [0, 2, 3, 4, 5, 6, 7, 8, 10], [0, 2, 3, 4, 5, 6, 7, 8, 10, 11], [0, 1, 2, 3, 4, 5, 6, 7, 8, 9, 10, 11, 12], [0, 1, 2, 3, 4, 5, 6, 7, 8, 9, 10, 11, 12, 13], [0, 1, 2, 3, 4, 5, 6, 7, 8, 9, 10, 11, 12, 13, 14]]⟩ .leaf .leaf) .leaf .leaf) .leaf))))

noncomputable def aePlan (f b : Nat) : Option Plan := match tget aePlanT f with
  | some t => tget t b
  | none => none

noncomputable def aeC : Ctx := ⟨aeT, aeRets, aeIso, aePol, aeXPol, aePlan, true⟩

noncomputable def aeF : Tab Func :=
  (.node 44 Try.f44 (.node 22 Try.f22 (.node 11 Try.f11 (.node 5 Try.f5 (.node 2 Try.f2 (.node 1 Try.f1 (.node 0 Try.f0 .leaf .leaf) .leaf) (.node 4 Try.f4 (.node 3 Try.f3 .leaf .leaf) .leaf)) (.node 8 Try.f8 (.node 7 Try.f7 (.node 6 Try.f6 .leaf .leaf) .leaf) (.node 10 Try.f10 (.node 9 Try.f9 .leaf .leaf) .leaf))) (.node 17 Try.f17 (.node 14 Try.f14 (.node 13 Try.f13 (.node 12 Try.f12 .leaf .leaf) .leaf) (.node 16 Try.f16 (.node 15 Try.f15 .leaf .leaf) .leaf)) (.node 20 Try.f20 (.node 19 Try.f19 (.node 18 Try.f18 .leaf .leaf) .leaf) (.node 21 Try.f21 .leaf .leaf)))) (.node 33 Try.f33 (.node 28 Try.f28 (.node 25 Try.f25 (.node 24 Try.f24 (.node 23 Try.f23 .leaf .leaf) .leaf) (.node 27 Try.f27 (.node 26 Try.f26 .leaf .leaf) .leaf)) (.node 31 Try.f31 (.node 30 Try.f30 (.node 29 Try.f29 .leaf .leaf) .leaf) (.node 32 Try.f32 .leaf .leaf))) (.node 39 Try.f39 (.node 36 Try.f36 (.node 35 Try.f35 (.node 34 Try.f34 .leaf .leaf) .leaf) (.node 38 Try.f38 (.node 37 Try.f37 .leaf .leaf) .leaf)) (.node 42 Try.f42 (.node 41 Try.f41 (.node 40 Try.f40 .leaf .leaf) .leaf) (.node 43 Try.f43 .leaf .leaf))))) (.node 67 Try.f67 (.node 56 Try.f56 (.node 50 Try.f50 (.node 47 Try.f47 (.node 46 Try.f46 (.node 45 Try.f45 .leaf .leaf) .leaf) (.node 49 Try.f49 (.node 48 Try.f48 .leaf .leaf) .leaf)) (.node 53 Try.f53 (.node 52 Try.f52 (.node 51 Try.f51 .leaf .leaf) .leaf) (.node 55 Try.f55 (.node 54 Try.f54 .leaf .leaf) .leaf))) (.node 62 Try.f62 (.node 59 Try.f59 (.node 58 Try.f58 (.node 57 Try.f57 .leaf .leaf) .leaf) (.node 61 Try.f61 (.node 60 Try.f60 .leaf .leaf) .leaf)) (.node 65 Try.f65 (.node 64 Try.f64 (.node 63 Try.f63 .leaf .leaf) .leaf) (.node 66 Try.f66 .leaf .leaf)))) (.node 78 Try.f78 (.node 73 Try.f73 (.node 70 Try.f70 (.node 69 Try.f69 (.node 68 Try.f68 .leaf .leaf) .leaf) (.node 72 Try.f72 (.node 71 Try.f71 .leaf .leaf) .leaf)) (.node 76 Try.f76 (.node 75 Try.f75 (.node 74 Try.f74 .leaf .leaf) .leaf) (.node 77 Try.f77 .leaf .leaf))) (.node 84 Try.f84 (.node 81 Try.f81 (.node 80 Try.f80 (.node 79 Try.f79 .leaf .leaf) .leaf) (.node 83 Try.f83 (.node 82 Try.f82 .leaf .leaf) .leaf)) (.node 87 Try.f87 (.node 86 Try.f86 (.node 85 Try.f85 .leaf .leaf) .leaf) (.node 88 Try.f88 .leaf .leaf))))))

end Go.Proofs.Ytkcdbndpcabelaa

/- The abstract machine of the seat is sound: written by a program of this session (wip/tools/aectx.py). -/
namespace Go.Proofs.Ytkcdbndpcabelaa
open Go Go.AE
set_option maxRecDepth 100000
theorem aeT_ok : tableOK Try.prog aeT = true := by decide +kernel
theorem aeE_ok : eqTab Try.prog aeT = true := by decide +kernel
theorem aeCode_ok : aeF.all (fun f fn => match fn.body with | some c => okCode aeC f fn.ntmps c | none => true) = true := by decide +kernel
theorem aeName_ok : aeF.all (fun _ fn => !(fn.name == "runtime.NumGoroutine")) = true := by decide +kernel
theorem aeAt_ok : aeF.All (fun f fn => Try.prog.funcs[f]? = some fn) :=
  ⟨rfl, ⟨rfl, ⟨rfl, ⟨rfl, ⟨rfl, ⟨rfl, ⟨rfl, trivial, trivial⟩, trivial⟩, ⟨rfl, ⟨rfl, trivial, trivial⟩, trivial⟩⟩, ⟨rfl, ⟨rfl, ⟨rfl, trivial, trivial⟩, trivial⟩, ⟨rfl, ⟨rfl, trivial, trivial⟩, trivial⟩⟩⟩, ⟨rfl, ⟨rfl, ⟨rfl, ⟨rfl, trivial, trivial⟩, trivial⟩, ⟨rfl, ⟨rfl, trivial, trivial⟩, trivial⟩⟩, ⟨rfl, ⟨rfl, ⟨rfl, trivial, trivial⟩, trivial⟩, ⟨rfl, trivial, trivial⟩⟩⟩⟩, ⟨rfl, ⟨rfl, ⟨rfl, ⟨rfl, ⟨rfl, trivial, trivial⟩, trivial⟩, ⟨rfl, ⟨rfl, trivial, trivial⟩, trivial⟩⟩, ⟨rfl, ⟨rfl, ⟨rfl, trivial, trivial⟩, trivial⟩, ⟨rfl, trivial, trivial⟩⟩⟩, ⟨rfl, ⟨rfl, ⟨rfl, ⟨rfl, trivial, trivial⟩, trivial⟩, ⟨rfl, ⟨rfl, trivial, trivial⟩, trivial⟩⟩, ⟨rfl, ⟨rfl, ⟨rfl, trivial, trivial⟩, trivial⟩, ⟨rfl, trivial, trivial⟩⟩⟩⟩⟩, ⟨rfl, ⟨rfl, ⟨rfl, ⟨rfl, ⟨rfl, ⟨rfl, trivial, trivial⟩, trivial⟩, ⟨rfl, ⟨rfl, trivial, trivial⟩, trivial⟩⟩, ⟨rfl, ⟨rfl, ⟨rfl, trivial, trivial⟩, trivial⟩, ⟨rfl, ⟨rfl, trivial, trivial⟩, trivial⟩⟩⟩, ⟨rfl, ⟨rfl, ⟨rfl, ⟨rfl, trivial, trivial⟩, trivial⟩, ⟨rfl, ⟨rfl, trivial, trivial⟩, trivial⟩⟩, ⟨rfl, ⟨rfl, ⟨rfl, trivial, trivial⟩, trivial⟩, ⟨rfl, trivial, trivial⟩⟩⟩⟩, ⟨rfl, ⟨rfl, ⟨rfl, ⟨rfl, ⟨rfl, trivial, trivial⟩, trivial⟩, ⟨rfl, ⟨rfl, trivial, trivial⟩, trivial⟩⟩, ⟨rfl, ⟨rfl, ⟨rfl, trivial, trivial⟩, trivial⟩, ⟨rfl, trivial, trivial⟩⟩⟩, ⟨rfl, ⟨rfl, ⟨rfl, ⟨rfl, trivial, trivial⟩, trivial⟩, ⟨rfl, ⟨rfl, trivial, trivial⟩, trivial⟩⟩, ⟨rfl, ⟨rfl, ⟨rfl, trivial, trivial⟩, trivial⟩, ⟨rfl, trivial, trivial⟩⟩⟩⟩⟩⟩
theorem ae_mixed : Try.prog.follows .mixedOrders = true := Checked.mixed Try.checked
theorem ae_T : TOK Try.prog aeC.T := TOK.of_check aeT_ok
theorem ae_Q : EqOK Try.prog aeC.T := EqOK.of_check ae_T aeE_ok
theorem ae_fn {f : FuncId} {fn : Func} (h : tget aeF f = some fn) : FnOK Try.prog aeC f fn := by
  refine ⟨Tab.get_All aeAt_ok f fn h, ?_, fun c hc => ?_⟩
  · simpa using Tab.get_all aeName_ok f fn h
  · have := Tab.get_all aeCode_ok f fn h
    rw [hc] at this; exact this
theorem ae_ev (n : Nat) : EvOK Try.prog (evN aeC aeF n) := evN_ok (C := aeC) ae_T ae_Q ae_mixed (fun _ _ h => ae_fn h) n
theorem ae_direct {E : Ev} (hE : EvOK Try.prog E) (k : Nat) {f : FuncId} {fn : Func} {ds : List DV} {d : DV} (h : tget aeF f = some fn) (e : pureE aeC E k f fn ds = some d) : PureOK Try.prog f ds d := pureE_ok ae_T ae_Q ae_mixed hE (ae_fn h) e
theorem ae_directF {E : Ev} (hE : EvOK Try.prog E) (k : Nat) {f : FuncId} {fn : Func} {xs : List AV} {h0 h' : List Blk} {v : AV} (h : tget aeF f = some fn) (e : bodyE aeC E k f fn xs h0 (fun v h' => some (v, h')) = some (v, h')) : CallOK Try.prog f xs h0 v h' := bodyE_ok ae_T ae_Q ae_mixed hE (ae_fn h) e
theorem ae_pure {E : Ev} (hE : EvOK Try.prog E) {f : FuncId} {fn : Func} {ids : List Nat} {ds : List DV} {d : DV} (ok : OkSeg fn none ids) (h : tget aeF f = some fn) (hb : (fn.body.isSome && Nat.ble ds.length fn.ntmps) = true)
    (e : startF aeC E f 0 fn none ⟨envOf 0 (ds.map .d), [], []⟩ (doneE aeC fn 0 fun v h => freezeV h 4 v) = some d) (hfr : freshF f = false := by rfl) : PureOK Try.prog f ds d :=
  pure_of_go ae_T ae_Q ae_mixed hE (ae_fn h) ok hb e hfr
theorem ae_call {E : Ev} (hE : EvOK Try.prog E) {f : FuncId} {fn : Func} {ids : List Nat} {xs : List AV} {h0 h' : List Blk} {v : AV} (ok : OkSeg fn none ids) (h : tget aeF f = some fn) (hb : (fn.body.isSome && Nat.ble xs.length fn.ntmps) = true)
    (e : startF aeC E f h0.length fn none ⟨envOf 0 xs, h0, []⟩ (doneE aeC fn h0.length fun v h => some (v, h)) = some (v, h')) : CallOK Try.prog f xs h0 v h' :=
  call_of_go ae_T ae_Q ae_mixed hE (ae_fn h) ok hb e
end Go.Proofs.Ytkcdbndpcabelaa

/- Chapter 02: what the small functions answer. -/
namespace Go.Proofs.Ytkcdbndpcabelaa
open Go Go.AE

theorem nth_ints (l : List Int) (i : Nat) : nth (ints l) i = (l[i]?).map iD := by
  unfold ints; rw [nth_map, nth_eq]

theorem length_ints (l : List Int) : (ints l).length = l.length := by simp [ints]

theorem wrap64 {n : Int} (h1 : -9223372036854775808 ≤ n) (h2 : n < 9223372036854775808) : IntKind.i64.wrap n = n := by
  rw [IntKind.wrap_i64]; omega

/-- Lengths of rows. -/
abbrev Small (n : Nat) : Prop := n < 4611686018427387904

/-- A row of numbers. -/
abbrev rowD (l : List Int) (nl : Bool) : DV := .sl (ints l) l.length 1 false nl

/-! ### 'ints' -/
def s23 (a b : List Int) (na nb : Bool) (i : Int) : St := ⟨[(0, .d (rowD a na)), (1, .d (rowD b nb)), (5, .d (.int .i64 i))], [], []⟩

theorem k23 : OkSeg Try.f23 none [0] := ⟨by kernel_rfl, by kernel_rfl, by decide⟩
theorem k23_0 : OkSeg Try.f23 (some 0) [] := ⟨by kernel_rfl, by kernel_rfl, by decide⟩

theorem r23_0 (E : Ev) (a b : List Int) (na nb : Bool) (i : Int) : startS aeC E 23 0 Try.f23 (some 0) (s23 a b na nb i) (roundD aeC 23 0 0) =
  bif decide (i < ↑a.length) then
    bif decide (0 ≤ i) && decide (i < ↑a.length) then
      Option.bind (nth (ints a) (Int.toNat i * 1)) fun d =>
        match d with
        | DV.int k' n_1 =>
          bif decide (k' = IntKind.i64) then
            bif decide (0 ≤ i) && decide (i < ↑b.length) then
              Option.bind (nth (ints b) (Int.toNat i * 1)) fun d =>
                match d with
                | DV.int k' n_2 =>
                  bif decide (k' = IntKind.i64) then
                    bif !decide (n_1 = n_2) then some (.ret, ⟨[(4, .d (bD false))], [], []⟩)
                    else some (.norm, s23 a b na nb (IntKind.wrap IntKind.i64 (i + 1)))
                  else none
                | _ => none
            else none
          else none
        | _ => none
    else none
  else some (.exit 0, ⟨[], [], []⟩) := by kernel_rfl

theorem l23 (E : Ev) (a b : List Int) (na nb : Bool) (hl : a.length = b.length) (hs : Small a.length) (s : St) (h : tidyP 0 (aeC.pol 23 0) s = some (s23 a b na nb 0)) :
    LoopR aeC E 23 0 Try.f23 0 s (if a = b then .exit 0 else .ret) (if a = b then ⟨[], [], []⟩ else ⟨[(4, .d (bD false))], [], []⟩) := by
  have := loopR_ok (C := aeC) (E := E) (fid := 23) (base := 0) (fn := Try.f23) (t := 0) k23_0 (α := { i : Nat // i ≤ a.length }) (fun i => s23 a b na nb i.1) (fun i => a.length - i.1)
    (fun i => (if a.drop i.1 = b.drop i.1 then .exit 0 else .ret, if a.drop i.1 = b.drop i.1 then ⟨[], [], []⟩ else ⟨[(4, .d (bD false))], [], []⟩)) ?_ ⟨0, by omega⟩ s h
  · exact this
  rintro ⟨i, hi⟩
  by_cases hlt : i < a.length
  · have ha : nth (ints a) i = some (iD a[i]) := by rw [nth_ints]; simp [hlt]
    have hb : nth (ints b) i = some (iD b[i]) := by rw [nth_ints]; simp [hl ▸ hlt]
    have hda : a.drop i = a[i] :: a.drop (i + 1) := by rw [List.drop_eq_getElem_cons hlt]
    have hdb : b.drop i = b[i] :: b.drop (i + 1) := by rw [List.drop_eq_getElem_cons (hl ▸ hlt)]
    have e1 : decide ((i : Int) < (a.length : Int)) = true := by simp; omega
    have e2 : decide ((i : Int) < (b.length : Int)) = true := by simp; omega
    have e3 : decide (0 ≤ (i : Int)) = true := by simp
    by_cases hne : a[i] = b[i]
    · left
      have hiff : (a.drop (i + 1) = b.drop (i + 1)) ↔ (a.drop i = b.drop i) := by
        rw [hda, hdb, hne]
        exact ⟨fun h => by rw [h], fun h => (List.cons.inj h).2⟩
      refine ⟨⟨i + 1, hlt⟩, by simp; omega, startF_done k23_0 roundD_plain ?_, by simp only [hiff]⟩
      rw [r23_0]
      simp only [e1, e2, e3, Bool.and_self, cond_true, Int.toNat_natCast, Nat.mul_one, ha, hb, Option.bind_some, decide_true, hne, Bool.not_true, cond_false]
      rw [wrap64 (by omega) (by omega)]; rfl
    · right
      have hno : ¬ a.drop i = b.drop i := by rw [hda, hdb]; exact fun h => hne (List.cons.inj h).1
      simp only [hno, if_false]
      refine ⟨by simp, startF_done k23_0 roundD_plain ?_⟩
      rw [r23_0]
      simp only [e1, e2, e3, Bool.and_self, cond_true, Int.toNat_natCast, Nat.mul_one, ha, hb, Option.bind_some, decide_true, hne, decide_false, Bool.not_false]
  · right
    have hd : a.drop i = b.drop i := by rw [List.drop_eq_nil_of_le (by omega), List.drop_eq_nil_of_le (by omega)]
    simp only [hd, if_true]
    refine ⟨by simp, startF_done k23_0 roundD_plain ?_⟩
    rw [r23_0]
    have e1 : decide ((i : Int) < (a.length : Int)) = false := by simp; omega
    simp only [e1, cond_false]

theorem ints_ok (a b : List Int) (na nb : Bool) (ha : Small a.length) : PureOK Try.prog 23 [rowD a na, rowD b nb] (bD (decide (a = b))) := by
  refine ae_pure (E := Ev.nil) EvOK.nil (fn := Try.f23) k23 (by kernel_rfl) (by kernel_rfl) ?_
  have e0 : startS aeC Ev.nil 23 0 Try.f23 none ⟨envOf 0 ([rowD a na, rowD b nb].map .d), [], []⟩ (doneE aeC Try.f23 0 fun v h => freezeV h 4 v) =
      bif !decide ((a.length : Int) = b.length) then some (bD false) else none := by kernel_rfl
  have e1 : startS aeC Ev.nil 23 0 Try.f23 none ⟨envOf 0 ([rowD a na, rowD b nb].map .d), [], []⟩ (heldD aeC 23 0) =
      bif !decide ((a.length : Int) = b.length) then none else some (0, s23 a b na nb 0) := by kernel_rfl
  by_cases hl : a.length = b.length
  · rw [startF_at k23 (by rw [e1]; simp [hl]) (l23 Ev.nil a b na nb hl ha) |>.2]
    refine nextF_done k23 done_plain ?_
    by_cases e : a = b
    · rw [if_pos e, if_pos e, decide_eq_true e]; kernel_rfl
    · rw [if_neg e, if_neg e, decide_eq_false e]; kernel_rfl
  · refine startF_done k23 done_plain ?_
    rw [e0]
    have : ¬ ((a.length : Int) = b.length) := by omega
    have hne : ¬ a = b := by rintro rfl; exact hl rfl
    simp [this, hne]
end Go.Proofs.Ytkcdbndpcabelaa

/- Chapter 02: the greatest and the least of two numbers, how far they are apart, how two pairs compare. -/
namespace Go.Proofs.Ytkcdbndpcabelaa
open Go Go.AE

theorem max_ok (a b : Int) (c nl : Bool) : PureOK Try.prog 70 [.sl [iD a, iD b] 2 1 c nl] (iD (max a b)) := by
  refine ae_direct EvOK.nil 6 (by kernel_rfl : tget aeF 70 = some Try.f70) ?_
  have e : pureE aeC Ev.nil 6 70 Try.f70 [.sl [iD a, iD b] 2 1 c nl] = some (iD (if b > a then b else a)) := by kernel_rfl
  rw [e]
  have : (if b > a then b else a) = max a b := by split <;> omega
  rw [this]

theorem min_ok (a b : Int) (c nl : Bool) : PureOK Try.prog 71 [.sl [iD a, iD b] 2 1 c nl] (iD (min a b)) := by
  refine ae_direct EvOK.nil 6 (by kernel_rfl : tget aeF 71 = some Try.f71) ?_
  have e : pureE aeC Ev.nil 6 71 Try.f71 [.sl [iD a, iD b] 2 1 c nl] = some (iD (if b < a then b else a)) := by kernel_rfl
  rw [e]
  have : (if b < a then b else a) = min a b := by split <;> omega
  rw [this]

theorem nan_ok (a : Int) : PureOK Try.prog 72 [iD a] (bD false) := by
  refine ae_direct EvOK.nil 6 (by kernel_rfl : tget aeF 72 = some Try.f72) ?_
  have e : pureE aeC Ev.nil 6 72 Try.f72 [iD a] = some (bD (!decide (a = a))) := by kernel_rfl
  rw [e]; simp

def sp70 : List DV → Tr DV
  | [.sl [.int .i64 a, .int .i64 b] 2 1 _ _] => .leaf (iD (max a b))
  | _ => .fail
def sp71 : List DV → Tr DV
  | [.sl [.int .i64 a, .int .i64 b] 2 1 _ _] => .leaf (iD (min a b))
  | _ => .fail
def sp72 : List DV → Tr DV
  | [.int .i64 _] => .leaf (bD false)
  | _ => .fail

def ev1 : Ev := ((Ev.nil.add 70 sp70).add 71 sp71).add 72 sp72
theorem ev1_ok : EvOK Try.prog ev1 := by
  refine EvOK.add (EvOK.add (EvOK.add EvOK.nil ?_) ?_) ?_
  · intro ds d h; unfold sp70 at h; split at h
    · cases h; exact max_ok _ _ _ _
    · cases h
  · intro ds d h; unfold sp71 at h; split at h
    · cases h; exact min_ok _ _ _ _
    · cases h
  · intro ds d h; unfold sp72 at h; split at h
    · cases h; exact nan_ok _
    · cases h

def cmpI (a b : Int) : Int := if a < b then -1 else if b < a then 1 else 0

theorem cmp_ok (a b : Int) : PureOK Try.prog 69 [iD a, iD b] (iD (cmpI a b)) := by
  refine ae_direct ev1_ok 6 (by kernel_rfl : tget aeF 69 = some Try.f69) ?_
  have e : pureE aeC ev1 6 69 Try.f69 [iD a, iD b] = bif decide (a < b) then some (iD (-1)) else bif decide (b < a) then some (iD 1) else some (iD 0) := by kernel_rfl
  rw [e, cmpI]
  by_cases h1 : a < b <;> by_cases h2 : b < a <;> simp [h1, h2]

theorem span_ok (a b : Int) (c nl : Bool) : PureOK Try.prog 60 [.sl [iD a, iD b] 2 1 c nl] (iD (IntKind.i64.wrap (max a b - min a b))) := by
  refine ae_direct ev1_ok 6 (by kernel_rfl : tget aeF 60 = some Try.f60) ?_
  kernel_rfl

def sp69 : List DV → Tr DV
  | [.int .i64 a, .int .i64 b] => .leaf (iD (cmpI a b))
  | _ => .fail
def sp60 : List DV → Tr DV
  | [.sl [.int .i64 a, .int .i64 b] 2 1 _ _] => .leaf (iD (IntKind.i64.wrap (max a b - min a b)))
  | _ => .fail
def ev2 : Ev := (ev1.add 69 sp69).add 60 sp60
theorem ev2_ok : EvOK Try.prog ev2 := by
  refine EvOK.add (EvOK.add ev1_ok ?_) ?_
  · intro ds d h; unfold sp69 at h; split at h
    · cases h; exact cmp_ok _ _
    · cases h
  · intro ds d h; unfold sp60 at h; split at h
    · cases h; exact span_ok _ _ _ _
    · cases h

/-- How two pairs compare. -/
def cmp2 (a b c d : Int) : Int := if cmpI a c = 0 then cmpI b d else cmpI a c

theorem compare_ok (a b c d : Int) (p q r s : Bool) : PureOK Try.prog 59 [.sl [iD a, iD b] 2 1 p q, .sl [iD c, iD d] 2 1 r s] (iD (cmp2 a b c d)) := by
  refine ae_direct ev2_ok 6 (by kernel_rfl : tget aeF 59 = some Try.f59) ?_
  have e : pureE aeC ev2 6 59 Try.f59 [.sl [iD a, iD b] 2 1 p q, .sl [iD c, iD d] 2 1 r s] =
      bif !decide (cmpI a c = 0) then some (iD (cmpI a c)) else bif !decide (cmpI b d = 0) then some (iD (cmpI b d)) else some (iD 0) := by kernel_rfl
  rw [e, cmp2]
  by_cases h1 : cmpI a c = 0 <;> by_cases h2 : cmpI b d = 0 <;> simp [h1, h2]

def sp59 : List DV → Tr DV
  | [.sl [.int .i64 a, .int .i64 b] 2 1 _ _, .sl [.int .i64 c, .int .i64 d] 2 1 _ _] => .leaf (iD (cmp2 a b c d))
  | _ => .fail
def ev3 : Ev := ev2.add 59 sp59
theorem ev3_ok : EvOK Try.prog ev3 := by
  refine EvOK.add ev2_ok ?_
  intro ds d h; unfold sp59 at h; split at h
  · cases h; exact compare_ok _ _ _ _ _ _ _ _
  · cases h
end Go.Proofs.Ytkcdbndpcabelaa

/- Chapter 02: a mark is added to a ruler. -/
namespace Go.Proofs.Ytkcdbndpcabelaa
open Go Go.AE

theorem nth_bools (l : List Bool) (i : Nat) : nth (bools l) i = (l[i]?).map bD := by
  unfold bools; rw [nth_map, nth_eq]

theorem length_bools (l : List Bool) : (bools l).length = l.length := by simp [bools]

theorem setNth_bools : ∀ (l : List Bool) (i : Nat) (b : Bool), setNth (bools l) i (bD b) = bools (l.set i b)
  | [], i, b => by simp [bools, setNth]
  | x :: l, 0, b => rfl
  | x :: l, i + 1, b => by
    show bD x :: setNth (bools l) i (bD b) = bD x :: bools (l.set i b)
    rw [setNth_bools l i b]

/-- How far two marks are apart. -/
def dist (a b : Int) : Nat := (max a b - min a b).toNat

/-- A mark's differences are taken; none: one of them was taken. -/
def addS : List Int → Int → List Bool → Option (List Bool)
  | [], _, ds => some ds
  | x :: r, m, ds => if ds[dist x m]? = some true then none else addS r m (ds.set (dist x m) true)

theorem addS_length : ∀ {ms : List Int} {m : Int} {ds ds' : List Bool}, addS ms m ds = some ds' → ds'.length = ds.length
  | [], _, _, _, h => by simp only [addS, Option.some.injEq] at h; rw [h]
  | x :: r, m, ds, ds', h => by
    simp only [addS] at h
    split at h
    · cases h
    · have := addS_length h; simpa using this

theorem len26 {l : List Bool} (h : l.length = 26) : ∃ b0 b1 b2 b3 b4 b5 b6 b7 b8 b9 b10 b11 b12 b13 b14 b15 b16 b17 b18 b19 b20 b21 b22 b23 b24 b25 : Bool,
    l = [b0, b1, b2, b3, b4, b5, b6, b7, b8, b9, b10, b11, b12, b13, b14, b15, b16, b17, b18, b19, b20, b21, b22, b23, b24, b25] := by
  match l, h with
  | [b0, b1, b2, b3, b4, b5, b6, b7, b8, b9, b10, b11, b12, b13, b14, b15, b16, b17, b18, b19, b20, b21, b22, b23, b24, b25], _ => exact ⟨_, _, _, _, _, _, _, _, _, _, _, _, _, _, _, _, _, _, _, _, _, _, _, _, _, _, rfl⟩

def diffsA (ds : List Bool) : List AV := (bools ds).map .d

def s62 (X : List DV) (ms : List Int) (A : List AV) (m : Int) (i : Int) (now : List Bool) : St :=
  ⟨[(0, .ref 2 0), (1, .d (iD m)), (5, .ref 3 0), (16, .grow 1 1 true), (17, .d (iD ms.length)), (18, .d (iD i))], [.dc X, .dc (ints ms), .ac A, .dc (bools now)], []⟩
def s62x (X : List DV) (ms : List Int) (A : List AV) (m : Int) (now : List Bool) : St :=
  ⟨[(0, .ref 2 0), (1, .d (iD m)), (5, .ref 3 0)], [.dc X, .dc (ints ms), .ac A, .dc (bools now)], []⟩
def s62r (X : List DV) (ms : List Int) (A : List AV) : St := ⟨[(4, .d (bD false))], [.dc X, .dc (ints ms), .ac A], []⟩

theorem k62 : OkSeg Try.f62 none [0] := ⟨by kernel_rfl, by kernel_rfl, by decide⟩
theorem k62_0 : OkSeg Try.f62 (some 0) [] := ⟨by kernel_rfl, by kernel_rfl, by decide⟩

theorem r62_0 (X : List DV) (ms : List Int) (ds : List Bool) (hd : ds.length = 26) (A : List AV) (hA : A = .grow 1 1 true :: diffsA ds) (m : Int) (i : Int) (now : List Bool) : startS aeC ev2 62 3 Try.f62 (some 0) (s62 X ms A m i now) (roundD aeC 62 3 0) =
  bif decide (i < ms.length) then
    bif inRange i (lenOf 1 (List.length (ints ms))) then
      Option.bind (nth (ints ms) (Int.toNat i * 1)) fun d => match d with
      | .int k n =>
        bif decide (k = IntKind.i64) then
          bif inRange (IntKind.wrap IntKind.i64 (max n m - min n m)) 26 then
            Option.bind (nth (bools now) (0 + Int.toNat (IntKind.wrap IntKind.i64 (max n m - min n m)) * 1)) fun d => match d with
            | .bool b =>
              bif b then some (.ret, s62r X ms A)
              else
                bif inRange (IntKind.wrap IntKind.i64 (max n m - min n m)) 26 then
                  bif Nat.ble (0 + Int.toNat (IntKind.wrap IntKind.i64 (max n m - min n m)) * 1 + 1) (List.length (bools now)) && true then
                    some (.norm, ⟨[(0, .ref 2 0), (1, .d (iD m)), (5, .ref 3 0), (16, .grow 1 1 true), (17, .d (iD ms.length)), (18, .d (iD (IntKind.wrap IntKind.i64 (i + 1))))],
                      [.dc X, .dc (ints ms), .ac A, .dc (setNth (bools now) (0 + Int.toNat (IntKind.wrap IntKind.i64 (max n m - min n m)) * 1) (bD true))], []⟩)
                  else none
                else none
            | _ => none
          else none
        else none
      | _ => none
    else none
  else some (.exit 0, s62x X ms A m now) := by
  subst hA
  obtain ⟨b0, b1, b2, b3, b4, b5, b6, b7, b8, b9, b10, b11, b12, b13, b14, b15, b16, b17, b18, b19, b20, b21, b22, b23, b24, b25, rfl⟩ := len26 hd
  kernel_rfl

/-- Marks that a ruler may have. -/
def markOK (x : Int) : Prop := 0 ≤ x ∧ x ≤ 25

theorem l62 (X : List DV) (ms : List Int) (ds : List Bool) (hd : ds.length = 26) (A : List AV) (hA : A = .grow 1 1 true :: diffsA ds) (m : Int) (hs : Small ms.length) (hm : markOK m) (hms : ∀ x ∈ ms, markOK x) (now : List Bool) (hn : now.length = 26) (s : St) (h : tidyP 3 (aeC.pol 62 0) s = some (s62 X ms A m 0 now)) :
    LoopR aeC ev2 62 3 Try.f62 0 s (match addS ms m now with | none => .ret | some _ => .exit 0) (match addS ms m now with | none => s62r X ms A | some ds => s62x X ms A m ds) := by
  have := loopR_ok (C := aeC) (E := ev2) (fid := 62) (base := 3) (fn := Try.f62) (t := 0) k62_0 (α := { p : Nat × List Bool // p.1 ≤ ms.length ∧ p.2.length = 26 }) (fun p => s62 X ms A m p.1.1 p.1.2) (fun p => ms.length - p.1.1)
    (fun p => (match addS (ms.drop p.1.1) m p.1.2 with | none => .ret | some _ => .exit 0, match addS (ms.drop p.1.1) m p.1.2 with | none => s62r X ms A | some ds => s62x X ms A m ds)) ?_ ⟨(0, now), by omega, hn⟩ s h
  · exact this
  rintro ⟨⟨i, now⟩, hi, hnow⟩
  simp only at hi hnow ⊢
  by_cases hlt : i < ms.length
  · have hx := hms ms[i] (List.getElem_mem hlt)
    have hnth : nth (ints ms) i = some (iD ms[i]) := by rw [nth_ints]; simp [hlt]
    have hdr : ms.drop i = ms[i] :: ms.drop (i + 1) := by rw [List.drop_eq_getElem_cons hlt]
    have e1 : decide ((i : Int) < (ms.length : Int)) = true := by simp; omega
    have e2 : inRange (i : Int) (lenOf 1 (List.length (ints ms))) = true := by simp [inRange, lenOf, length_ints]; omega
    have hb : 0 ≤ max ms[i] m - min ms[i] m ∧ max ms[i] m - min ms[i] m ≤ 25 := by
      obtain ⟨a1, a2⟩ := hx; obtain ⟨b1, b2⟩ := hm; omega
    have e3 : IntKind.i64.wrap (max ms[i] m - min ms[i] m) = max ms[i] m - min ms[i] m := wrap64 (by omega) (by omega)
    have e4 : inRange (max ms[i] m - min ms[i] m) 26 = true := by simp [inRange]; omega
    have hdlt : dist ms[i] m < now.length := by unfold dist; omega
    have e5 : nth (bools now) (dist ms[i] m) = some (bD now[dist ms[i] m]) := by rw [nth_bools]; simp [hdlt]
    have e6 : Nat.ble (dist ms[i] m + 1) (bools now).length = true := by rw [length_bools]; exact Nat.ble_eq_true_of_le hdlt
    have e7 : (0 + Int.toNat (max ms[i] m - min ms[i] m) * 1) = dist ms[i] m := by unfold dist; omega
    have hop : now[dist ms[i] m]? = some now[dist ms[i] m] := by simp [hdlt]
    have hstart := r62_0 X ms ds hd A hA m (i : Int) now
    rw [e1, e2, show Int.toNat (i : Int) * 1 = i by simp, hnth] at hstart
    simp only [cond_true, decide_true, Option.bind_some, e3, e4, e7, e5, e6, Bool.and_self] at hstart
    cases hbit : now[dist ms[i] m] with
    | true =>
      right
      have ha : addS (ms.drop i) m now = none := by rw [hdr]; simp only [addS, hop, hbit, if_true]
      rw [ha]
      refine ⟨by simp, startF_done k62_0 roundD_plain ?_⟩
      rw [hstart, hbit]; rfl
    | false =>
      left
      have ha : addS (ms.drop i) m now = addS (ms.drop (i + 1)) m (now.set (dist ms[i] m) true) := by rw [hdr]; simp only [addS, hop, hbit]; simp
      refine ⟨⟨(i + 1, now.set (dist ms[i] m) true), hlt, by simpa using hnow⟩, by simp; omega, startF_done k62_0 roundD_plain ?_, by simp only [ha]⟩
      rw [hstart, hbit, wrap64 (by omega) (by omega), setNth_bools]; rfl
  · right
    have hdr : ms.drop i = [] := List.drop_eq_nil_of_le (by omega)
    simp only [hdr, addS]
    refine ⟨by simp, startF_done k62_0 roundD_plain ?_⟩
    rw [r62_0 X ms ds hd A hA]
    have e1 : decide ((i : Int) < (ms.length : Int)) = false := by simp; omega
    simp only [e1, cond_false]

theorem add_ok (X : List DV) (ms : List Int) (m : Int) (hs : ms.length < 1048576) (hm : markOK m) (hms : ∀ x ∈ ms, markOK x) (ds : List Bool) (hd : ds.length = 26) :
    CallOK Try.prog 62 [.ref 2 0, .d (iD m)] [.dc X, .dc (ints ms), .ac (.grow 1 1 true :: diffsA ds)] (.d (bD (addS ms m ds).isSome))
      (match addS ms m ds with
        | none => [.dc X, .dc (ints ms), .ac (.grow 1 1 true :: diffsA ds)]
        | some ds' => [.dc X, .dead, .ac (.grow 3 1 true :: diffsA ds'), .dc (ints ms ++ [iD m])]) := by
  refine ae_call ev2_ok (fn := Try.f62) k62 (by kernel_rfl) (by kernel_rfl) ?_
  have e1 : startS aeC ev2 62 3 Try.f62 none ⟨envOf 0 [.ref 2 0, .d (iD m)], [.dc X, .dc (ints ms), .ac (.grow 1 1 true :: diffsA ds)], []⟩ (heldD aeC 62 3) = some (0, s62 X ms (.grow 1 1 true :: diffsA ds) m 0 ds) := by
    have : startS aeC ev2 62 3 Try.f62 none ⟨envOf 0 [.ref 2 0, .d (iD m)], [.dc X, .dc (ints ms), .ac (.grow 1 1 true :: diffsA ds)], []⟩ (heldD aeC 62 3) =
        some (0, ⟨[(0, .ref 2 0), (1, .d (iD m)), (5, .ref 3 0), (16, .grow 1 1 true), (17, .d (iD (lenOf 1 (ints ms).length))), (18, .d (iD 0))], [.dc X, .dc (ints ms), .ac (.grow 1 1 true :: diffsA ds), .dc (bools ds)], []⟩) := by
      obtain ⟨b0, b1, b2, b3, b4, b5, b6, b7, b8, b9, b10, b11, b12, b13, b14, b15, b16, b17, b18, b19, b20, b21, b22, b23, b24, b25, rfl⟩ := len26 hd
      kernel_rfl
    rw [this]
    simp [lenOf, length_ints, s62]
  have hlen : ([.dc X, .dc (ints ms), .ac (.grow 1 1 true :: diffsA ds)] : List Blk).length = 3 := rfl
  rw [hlen, (startF_at k62 e1 (l62 X ms ds hd _ rfl m (by unfold Small; omega) hm hms ds hd)).2]
  refine nextF_done k62 done_plain ?_
  cases ha : addS ms m ds with
  | none =>
    simp only [Option.isSome_none]
    obtain ⟨b0, b1, b2, b3, b4, b5, b6, b7, b8, b9, b10, b11, b12, b13, b14, b15, b16, b17, b18, b19, b20, b21, b22, b23, b24, b25, rfl⟩ := len26 hd
    kernel_rfl
  | some ds' =>
    simp only [Option.isSome_some]
    have hd' := (addS_length ha).trans hd
    have key : nextS aeC ev2 62 3 Try.f62 none 0 (.exit 0) (s62x X ms (.grow 1 1 true :: diffsA ds) m ds') (doneE aeC Try.f62 3 fun v h => some (v, h)) =
        bif Nat.ble (lenOf 1 (ints ms).length + 1) 1048576 then some (.d (bD true), [.dc X, .dead, .ac (.grow 3 1 true :: diffsA ds'), .dc (ints ms ++ [iD m])]) else none := by
      obtain ⟨b0, b1, b2, b3, b4, b5, b6, b7, b8, b9, b10, b11, b12, b13, b14, b15, b16, b17, b18, b19, b20, b21, b22, b23, b24, b25, rfl⟩ := len26 hd
      obtain ⟨c0, c1, c2, c3, c4, c5, c6, c7, c8, c9, c10, c11, c12, c13, c14, c15, c16, c17, c18, c19, c20, c21, c22, c23, c24, c25, rfl⟩ := len26 hd'
      kernel_rfl
    rw [key]
    have : Nat.ble (lenOf 1 (ints ms).length + 1) 1048576 = true := by
      refine Nat.ble_eq_true_of_le ?_; simp [lenOf, length_ints]; omega
    rw [this]; rfl
end Go.Proofs.Ytkcdbndpcabelaa

/- Chapter 02: rulers grow. -/
namespace Go.Proofs.Ytkcdbndpcabelaa
open Go Go.AE

def unA : List AV → List Bool
  | [] => []
  | .d (.bool b) :: r => b :: unA r
  | _ :: r => false :: unA r
def isA : List AV → Bool
  | [] => true
  | .d (.bool _) :: r => isA r
  | _ => false

theorem unA_diffs : ∀ l : List Bool, unA (diffsA l) = l
  | [] => rfl
  | x :: l => by show x :: unA (diffsA l) = _; rw [unA_diffs l]
theorem isA_diffs : ∀ l : List Bool, isA (diffsA l) = true
  | [] => rfl
  | _ :: l => isA_diffs l
theorem diffs_unA : ∀ {xs : List AV}, isA xs = true → diffsA (unA xs) = xs
  | [], _ => rfl
  | x :: xs, h => by
    unfold isA at h
    split at h
    · rename_i e; cases e
    · rename_i e
      cases e
      show AV.d (bD _) :: diffsA (unA xs) = _
      rw [diffs_unA h]
    · cases h

/-- 26 truth values, one by one. -/
def expl (f : Nat → Bool) : List AV := [.d (.bool (f 0)), .d (.bool (f 1)), .d (.bool (f 2)), .d (.bool (f 3)), .d (.bool (f 4)), .d (.bool (f 5)), .d (.bool (f 6)), .d (.bool (f 7)), .d (.bool (f 8)), .d (.bool (f 9)), .d (.bool (f 10)), .d (.bool (f 11)), .d (.bool (f 12)),
  .d (.bool (f 13)), .d (.bool (f 14)), .d (.bool (f 15)), .d (.bool (f 16)), .d (.bool (f 17)), .d (.bool (f 18)), .d (.bool (f 19)), .d (.bool (f 20)), .d (.bool (f 21)), .d (.bool (f 22)), .d (.bool (f 23)), .d (.bool (f 24)), .d (.bool (f 25))]

theorem expl_eq {l : List Bool} (h : l.length = 26) : expl (fun i => l.getD i false) = diffsA l := by
  obtain ⟨b0, b1, b2, b3, b4, b5, b6, b7, b8, b9, b10, b11, b12, b13, b14, b15, b16, b17, b18, b19, b20, b21, b22, b23, b24, b25, rfl⟩ := len26 h
  rfl

def okM (x : Int) : Bool := decide (0 ≤ x) && decide (x ≤ 25)
theorem okM_iff {x : Int} : okM x = true ↔ markOK x := by simp [okM, markOK]

/-- A copy of a row of data. -/
def sp53 : List AV → List Blk → Tr (AV × List Blk)
  | [.d (.sl cs n 1 _ false)], [.dead] => .node (Nat.ble n 1048576) (.leaf (.grow 1 1 true, [.dead, .dc cs])) .fail
  | _, _ => .fail

theorem clone_ok (cs : List DV) (n : Nat) (c : Bool) (h : n ≤ 1048576) : CallOK Try.prog 53 [.d (.sl cs n 1 c false)] [.dead] (.grow 1 1 true) [.dead, .dc cs] := by
  refine ae_directF EvOK.nil 6 (by kernel_rfl : tget aeF 53 = some Try.f53) ?_
  have e : bodyE aeC Ev.nil 6 53 Try.f53 [.d (.sl cs n 1 c false)] [.dead] (fun v h' => some (v, h')) = bif Nat.ble (0 + n) 1048576 then some (.grow 1 1 true, [.dead, .dc cs]) else none := by kernel_rfl
  rw [e, show 0 + n = n by omega, Nat.ble_eq_true_of_le h]; rfl

def ok62 (cs : List DV) (m : Int) (A : List AV) : Bool := isI cs && (Nat.blt cs.length 1048576 && (okM m && ((unI cs).all okM && (isA A && Nat.beq A.length 26))))
def ad62 (cs : List DV) (m : Int) (A : List AV) : Option (List Bool) := addS (unI cs) m (unA A)

/-- A mark is added. -/
def sp62 : List AV → List Blk → Tr (AV × List Blk)
  | [.ref 2 0, .d (.int .i64 m)], [.dc X, .dc cs, .ac (.grow 1 1 true :: A)] =>
    .node (ok62 cs m A) (.node (ad62 cs m A).isSome
      (.leaf (.d (bD true), [.dc X, .dead, .ac (.grow 3 1 true :: expl fun i => ((ad62 cs m A).getD []).getD i false), .dc (cs ++ [iD m])]))
      (.leaf (.d (bD false), [.dc X, .dc cs, .ac (.grow 1 1 true :: A)]))) .fail
  | _, _ => .fail

theorem length_diffs (l : List Bool) : (diffsA l).length = l.length := by simp [diffsA, length_bools]

theorem sp53_ok : ∀ xs h v h', (sp53 xs h).val = some (v, h') → CallOK Try.prog 53 xs h v h' := by
  intro xs h v h' e
  unfold sp53 at e
  split at e
  · simp only [Tr.val] at e
    obtain ⟨e1, e2⟩ := cond_none e
    cases e2
    exact clone_ok _ _ _ (Nat.le_of_ble_eq_true e1)
  · cases e

theorem sp62_ok : ∀ xs h v h', (sp62 xs h).val = some (v, h') → CallOK Try.prog 62 xs h v h' := by
  intro xs h v h' e
  unfold sp62 at e
  split at e
  · rename_i m X cs A
    simp only [Tr.val] at e
    obtain ⟨hg, e⟩ := cond_none e
    simp only [ok62, Bool.and_eq_true, List.all_eq_true, Nat.blt_eq, okM_iff] at hg
    obtain ⟨g1, g2, g3, g4, g5, g6⟩ := hg
    have g6 := Nat.eq_of_beq_eq_true g6
    have hc := ints_unI g1
    have hA := diffs_unA g5
    have hlen : (unI cs).length = cs.length := by have := congrArg List.length hc; rwa [length_ints] at this
    have hlenA : (unA A).length = 26 := by have := congrArg List.length hA; rw [length_diffs] at this; omega
    have main := add_ok X (unI cs) m (by omega) g3 g4 (unA A) hlenA
    rw [hc, hA] at main
    unfold ad62 at e
    cases ha : addS (unI cs) m (unA A) with
    | none =>
      rw [ha] at e main
      simp only [Option.isSome_none, cond_false, Option.some.injEq, Prod.mk.injEq] at e
      obtain ⟨rfl, rfl⟩ := e
      exact main
    | some ds' =>
      rw [ha] at e main
      simp only [Option.isSome_some, cond_true, Option.getD_some, Option.some.injEq, Prod.mk.injEq] at e
      obtain ⟨rfl, rfl⟩ := e
      rw [expl_eq ((addS_length ha).trans hlenA)]
      exact main
  · cases e

def ev4 : Ev := (ev3.addFn 53 sp53).addFn 62 sp62
theorem ev4_ok : EvOK Try.prog ev4 := EvOK.addFn (EvOK.addFn ev3_ok sp53_ok) sp62_ok
end Go.Proofs.Ytkcdbndpcabelaa

/- Chapter 02: the first ruler that begins with another one. -/
namespace Go.Proofs.Ytkcdbndpcabelaa
open Go Go.AE

/-- What is told of a result whose capacity is known is told of it without. -/
theorem PureOK.opened {f : FuncId} {ds cs : List DV} {n sz : Nat} {c nl : Bool} (h : PureOK Try.prog f ds (.sl cs n sz c nl)) : PureOK Try.prog f ds (.sl cs n sz false nl) := by
  refine ⟨h.1, fun w G vs hG hg q => Calls.mono (h.2 w G vs hG hg q) ?_⟩
  rintro e w' ⟨v, rfl, h1, h2⟩
  refine ⟨v, rfl, h1, ?_⟩
  simp only [DRel] at h2 ⊢
  refine ⟨h2.1, ?_⟩
  cases nl with
  | true => exact h2.2
  | false =>
    obtain ⟨b, off, cap, sp, e1, e2, e3, e4⟩ := h2.2
    exact ⟨b, off, cap, sp, e1, e2, by simp, e4⟩

/-- The marks 26 - k and more are tried, one after the other. -/
def scanS (next : List Int → List Bool → Option (List Int)) (ms : List Int) (ds : List Bool) (limit : Int) : Nat → Option (List Int)
  | 0 => none
  | k + 1 => if (25 - k : Int) ≤ limit then (match addS ms (25 - k) ds with
      | none => scanS next ms ds limit k
      | some ds' => match next (ms ++ [(25 - k : Int)]) ds' with
        | some o => some o
        | none => scanS next ms ds limit k) else none

def lastI (ms : List Int) : Int := ms.getLastD 0

/-- The first ruler with so many marks that begins with another one. -/
def growS (many limit : Int) : Nat → List Int → List Bool → Option (List Int)
  | 0, ms, _ => if (ms.length : Int) = many then some ms else none
  | f + 1, ms, ds => if (ms.length : Int) = many then some ms else scanS (growS many limit f) ms ds limit (25 - lastI ms).toNat

def okG (f : Nat) (cs : List DV) (n : Nat) (D : List DV) (limit : Int) : Bool :=
  Nat.blt 0 f && (isI cs && (Nat.beq cs.length n && (isB D && (Nat.beq D.length 26 && ((unI cs).all okM && (Nat.blt 0 n && (decide (limit ≤ 25) && (decide (limit < lastI (unI cs) + f) && Nat.blt (n + f) 1048576))))))))

def outG (f : Nat) (cs D : List DV) (many limit : Int) : Option (List Int) := growS many limit f (unI cs) (unB D)

def sp50 (f : Nat) : List DV → Tr DV
  | [.agg (.sl cs n 1 _ false :: D), .int .i64 many, .int .i64 limit] => .node (okG f cs n D limit) (.node (outG f cs D many limit).isSome
      (.leaf (.sl (ints ((outG f cs D many limit).getD [])) ((outG f cs D many limit).getD []).length 1 false false)) (.leaf (.sl [] 0 0 false true))) .fail
  | _ => .fail

def explD (f : Nat → Bool) : List DV := [.bool (f 0), .bool (f 1), .bool (f 2), .bool (f 3), .bool (f 4), .bool (f 5), .bool (f 6), .bool (f 7), .bool (f 8), .bool (f 9), .bool (f 10), .bool (f 11), .bool (f 12),
  .bool (f 13), .bool (f 14), .bool (f 15), .bool (f 16), .bool (f 17), .bool (f 18), .bool (f 19), .bool (f 20), .bool (f 21), .bool (f 22), .bool (f 23), .bool (f 24), .bool (f 25)]

theorem explD_eq {l : List Bool} (h : l.length = 26) : explD (fun i => l.getD i false) = bools l := by
  obtain ⟨b0, b1, b2, b3, b4, b5, b6, b7, b8, b9, b10, b11, b12, b13, b14, b15, b16, b17, b18, b19, b20, b21, b22, b23, b24, b25, rfl⟩ := len26 h
  rfl

def ev5 (f : Nat) : Ev := ev4.add 50 (sp50 f)

def s50 (cs : List DV) (n : Nat) (c : Bool) (D : List DV) (many limit m : Int) : St := ⟨[(1, .d (iD many)), (2, .d (iD limit)), (3, .ref 0 0), (7, .d (iD m))], [.dc (.sl cs n 1 c false :: D)], []⟩

theorem k50 : OkSeg Try.f50 none [0] := ⟨by kernel_rfl, by kernel_rfl, by decide⟩
theorem k50_0 : OkSeg Try.f50 (some 0) [] := ⟨by kernel_rfl, by kernel_rfl, by decide⟩

theorem r50_0 (f : Nat) (cs : List DV) (n : Nat) (c : Bool) (ds : List Bool) (hd : ds.length = 26) (many limit m : Int) : startS aeC (ev5 f) 50 0 Try.f50 (some 0) (s50 cs n c (bools ds) many limit m) (roundD aeC 50 0 0) =
  bif decide (m ≤ limit) then
    bif Nat.ble n 1048576 then
      bif ok62 cs m (diffsA ds) then
        bif (ad62 cs m (diffsA ds)).isSome then
          bif okG f (cs ++ [iD m]) (lenOf 1 (cs ++ [iD m]).length) (explD fun i => ((ad62 cs m (diffsA ds)).getD []).getD i false) limit then
            bif (outG f (cs ++ [iD m]) (explD fun i => ((ad62 cs m (diffsA ds)).getD []).getD i false) many limit).isSome then
              some (.ret, ⟨[(6, .d (.sl (ints ((outG f (cs ++ [iD m]) (explD fun i => ((ad62 cs m (diffsA ds)).getD []).getD i false) many limit).getD []))
                ((outG f (cs ++ [iD m]) (explD fun i => ((ad62 cs m (diffsA ds)).getD []).getD i false) many limit).getD []).length 1 false false))], [], []⟩)
            else some (.norm, s50 cs n c (bools ds) many limit (IntKind.wrap IntKind.i64 (m + 1)))
          else none
        else some (.norm, s50 cs n c (bools ds) many limit (IntKind.wrap IntKind.i64 (m + 1)))
      else none
    else none
  else some (.exit 0, ⟨[], [], []⟩) := by
  obtain ⟨b0, b1, b2, b3, b4, b5, b6, b7, b8, b9, b10, b11, b12, b13, b14, b15, b16, b17, b18, b19, b20, b21, b22, b23, b24, b25, rfl⟩ := len26 hd
  kernel_rfl

theorem ints_append (a b : List Int) : ints (a ++ b) = ints a ++ ints b := by simp [ints]

theorem lastI_append (ms : List Int) (m : Int) : lastI (ms ++ [m]) = m := by simp [lastI]

theorem l50 (f : Nat) (ms : List Int) (c : Bool) (ds : List Bool) (hd : ds.length = 26) (many limit : Int) (hms : ∀ x ∈ ms, markOK x) (hl : limit ≤ 25) (hf : limit < lastI ms + (f + 1)) (hb : ms.length + (f + 1) < 1048576) (h0 : 0 ≤ lastI ms) (s : St) (k : Nat) (hk : (k : Int) ≤ 25 - lastI ms)
    (h : tidyP 0 (aeC.pol 50 0) s = some (s50 (ints ms) ms.length c (bools ds) many limit (26 - k))) :
    LoopR aeC (ev5 f) 50 0 Try.f50 0 s (match scanS (growS many limit f) ms ds limit k with | none => .exit 0 | some _ => .ret)
      (match scanS (growS many limit f) ms ds limit k with | none => ⟨[], [], []⟩ | some o => ⟨[(6, .d (.sl (ints o) o.length 1 false false))], [], []⟩) := by
  have := loopR_ok (C := aeC) (E := ev5 f) (fid := 50) (base := 0) (fn := Try.f50) (t := 0) k50_0 (α := { k : Nat // (k : Int) ≤ 25 - lastI ms }) (fun k => s50 (ints ms) ms.length c (bools ds) many limit (26 - k.1)) (fun k => k.1)
    (fun k => (match scanS (growS many limit f) ms ds limit k.1 with | none => .exit 0 | some _ => .ret,
      match scanS (growS many limit f) ms ds limit k.1 with | none => ⟨[], [], []⟩ | some o => ⟨[(6, .d (.sl (ints o) o.length 1 false false))], [], []⟩)) ?_ ⟨k, hk⟩ s h
  · exact this
  rintro ⟨k, hk⟩
  simp only at hk ⊢
  cases k with
  | zero =>
    right
    simp only [scanS]
    refine ⟨by simp, startF_done k50_0 roundD_plain ?_⟩
    rw [r50_0 f _ _ _ ds hd]
    have e1 : decide ((26 - ((0 : Nat) : Int)) ≤ limit) = false := by simp; omega
    rw [e1]; rfl
  | succ k =>
    have em : (26 - ((k + 1 : Nat) : Int)) = 25 - k := by omega
    rw [em]
    by_cases hlim : (25 - k : Int) ≤ limit
    · have e1 : decide ((25 - k : Int) ≤ limit) = true := by simpa using hlim
      have hm : markOK (25 - k) := ⟨by omega, by omega⟩
      have e2 : Nat.ble ms.length 1048576 = true := Nat.ble_eq_true_of_le (by omega)
      have e3 : ok62 (ints ms) (25 - k) (diffsA ds) = true := by
        simp only [ok62, isI_ints, length_ints, unI_ints, isA_diffs, length_diffs, hd, Nat.beq_refl, Bool.true_and, Bool.and_true, Bool.and_eq_true, List.all_eq_true, okM_iff, Nat.blt_eq]
        exact ⟨by omega, hm, hms⟩
      have e4 : ad62 (ints ms) (25 - k) (diffsA ds) = addS ms (25 - k) ds := by simp only [ad62, unI_ints, unA_diffs]
      have hr := r50_0 f (ints ms) ms.length c ds hd many limit (25 - k)
      rw [e1, e2, e3, e4, wrap64 (by omega) (by omega), show (25 - (k : Int) + 1) = 26 - k by omega] at hr
      simp only [cond_true] at hr
      have again : scanS (growS many limit f) ms ds limit (k + 1) = scanS (growS many limit f) ms ds limit k → startS aeC (ev5 f) 50 0 Try.f50 (some 0) (s50 (ints ms) ms.length c (bools ds) many limit (25 - k)) (roundD aeC 50 0 0) = some (.norm, s50 (ints ms) ms.length c (bools ds) many limit (26 - k)) →
          (∃ x' : { k : Nat // (k : Int) ≤ 25 - lastI ms }, x'.1 < k + 1 ∧ startF aeC (ev5 f) 50 0 Try.f50 (some 0) (s50 (ints ms) ms.length c (bools ds) many limit (25 - k)) (roundD aeC 50 0 0) = some (.norm, s50 (ints ms) ms.length c (bools ds) many limit (26 - x'.1)) ∧
            ((match scanS (growS many limit f) ms ds limit x'.1 with | none => Ex.exit 0 | some _ => .ret, match scanS (growS many limit f) ms ds limit x'.1 with | none => (⟨[], [], []⟩ : St) | some o => ⟨[(6, .d (.sl (ints o) o.length 1 false false))], [], []⟩)) =
            ((match scanS (growS many limit f) ms ds limit (k + 1) with | none => Ex.exit 0 | some _ => .ret, match scanS (growS many limit f) ms ds limit (k + 1) with | none => (⟨[], [], []⟩ : St) | some o => ⟨[(6, .d (.sl (ints o) o.length 1 false false))], [], []⟩))) := by
        intro h1 h2
        exact ⟨⟨k, by omega⟩, by simp, startF_done k50_0 roundD_plain h2, by rw [h1]⟩
      cases ha : addS ms (25 - k) ds with
      | none =>
        left
        rw [ha] at hr
        simp only [Option.isSome_none, cond_false] at hr
        exact again (by simp only [scanS, hlim, if_true, ha]) hr
      | some ds' =>
        have hd' := (addS_length ha).trans hd
        rw [ha] at hr
        simp only [Option.isSome_some, cond_true, Option.getD_some] at hr
        rw [explD_eq hd', show ints ms ++ [iD (25 - k)] = ints (ms ++ [(25 - k : Int)]) by rw [ints_append]; rfl] at hr
        have e5 : okG f (ints (ms ++ [25 - (k : Int)])) (lenOf 1 (ints (ms ++ [25 - (k : Int)])).length) (bools ds') limit = true := by
          simp only [okG, isI_ints, isB_bools, length_bools, unI_ints, hd', Nat.beq_refl, lenOf, length_ints, Bool.true_and, Bool.and_eq_true, List.all_eq_true, okM_iff, Nat.blt_eq, decide_eq_true_eq, lastI_append]
          refine ⟨by omega, ?_, by simp, hl, by omega, by simp; omega⟩
          intro x hx
          rcases List.mem_append.1 hx with hx | hx
          · exact hms x hx
          · simp at hx; subst hx; exact hm
        have e6 : outG f (ints (ms ++ [25 - (k : Int)])) (bools ds') many limit = growS many limit f (ms ++ [25 - (k : Int)]) ds' := by simp only [outG, unI_ints, unB_bools]
        rw [e5, e6] at hr
        simp only [cond_true] at hr
        cases hg : growS many limit f (ms ++ [25 - (k : Int)]) ds' with
        | none =>
          left
          rw [hg] at hr
          simp only [Option.isSome_none, cond_false] at hr
          exact again (by simp only [scanS, hlim, if_true, ha, hg]) hr
        | some o =>
          right
          rw [hg] at hr
          simp only [Option.isSome_some, cond_true, Option.getD_some] at hr
          have hsc : scanS (growS many limit f) ms ds limit (k + 1) = some o := by simp only [scanS, hlim, if_true, ha, hg]
          rw [hsc]
          exact ⟨by simp, startF_done k50_0 roundD_plain hr⟩
    · right
      have hsc : scanS (growS many limit f) ms ds limit (k + 1) = none := by simp only [scanS, hlim, if_false]
      rw [hsc]
      refine ⟨by simp, startF_done k50_0 roundD_plain ?_⟩
      rw [r50_0 f _ _ _ ds hd]
      have e1 : decide ((25 - k : Int) ≤ limit) = false := by simpa using hlim
      rw [e1]; rfl

def nilS1 : DV := .sl [] 0 0 false true
def optR : Option (List Int) → DV
  | none => nilS1
  | some o => .sl (ints o) o.length 1 false false

theorem grown_ok (f : Nat) (hE : EvOK Try.prog (ev5 f)) (ms : List Int) (c : Bool) (ds : List Bool) (hd : ds.length = 26) (many limit : Int) (hms : ∀ x ∈ ms, markOK x) (h1 : 0 < ms.length) (hl : limit ≤ 25) (hf : limit < lastI ms + (f + 1)) (hb : ms.length + (f + 1) < 1048576) :
    PureOK Try.prog 50 [.agg (.sl (ints ms) ms.length 1 c false :: bools ds), iD many, iD limit] (optR (growS many limit (f + 1) ms ds)) := by
  have hlast : lastI ms = ms[ms.length - 1] := by
    unfold lastI
    rw [List.getLastD_eq_getLast?, List.getLast?_eq_getElem?, List.getElem?_eq_getElem (by omega)]
    rfl
  have hmk : markOK (lastI ms) := by rw [hlast]; exact hms _ (List.getElem_mem _)
  by_cases hm : (ms.length : Int) = many
  · have : growS many limit (f + 1) ms ds = some ms := by simp only [growS, hm, if_true]
    rw [this]
    refine PureOK.opened (c := c) (ae_pure hE (fn := Try.f50) k50 (by kernel_rfl) (by kernel_rfl) (startF_done k50 done_plain ?_))
    have e : startS aeC (ev5 f) 50 0 Try.f50 none ⟨envOf 0 ([.agg (.sl (ints ms) ms.length 1 c false :: bools ds), iD many, iD limit].map .d), [], []⟩ (doneE aeC Try.f50 0 fun v h => freezeV h 4 v) =
        bif decide ((ms.length : Int) = many) then some (.sl (ints ms) ms.length 1 c false) else
          bif inRange (IntKind.wrap IntKind.i64 ((ms.length : Int) - 1)) ms.length then
            Option.bind (nth (ints ms) (Int.toNat (IntKind.wrap IntKind.i64 ((ms.length : Int) - 1)) * 1)) fun d => match d with
              | .int k _ => bif decide (k = IntKind.i64) then none else none
              | _ => none
          else none := by
      obtain ⟨b0, b1, b2, b3, b4, b5, b6, b7, b8, b9, b10, b11, b12, b13, b14, b15, b16, b17, b18, b19, b20, b21, b22, b23, b24, b25, rfl⟩ := len26 hd
      kernel_rfl
    rw [e, hm]; simp
  · have hg : growS many limit (f + 1) ms ds = scanS (growS many limit f) ms ds limit (25 - lastI ms).toNat := by simp only [growS, hm, if_false]
    rw [hg]
    refine ae_pure hE (fn := Try.f50) k50 (by kernel_rfl) (by kernel_rfl) ?_
    have e : startS aeC (ev5 f) 50 0 Try.f50 none ⟨envOf 0 ([.agg (.sl (ints ms) ms.length 1 c false :: bools ds), iD many, iD limit].map .d), [], []⟩ (heldD aeC 50 0) =
        bif decide ((ms.length : Int) = many) then none else
          bif inRange (IntKind.wrap IntKind.i64 ((ms.length : Int) - 1)) ms.length then
            Option.bind (nth (ints ms) (Int.toNat (IntKind.wrap IntKind.i64 ((ms.length : Int) - 1)) * 1)) fun d => match d with
              | .int k n => bif decide (k = IntKind.i64) then some (0, s50 (ints ms) ms.length c (bools ds) many limit (IntKind.wrap IntKind.i64 (n + 1))) else none
              | _ => none
          else none := by
      obtain ⟨b0, b1, b2, b3, b4, b5, b6, b7, b8, b9, b10, b11, b12, b13, b14, b15, b16, b17, b18, b19, b20, b21, b22, b23, b24, b25, rfl⟩ := len26 hd
      kernel_rfl
    have e1 : decide ((ms.length : Int) = many) = false := by simpa using hm
    have e2 : IntKind.wrap IntKind.i64 ((ms.length : Int) - 1) = ((ms.length - 1 : Nat) : Int) := by rw [wrap64 (by omega) (by omega)]; omega
    have e3 : nth (ints ms) (ms.length - 1) = some (iD (lastI ms)) := by rw [nth_ints, hlast]; simp
    have e4 : inRange ((ms.length - 1 : Nat) : Int) ms.length = true := by simp [inRange]; omega
    obtain ⟨m1, m2⟩ := hmk
    rw [e1, e2, e4, Int.toNat_natCast, Nat.mul_one, e3] at e
    simp only [cond_false, cond_true, Option.bind_some, decide_true] at e
    rw [wrap64 (by omega) (by omega)] at e
    have ek : (lastI ms + 1) = 26 - (((25 - lastI ms).toNat : Nat) : Int) := by omega
    rw [ek] at e
    rw [(startF_at k50 e (fun s hs => l50 f ms c ds hd many limit hms hl hf hb m1 s _ (by omega) hs)).2]
    refine nextF_done k50 done_plain ?_
    cases scanS (growS many limit f) ms ds limit (25 - lastI ms).toNat with
    | none => kernel_rfl
    | some o => kernel_rfl

theorem sp50_ok : ∀ f, ∀ ds d, (sp50 f ds).val = some d → PureOK Try.prog 50 ds d
  | 0, ds, d, h => by
    unfold sp50 at h
    split at h
    · simp only [Tr.val] at h
      obtain ⟨hg, _⟩ := cond_none h
      simp [okG] at hg
    · cases h
  | f + 1, ds, d, h => by
    have hE : EvOK Try.prog (ev5 f) := EvOK.add ev4_ok (sp50_ok f)
    unfold sp50 at h
    split at h
    · rename_i cs n c D many limit
      simp only [Tr.val] at h
      obtain ⟨hg, h⟩ := cond_none h
      simp only [okG, Bool.and_eq_true, List.all_eq_true, Nat.blt_eq, okM_iff, decide_eq_true_eq] at hg
      obtain ⟨_, g2, g3, g4, g5, g6, g7, g8, g9, g10⟩ := hg
      have g3 := Nat.eq_of_beq_eq_true g3
      have g5 := Nat.eq_of_beq_eq_true g5
      have hc := ints_unI g2
      have hD := bools_unB g4
      have hlen : (unI cs).length = n := by have := congrArg List.length hc; rw [length_ints] at this; omega
      have hlenD : (unB D).length = 26 := by have := congrArg List.length hD; rw [length_bools] at this; omega
      have main := grown_ok f hE (unI cs) c (unB D) hlenD many limit g6 (by omega) g8 (by omega) (by omega)
      rw [hc, hD, hlen] at main
      unfold outG at h
      cases hgr : growS many limit (f + 1) (unI cs) (unB D) with
      | none =>
        rw [hgr] at h main
        simp only [Option.isSome_none, cond_false, Option.some.injEq] at h
        subst h; exact main
      | some o =>
        rw [hgr] at h main
        simp only [Option.isSome_some, cond_true, Option.getD_some, Option.some.injEq] at h
        subst h; exact main
    · cases h
end Go.Proofs.Ytkcdbndpcabelaa

/- Chapter 02: the first of the shortest rulers. -/
namespace Go.Proofs.Ytkcdbndpcabelaa
open Go Go.AE

def noDiffs : List Bool := List.replicate 26 false

/-- The limits 26 - k and more are tried, one after the other. -/
def rulerS (many : Int) : Nat → Option (List Int)
  | 0 => none
  | k + 1 => match growS many (25 - k) 26 [0] noDiffs with
    | some o => some o
    | none => rulerS many k

def s21 (many i : Int) : St := ⟨[(0, .d (iD many)), (12, .d (iD i))], [], []⟩

theorem k21 : OkSeg Try.f21 none [0] := ⟨by kernel_rfl, by kernel_rfl, by decide⟩
theorem k21_0 : OkSeg Try.f21 (some 0) [] := ⟨by kernel_rfl, by kernel_rfl, by decide⟩

theorem ev5_ok (f : Nat) : EvOK Try.prog (ev5 f) := EvOK.add ev4_ok (sp50_ok f)

theorem r21_0 (many i : Int) : startS aeC (ev5 26) 21 0 Try.f21 (some 0) (s21 many i) (roundD aeC 21 0 0) =
  bif decide (i < 26) then
    bif okG 26 (ints [0]) 1 (bools noDiffs) i then
      bif (outG 26 (ints [0]) (bools noDiffs) many i).isSome then
        some (.ret, ⟨[(2, .d (.sl (ints ((outG 26 (ints [0]) (bools noDiffs) many i).getD [])) ((outG 26 (ints [0]) (bools noDiffs) many i).getD []).length 1 false false)), (3, .d (iD 0))], [], []⟩)
      else some (.norm, s21 many (IntKind.wrap IntKind.i64 (i + 1)))
    else none
  else some (.exit 0, ⟨[], [], []⟩) := by kernel_rfl

theorem l21 (many : Int) (s : St) (h : tidyP 0 (aeC.pol 21 0) s = some (s21 many 0)) :
    LoopR aeC (ev5 26) 21 0 Try.f21 0 s (match rulerS many 26 with | none => .exit 0 | some _ => .ret)
      (match rulerS many 26 with | none => ⟨[], [], []⟩ | some o => ⟨[(2, .d (.sl (ints o) o.length 1 false false)), (3, .d (iD 0))], [], []⟩) := by
  have := loopR_ok (C := aeC) (E := ev5 26) (fid := 21) (base := 0) (fn := Try.f21) (t := 0) k21_0 (α := { k : Nat // k ≤ 26 }) (fun k => s21 many (26 - k.1)) (fun k => k.1)
    (fun k => (match rulerS many k.1 with | none => .exit 0 | some _ => .ret, match rulerS many k.1 with | none => ⟨[], [], []⟩ | some o => ⟨[(2, .d (.sl (ints o) o.length 1 false false)), (3, .d (iD 0))], [], []⟩)) ?_ ⟨26, by omega⟩ s h
  · exact this
  rintro ⟨k, hk⟩
  simp only at hk ⊢
  cases k with
  | zero =>
    right
    simp only [rulerS]
    refine ⟨by simp, startF_done k21_0 roundD_plain ?_⟩
    rw [r21_0]; rfl
  | succ k =>
    have em : (26 - ((k + 1 : Nat) : Int)) = 25 - k := by omega
    rw [em]
    have hr := r21_0 many (25 - k)
    have e1 : decide ((25 - k : Int) < 26) = true := by simp; omega
    have e2 : okG 26 (ints [0]) 1 (bools noDiffs) (25 - k) = true := by
      have : decide ((25 - k : Int) ≤ 25) = true := by simp; omega
      have h2 : decide ((25 - k : Int) < lastI (unI (ints [0])) + (26 : Nat)) = true := by simp [unI_ints, lastI]; omega
      simp only [okG, this, h2]
      decide
    have e3 : outG 26 (ints [0]) (bools noDiffs) many (25 - k) = growS many (25 - k) 26 [0] noDiffs := by simp only [outG, unI_ints, unB_bools]
    rw [e1, e2, e3, wrap64 (by omega) (by omega), show (25 - (k : Int) + 1) = 26 - k by omega] at hr
    simp only [cond_true] at hr
    cases hg : growS many (25 - k) 26 [0] noDiffs with
    | none =>
      left
      rw [hg] at hr
      simp only [Option.isSome_none, cond_false] at hr
      exact ⟨⟨k, by omega⟩, by simp, startF_done k21_0 roundD_plain hr, by simp only [rulerS, hg]⟩
    | some o =>
      right
      rw [hg] at hr
      simp only [Option.isSome_some, cond_true, Option.getD_some] at hr
      have hsc : rulerS many (k + 1) = some o := by simp only [rulerS, hg]
      rw [hsc]
      exact ⟨by simp, startF_done k21_0 roundD_plain hr⟩

def rulerR (many : Int) : DV :=
  if many < 2 ∨ 7 < many then .tup [nilS1, iD 1] else match rulerS many 26 with
    | none => .tup [nilS1, iD 4]
    | some o => .tup [.sl (ints o) o.length 1 false false, iD 0]

theorem ruler_ok (many : Int) : PureOK Try.prog 21 [iD many] (rulerR many) := by
  refine ae_pure (ev5_ok 26) (fn := Try.f21) k21 (by kernel_rfl) (by kernel_rfl) ?_
  have e : startS aeC (ev5 26) 21 0 Try.f21 none ⟨envOf 0 ([iD many].map .d), [], []⟩ (doneE aeC Try.f21 0 fun v h => freezeV h 4 v) =
      bif decide (many < 2) then some (.tup [nilS1, iD 1]) else bif decide (7 < many) then some (.tup [nilS1, iD 1]) else none := by kernel_rfl
  have e' : startS aeC (ev5 26) 21 0 Try.f21 none ⟨envOf 0 ([iD many].map .d), [], []⟩ (heldD aeC 21 0) =
      bif decide (many < 2) then none else bif decide (7 < many) then none else some (0, s21 many 0) := by kernel_rfl
  unfold rulerR
  by_cases h1 : many < 2
  · refine startF_done k21 done_plain ?_
    rw [e]; simp [h1]
  · by_cases h2 : 7 < many
    · refine startF_done k21 done_plain ?_
      rw [e]; simp [h1, h2]
    · simp only [h1, h2, or_self, if_false]
      rw [(startF_at k21 (by rw [e']; simp [h1, h2]) (l21 many)).2]
      refine nextF_done k21 done_plain ?_
      cases rulerS many 26 with
      | none => kernel_rfl
      | some o => kernel_rfl

end Go.Proofs.Ytkcdbndpcabelaa

/- Chapter 02: rulers that have begun. -/
namespace Go.Proofs.Ytkcdbndpcabelaa
open Go Go.AE

def bs62 (ms : List Int) (A : List AV) (m : Int) (i : Int) (now : List Bool) : St :=
  ⟨[(0, .ref 0 0), (1, .d (iD m)), (5, .ref 2 0), (16, .grow 1 1 false), (17, .d (iD ms.length)), (18, .d (iD i))], [.ac A, .dc (ints ms), .dc (bools now)], []⟩
def bs62x (ms : List Int) (A : List AV) (m : Int) (now : List Bool) : St :=
  ⟨[(0, .ref 0 0), (1, .d (iD m)), (5, .ref 2 0)], [.ac A, .dc (ints ms), .dc (bools now)], []⟩
def bs62r (ms : List Int) (A : List AV) : St := ⟨[(4, .d (bD false))], [.ac A, .dc (ints ms)], []⟩

theorem br62_0 (ms : List Int) (ds : List Bool) (hd : ds.length = 26) (A : List AV) (hA : A = .grow 1 1 false :: diffsA ds) (m : Int) (i : Int) (now : List Bool) : startS aeC ev2 62 2 Try.f62 (some 0) (bs62 ms A m i now) (roundD aeC 62 2 0) =
  bif decide (i < ms.length) then
    bif inRange i (lenOf 1 (List.length (ints ms))) then
      Option.bind (nth (ints ms) (Int.toNat i * 1)) fun d => match d with
      | .int k n =>
        bif decide (k = IntKind.i64) then
          bif inRange (IntKind.wrap IntKind.i64 (max n m - min n m)) 26 then
            Option.bind (nth (bools now) (0 + Int.toNat (IntKind.wrap IntKind.i64 (max n m - min n m)) * 1)) fun d => match d with
            | .bool b =>
              bif b then some (.ret, bs62r ms A)
              else
                bif inRange (IntKind.wrap IntKind.i64 (max n m - min n m)) 26 then
                  bif Nat.ble (0 + Int.toNat (IntKind.wrap IntKind.i64 (max n m - min n m)) * 1 + 1) (List.length (bools now)) && true then
                    some (.norm, ⟨[(0, .ref 0 0), (1, .d (iD m)), (5, .ref 2 0), (16, .grow 1 1 false), (17, .d (iD ms.length)), (18, .d (iD (IntKind.wrap IntKind.i64 (i + 1))))],
                      [.ac A, .dc (ints ms), .dc (setNth (bools now) (0 + Int.toNat (IntKind.wrap IntKind.i64 (max n m - min n m)) * 1) (bD true))], []⟩)
                  else none
                else none
            | _ => none
          else none
        else none
      | _ => none
    else none
  else some (.exit 0, bs62x ms A m now) := by
  subst hA
  obtain ⟨b0, b1, b2, b3, b4, b5, b6, b7, b8, b9, b10, b11, b12, b13, b14, b15, b16, b17, b18, b19, b20, b21, b22, b23, b24, b25, rfl⟩ := len26 hd
  kernel_rfl

theorem bl62 (ms : List Int) (ds : List Bool) (hd : ds.length = 26) (A : List AV) (hA : A = .grow 1 1 false :: diffsA ds) (m : Int) (hs : Small ms.length) (hm : markOK m) (hms : ∀ x ∈ ms, markOK x) (now : List Bool) (hn : now.length = 26) (s : St) (h : tidyP 2 (aeC.pol 62 0) s = some (bs62 ms A m 0 now)) :
    LoopR aeC ev2 62 2 Try.f62 0 s (match addS ms m now with | none => .ret | some _ => .exit 0) (match addS ms m now with | none => bs62r ms A | some ds => bs62x ms A m ds) := by
  have := loopR_ok (C := aeC) (E := ev2) (fid := 62) (base := 2) (fn := Try.f62) (t := 0) k62_0 (α := { p : Nat × List Bool // p.1 ≤ ms.length ∧ p.2.length = 26 }) (fun p => bs62 ms A m p.1.1 p.1.2) (fun p => ms.length - p.1.1)
    (fun p => (match addS (ms.drop p.1.1) m p.1.2 with | none => .ret | some _ => .exit 0, match addS (ms.drop p.1.1) m p.1.2 with | none => bs62r ms A | some ds => bs62x ms A m ds)) ?_ ⟨(0, now), by omega, hn⟩ s h
  · exact this
  rintro ⟨⟨i, now⟩, hi, hnow⟩
  simp only at hi hnow ⊢
  by_cases hlt : i < ms.length
  · have hx := hms ms[i] (List.getElem_mem hlt)
    have hnth : nth (ints ms) i = some (iD ms[i]) := by rw [nth_ints]; simp [hlt]
    have hdr : ms.drop i = ms[i] :: ms.drop (i + 1) := by rw [List.drop_eq_getElem_cons hlt]
    have e1 : decide ((i : Int) < (ms.length : Int)) = true := by simp; omega
    have e2 : inRange (i : Int) (lenOf 1 (List.length (ints ms))) = true := by simp [inRange, lenOf, length_ints]; omega
    have hb : 0 ≤ max ms[i] m - min ms[i] m ∧ max ms[i] m - min ms[i] m ≤ 25 := by
      obtain ⟨a1, a2⟩ := hx; obtain ⟨b1, b2⟩ := hm; omega
    have e3 : IntKind.i64.wrap (max ms[i] m - min ms[i] m) = max ms[i] m - min ms[i] m := wrap64 (by omega) (by omega)
    have e4 : inRange (max ms[i] m - min ms[i] m) 26 = true := by simp [inRange]; omega
    have hdlt : dist ms[i] m < now.length := by unfold dist; omega
    have e5 : nth (bools now) (dist ms[i] m) = some (bD now[dist ms[i] m]) := by rw [nth_bools]; simp [hdlt]
    have e6 : Nat.ble (dist ms[i] m + 1) (bools now).length = true := by rw [length_bools]; exact Nat.ble_eq_true_of_le hdlt
    have e7 : (0 + Int.toNat (max ms[i] m - min ms[i] m) * 1) = dist ms[i] m := by unfold dist; omega
    have hop : now[dist ms[i] m]? = some now[dist ms[i] m] := by simp [hdlt]
    have hstart := br62_0 ms ds hd A hA m (i : Int) now
    rw [e1, e2, show Int.toNat (i : Int) * 1 = i by simp, hnth] at hstart
    simp only [cond_true, decide_true, Option.bind_some, e3, e4, e7, e5, e6, Bool.and_self] at hstart
    cases hbit : now[dist ms[i] m] with
    | true =>
      right
      have ha : addS (ms.drop i) m now = none := by rw [hdr]; simp only [addS, hop, hbit, if_true]
      rw [ha]
      refine ⟨by simp, startF_done k62_0 roundD_plain ?_⟩
      rw [hstart, hbit]; rfl
    | false =>
      left
      have ha : addS (ms.drop i) m now = addS (ms.drop (i + 1)) m (now.set (dist ms[i] m) true) := by rw [hdr]; simp only [addS, hop, hbit]; simp
      refine ⟨⟨(i + 1, now.set (dist ms[i] m) true), hlt, by simpa using hnow⟩, by simp; omega, startF_done k62_0 roundD_plain ?_, by simp only [ha]⟩
      rw [hstart, hbit, wrap64 (by omega) (by omega), setNth_bools]; rfl
  · right
    have hdr : ms.drop i = [] := List.drop_eq_nil_of_le (by omega)
    simp only [hdr, addS]
    refine ⟨by simp, startF_done k62_0 roundD_plain ?_⟩
    rw [br62_0 ms ds hd A hA]
    have e1 : decide ((i : Int) < (ms.length : Int)) = false := by simp; omega
    simp only [e1, cond_false]

theorem badd_ok (ms : List Int) (m : Int) (hs : ms.length < 1048576) (hm : markOK m) (hms : ∀ x ∈ ms, markOK x) (ds : List Bool) (hd : ds.length = 26) :
    CallOK Try.prog 62 [.ref 0 0, .d (iD m)] [.ac (.grow 1 1 false :: diffsA ds), .dc (ints ms)] (.d (bD (addS ms m ds).isSome))
      (match addS ms m ds with
        | none => [.ac (.grow 1 1 false :: diffsA ds), .dc (ints ms)]
        | some ds' => [.ac (.grow 2 1 false :: diffsA ds'), .dead, .dc (ints ms ++ [iD m])]) := by
  refine ae_call ev2_ok (fn := Try.f62) k62 (by kernel_rfl) (by kernel_rfl) ?_
  have e1 : startS aeC ev2 62 2 Try.f62 none ⟨envOf 0 [.ref 0 0, .d (iD m)], [.ac (.grow 1 1 false :: diffsA ds), .dc (ints ms)], []⟩ (heldD aeC 62 2) = some (0, bs62 ms (.grow 1 1 false :: diffsA ds) m 0 ds) := by
    have : startS aeC ev2 62 2 Try.f62 none ⟨envOf 0 [.ref 0 0, .d (iD m)], [.ac (.grow 1 1 false :: diffsA ds), .dc (ints ms)], []⟩ (heldD aeC 62 2) =
        some (0, ⟨[(0, .ref 0 0), (1, .d (iD m)), (5, .ref 2 0), (16, .grow 1 1 false), (17, .d (iD (lenOf 1 (ints ms).length))), (18, .d (iD 0))], [.ac (.grow 1 1 false :: diffsA ds), .dc (ints ms), .dc (bools ds)], []⟩) := by
      obtain ⟨b0, b1, b2, b3, b4, b5, b6, b7, b8, b9, b10, b11, b12, b13, b14, b15, b16, b17, b18, b19, b20, b21, b22, b23, b24, b25, rfl⟩ := len26 hd
      kernel_rfl
    rw [this]
    simp [lenOf, length_ints, bs62]
  have hlen : ([.ac (.grow 1 1 false :: diffsA ds), .dc (ints ms)] : List Blk).length = 2 := rfl
  rw [hlen, (startF_at k62 e1 (bl62 ms ds hd _ rfl m (by unfold Small; omega) hm hms ds hd)).2]
  refine nextF_done k62 done_plain ?_
  cases ha : addS ms m ds with
  | none =>
    simp only [Option.isSome_none]
    obtain ⟨b0, b1, b2, b3, b4, b5, b6, b7, b8, b9, b10, b11, b12, b13, b14, b15, b16, b17, b18, b19, b20, b21, b22, b23, b24, b25, rfl⟩ := len26 hd
    kernel_rfl
  | some ds' =>
    simp only [Option.isSome_some]
    have hd' := (addS_length ha).trans hd
    have key : nextS aeC ev2 62 2 Try.f62 none 0 (.exit 0) (bs62x ms (.grow 1 1 false :: diffsA ds) m ds') (doneE aeC Try.f62 2 fun v h => some (v, h)) =
        bif Nat.ble (lenOf 1 (ints ms).length + 1) 1048576 then some (.d (bD true), [.ac (.grow 2 1 false :: diffsA ds'), .dead, .dc (ints ms ++ [iD m])]) else none := by
      obtain ⟨b0, b1, b2, b3, b4, b5, b6, b7, b8, b9, b10, b11, b12, b13, b14, b15, b16, b17, b18, b19, b20, b21, b22, b23, b24, b25, rfl⟩ := len26 hd
      obtain ⟨c0, c1, c2, c3, c4, c5, c6, c7, c8, c9, c10, c11, c12, c13, c14, c15, c16, c17, c18, c19, c20, c21, c22, c23, c24, c25, rfl⟩ := len26 hd'
      kernel_rfl
    rw [key]
    have : Nat.ble (lenOf 1 (ints ms).length + 1) 1048576 = true := by
      refine Nat.ble_eq_true_of_le ?_; simp [lenOf, length_ints]; omega
    rw [this]; rfl

/-- The first mark. -/
theorem first_ok (m : Int) (ds : List Bool) (hd : ds.length = 26) : CallOK Try.prog 62 [.ref 0 0, .d (iD m)] [.dc (nilS1 :: bools ds)] (.d (bD true)) [.ac (.grow 1 1 false :: diffsA ds), .dc [iD m]] := by
  refine ae_directF EvOK.nil 6 (by kernel_rfl : tget aeF 62 = some Try.f62) ?_
  obtain ⟨b0, b1, b2, b3, b4, b5, b6, b7, b8, b9, b10, b11, b12, b13, b14, b15, b16, b17, b18, b19, b20, b21, b22, b23, b24, b25, rfl⟩ := len26 hd
  kernel_rfl

/-- A mark is added to a ruler that begins. -/
def sq62 : List AV → List Blk → Tr (AV × List Blk)
  | [.ref 2 0, .d (.int .i64 m)], [.dc X, .dc cs, .ac (.grow 1 1 true :: A)] => sp62 [.ref 2 0, .d (.int .i64 m)] [.dc X, .dc cs, .ac (.grow 1 1 true :: A)]
  | [.ref 0 0, .d (.int .i64 m)], [.ac (.grow 1 1 false :: A), .dc cs] =>
    .node (ok62 cs m A) (.node (ad62 cs m A).isSome
      (.leaf (.d (bD true), [.ac (.grow 2 1 false :: expl fun i => ((ad62 cs m A).getD []).getD i false), .dead, .dc (cs ++ [iD m])]))
      (.leaf (.d (bD false), [.ac (.grow 1 1 false :: A), .dc cs]))) .fail
  | [.ref 0 0, .d (.int .i64 m)], [.dc (.sl [] 0 0 false true :: D)] => .node (isB D && Nat.beq D.length 26) (.leaf (.d (bD true), [.ac (.grow 1 1 false :: expl fun i => (unB D).getD i false), .dc [iD m]])) .fail
  | _, _ => .fail

theorem sq62_ok : ∀ xs h v h', (sq62 xs h).val = some (v, h') → CallOK Try.prog 62 xs h v h' := by
  intro xs h v h' e
  unfold sq62 at e
  split at e
  · exact sp62_ok _ _ _ _ e
  · rename_i m A cs
    simp only [Tr.val] at e
    obtain ⟨hg, e⟩ := cond_none e
    simp only [ok62, Bool.and_eq_true, List.all_eq_true, Nat.blt_eq, okM_iff] at hg
    obtain ⟨g1, g2, g3, g4, g5, g6⟩ := hg
    have g6 := Nat.eq_of_beq_eq_true g6
    have hc := ints_unI g1
    have hA := diffs_unA g5
    have hlen : (unI cs).length = cs.length := by have := congrArg List.length hc; rwa [length_ints] at this
    have hlenA : (unA A).length = 26 := by have := congrArg List.length hA; rw [length_diffs] at this; omega
    have main := badd_ok (unI cs) m (by omega) g3 g4 (unA A) hlenA
    rw [hc, hA] at main
    unfold ad62 at e
    cases ha : addS (unI cs) m (unA A) with
    | none =>
      rw [ha] at e main
      simp only [Option.isSome_none, cond_false, Option.some.injEq, Prod.mk.injEq] at e
      obtain ⟨rfl, rfl⟩ := e
      exact main
    | some ds' =>
      rw [ha] at e main
      simp only [Option.isSome_some, cond_true, Option.getD_some, Option.some.injEq, Prod.mk.injEq] at e
      obtain ⟨rfl, rfl⟩ := e
      rw [expl_eq ((addS_length ha).trans hlenA)]
      exact main
  · rename_i m D
    simp only [Tr.val] at e
    obtain ⟨hg, e⟩ := cond_none e
    simp only [Bool.and_eq_true] at hg
    obtain ⟨g1, g2⟩ := hg
    have g2 := Nat.eq_of_beq_eq_true g2
    have hD := bools_unB g1
    have hlen : (unB D).length = 26 := by have := congrArg List.length hD; rw [length_bools] at this; omega
    simp only [Option.some.injEq, Prod.mk.injEq] at e
    obtain ⟨rfl, rfl⟩ := e
    rw [expl_eq hlen]
    have main := first_ok m (unB D) hlen
    rw [hD] at main
    exact main
  · cases e

def ev6 : Ev := (ev5 26).addFn 62 sq62
theorem ev6_ok : EvOK Try.prog ev6 := EvOK.addFn (ev5_ok 26) sq62_ok
end Go.Proofs.Ytkcdbndpcabelaa

/- Chapter 02: graceful labels, one after the other: what memory looks like. -/
namespace Go.Proofs.Ytkcdbndpcabelaa
open Go Go.AE

/-- The first range over a function. -/
def rangeOf : Code → Option (List Nat × Code × Code)
  | .rangeFunc _ ps u v => some (ps.toList, u, v)
  | .seq a b => match rangeOf a with
    | some r => some r
    | none => rangeOf b
  | .cond _ a b => match rangeOf a with
    | some r => some r
    | none => rangeOf b
  | .block _ a => rangeOf a
  | .scope a => rangeOf a
  | .loop a => rangeOf a
  | _ => none
noncomputable def rgOf (fn : Func) : List Nat × Code × Code := (rangeOf (bodyOf fn)).getD ([], .skip, .skip)

/-- A graph: how many nodes, and its edges, as data. -/
structure Gr where
  n : Nat
  E : List (Int × Int)

def Gr.es (g : Gr) : List DV := edD g.E
def Gr.m (g : Gr) : Nat := g.E.length

def Gr.cs (g : Gr) (c : Bool) : List DV := [iD g.n, .sl g.es g.m 2 c false]

inductive Who where
  | label
  | count
  | part

/-- How many blocks there are ahead of the walk's own. -/
def Who.B : Who → Nat
  | .label => 5
  | .count => 3
  | .part => 6

/-- What the range's frame holds. -/
noncomputable def envW (g : Gr) (c : Bool) : Who → List (Nat × AV)
  | .label => [(20, .d (.fn 63 [] [.ptr [.ptr (g.cs c) 0] 0])), (19, .d (.ptr (g.cs c) 0)), (17, .d (bD false)), (16, .d (iD 0)), (8, .d (iD 0)), (7, .d (.ptr (g.cs c) 0)), (15, .d (iD 0)), (14, .d (.ptr (g.cs c) 0)),
      (10, .d (.tup [.ptr (g.cs c) 0, iD 0])), (13, .d (.tup [.ptr (g.cs c) 0, iD 0])), (12, .d (.sl g.es g.m 2 c false)), (11, .d (iD g.n)), (6, .ref 2 0), (5, .ref 1 0), (4, .ref 0 0), (0, .d (iD g.n)), (1, .d (.sl g.es g.m 2 c false))]
  | .count => [(19, .d (.fn 63 [] [.ptr [.ptr (g.cs c) 0] 0])), (18, .d (.ptr (g.cs c) 0)), (8, .ref 0 0), (16, .d (bD false)), (15, .d (iD 0)), (7, .d (iD 0)), (6, .d (.ptr (g.cs c) 0)), (14, .d (iD 0)), (13, .d (.ptr (g.cs c) 0)),
      (9, .d (.tup [.ptr (g.cs c) 0, iD 0])), (12, .d (.tup [.ptr (g.cs c) 0, iD 0])), (11, .d (.sl g.es g.m 2 c false)), (10, .d (iD g.n)), (5, .d (iD 0)), (4, .d (iD 0)), (0, .d (iD g.n)), (1, .d (.sl g.es g.m 2 c false))]
  | .part => [(20, .d (.fn 63 [] [.ptr [.ptr (g.cs c) 0] 0])), (19, .d (.ptr (g.cs c) 0)), (17, .d (bD false)), (16, .d (iD 0)), (8, .d (iD 0)), (7, .ref 3 0), (15, .d (iD 0)), (14, .d (.ptr (g.cs c) 0)),
      (10, .d (.tup [.ptr (g.cs c) 0, iD 0])), (13, .d (.tup [.ptr (g.cs c) 0, iD 0])), (12, .d (.sl g.es g.m 2 c false)), (11, .d (iD g.n)), (6, .ref 2 0), (5, .ref 1 0), (4, .ref 0 0), (0, .d (iD g.n)), (1, .d (.sl g.es g.m 2 c false))]

/-- The record of the range. -/
noncomputable def recW (g : Gr) (c : Bool) (st : LoopState) (pe : Option Code) : Who → Blk
  | .label => .loop st pe 28 24 (envW g c .label) (rgOf Try.f28).1 (rgOf Try.f28).2.1 (rgOf Try.f28).2.2 3
  | .count => .loop st pe 29 24 (envW g c .count) (rgOf Try.f29).1 (rgOf Try.f29).2.1 (rgOf Try.f29).2.2 1
  | .part => .loop st pe 30 28 (envW g c .part) (rgOf Try.f30).1 (rgOf Try.f30).2.1 (rgOf Try.f30).2.2 4

/-- What lies ahead while no round has stopped the walk. -/
noncomputable def preW (g : Gr) (c : Bool) (acc : Int) : Who → List Blk
  | .label => [.dc [.sl [] 0 0 false true], .dc [bD false], .dc [iD 0], .defr, recW g c .ready none .label]
  | .count => [.dc [iD acc], .defr, recW g c .ready none .count]
  | .part => [.dc [.sl [] 0 0 false true], .dc [bD false], .dc [iD 0], .dc [.ptr (g.cs c) 0], .defr, recW g c .ready none .part]

/-- What lies ahead when a round has; the labels are block k. -/
noncomputable def offW (g : Gr) (c : Bool) (k : Nat) : Who → List Blk
  | .label => [.ac [.grow k 1 true], .dc [bD true], .dc [iD 0], .defr, recW g c .done (some .ret) .label]
  | .count => []
  | .part => [.ac [.grow k 1 true], .dc [bD true], .dc [iD 0], .dc [.ptr (g.cs c) 0], .defr, recW g c .done (some .ret) .part]

/-- What the walk has captured. -/
noncomputable def caps (g : Gr) (c : Bool) (B : Nat) : List AV := [.d (.ptr [.ptr (g.cs c) 0] 0), .ref B 0, .ref (B + 3) 0, .ref (B + 1) 0, .ref (B + 4) 0, .ref (B + 5) 0, .ref (B + 6) 0]

/-- The walk's own blocks, and the frames' ones. -/
noncomputable def ownW (g : Gr) (c : Bool) (w : Who) (L U D : List DV) : List Blk :=
  [.ac [.yld (w.B - 1)], .dc [iD g.m], .dc L, .ac [.row (w.B + 2) 0 g.n g.n 1 true], .dc U, .dc D, .ac [.fn 64 [] (caps g c w.B)]]

/-- What the frames keep. -/
def frB (fr : List (List Bool)) : List Blk := fr.map fun l => .dc (bools l)

/-- The walk's memory. -/
noncomputable def hpW (g : Gr) (c : Bool) (w : Who) (acc : Int) (L U D : List DV) (fr : List (List Bool)) : List Blk := preW g c acc w ++ (ownW g c w L U D ++ frB fr)
/-- The walk's memory when a round has stopped it. -/
noncomputable def hfW (g : Gr) (c : Bool) (w : Who) (L U D : List DV) (fr : List (List Bool)) (l : List Int) : List Blk := offW g c (w.B + 7 + fr.length) w ++ (ownW g c w L U D ++ (frB fr ++ [.dc (ints l)]))

/-- The walk's state at a node: the value v is next. -/
noncomputable def sW (g : Gr) (c : Bool) (w : Who) (acc : Int) (L U D : List DV) (fr : List (List Bool)) (v : Int) : St :=
  ⟨[(0, .d (iD fr.length)), (1, .d (.ptr [.ptr (g.cs c) 0] 0)), (3, .ref (w.B + 3) 0), (5, .ref (w.B + 4) 0), (6, .ref (w.B + 5) 0), (7, .ref (w.B + 6) 0), (26, .d (iD (IntKind.i64.wrap (g.m + 1)))), (27, .d (iD v))],
    hpW g c w acc L U D fr, []⟩

/-- Within: edge i is next. -/
noncomputable def tW (g : Gr) (c : Bool) (w : Who) (acc : Int) (L U D : List DV) (fr : List (List Bool)) (v : Int) (now : List DV) (i : Int) : St :=
  ⟨[(0, .d (iD fr.length)), (1, .d (.ptr [.ptr (g.cs c) 0] 0)), (3, .ref (w.B + 3) 0), (5, .ref (w.B + 4) 0), (6, .ref (w.B + 5) 0), (7, .ref (w.B + 6) 0), (10, .d (iD v)), (11, .ref (w.B + 7 + fr.length) 0), (26, .d (iD (IntKind.i64.wrap (g.m + 1)))), (27, .d (iD v)), (37, .d (.sl g.es g.m 2 false false)), (38, .d (iD g.m)), (39, .d (iD i))],
    preW g c acc w ++ (ownW g c w L U now ++ (frB fr ++ [.dc D])), []⟩

/-- Behind the edges. -/
noncomputable def uW (g : Gr) (c : Bool) (w : Who) (acc : Int) (L U D : List DV) (fr : List (List Bool)) (v : Int) (now : List DV) : St :=
  ⟨[(0, .d (iD fr.length)), (1, .d (.ptr [.ptr (g.cs c) 0] 0)), (3, .ref (w.B + 3) 0), (5, .ref (w.B + 4) 0), (6, .ref (w.B + 5) 0), (7, .ref (w.B + 6) 0), (10, .d (iD v)), (11, .ref (w.B + 7 + fr.length) 0), (26, .d (iD (IntKind.i64.wrap (g.m + 1)))), (27, .d (iD v))],
    preW g c acc w ++ (ownW g c w L U now ++ (frB fr ++ [.dc D])), []⟩

theorem inRange_of {i : Int} {n : Nat} (h0 : 0 ≤ i) (h1 : i < n) : inRange i n = true := by
  simp [inRange, h0, h1]

/-- The label of a node. -/
def labAt (labs : List Int) (a : Int) : Int := labs.getD a.toNat 0

theorem nth_lab {labs : List Int} {a : Int} (h0 : 0 ≤ a) (h1 : a < labs.length) : nth (ints labs) (a.toNat * 1) = some (iD (labAt labs a)) := by
  rw [Nat.mul_one, nth_ints]
  have : a.toNat < labs.length := by omega
  simp [labAt, this]

/-- The edges of a graph lie between its nodes. -/
def GrOK (g : Gr) : Prop := 2 ≤ g.n ∧ g.n ≤ 7 ∧ 1 ≤ g.E.length ∧ g.E.length ≤ 10 ∧ ∀ e ∈ g.E, 0 ≤ e.1 ∧ e.1 < e.2 ∧ e.2 < g.n

/-! ### By which number labels part -/
/-- The greatest of the lower labels, the least of the higher ones. -/
def partF (labs : List Int) : List (Int × Int) → Int → Int → Int × Int
  | [], low, high => (low, high)
  | e :: r, low, high => partF labs r (max low (min (labAt labs e.1) (labAt labs e.2))) (min high (max (labAt labs e.1) (labAt labs e.2)))

def partS (labs : List Int) (E : List (Int × Int)) : Int := if (partF labs E (-1) 25).2 ≤ (partF labs E (-1) 25).1 then -1 else (partF labs E (-1) 25).1

noncomputable def s54 (g : Gr) (labs : List Int) (c : Bool) (low high i : Int) : St := ⟨[(1, .d (.sl (ints labs) labs.length 1 c false)), (5, .d (iD low)), (6, .d (iD high)), (14, .d (.sl g.es g.m 2 false false)), (15, .d (iD g.m)), (16, .d (iD i))], [], []⟩

theorem k54 : OkSeg Try.f54 none [0] := ⟨by kernel_rfl, by kernel_rfl, by decide⟩
theorem k54_0 : OkSeg Try.f54 (some 0) [] := ⟨by kernel_rfl, by kernel_rfl, by decide⟩

theorem r54_0 (g : Gr) (labs : List Int) (c : Bool) (low high i : Int) : startS aeC ev6 54 0 Try.f54 (some 0) (s54 g labs c low high i) (roundD aeC 54 0 0) =
  bif decide (i < g.m) then
    bif inRange i g.m then
      getI (nth g.es (i.toNat * 2)) fun a => getI (nth g.es (i.toNat * 2 + 1)) fun b =>
        bif inRange a labs.length then getI (nth (ints labs) (a.toNat * 1)) fun x =>
          bif inRange b labs.length then getI (nth (ints labs) (b.toNat * 1)) fun y =>
            some (.norm, s54 g labs c (if (if y < x then y else x) > low then (if y < x then y else x) else low) (if (if y > x then y else x) < high then (if y > x then y else x) else high) (IntKind.i64.wrap (i + 1)))
          else none
        else none
    else none
  else some (.exit 0, ⟨[(5, .d (iD low)), (6, .d (iD high))], [], []⟩) := by kernel_rfl

theorem min_if (x y : Int) : (if y < x then y else x) = min x y := by split <;> omega
theorem max_if (x y : Int) : (if y > x then y else x) = max x y := by split <;> omega

theorem parts_ok (g : Gr) (hg : GrOK g) (c c2 : Bool) (labs : List Int) (hl : labs.length = g.n) : PureOK Try.prog 54 [.ptr (g.cs c) 0, .sl (ints labs) labs.length 1 c2 false] (iD (partS labs g.E)) := by
  obtain ⟨g1, g2, g3, g4, g5⟩ := hg
  refine ae_pure ev6_ok (fn := Try.f54) k54 (by kernel_rfl) (by kernel_rfl) ?_
  have hr : ∀ s, tidyP 0 (aeC.pol 54 0) s = some (s54 g labs c2 (-1) 25 0) → LoopR aeC ev6 54 0 Try.f54 0 s (.exit 0) ⟨[(5, .d (iD (partF labs g.E (-1) 25).1)), (6, .d (iD (partF labs g.E (-1) 25).2))], [], []⟩ := by
    intro s hs
    have := loopR_ok (C := aeC) (E := ev6) (fid := 54) (base := 0) (fn := Try.f54) (t := 0) k54_0 (α := { p : Nat × Int × Int // p.1 ≤ g.E.length }) (fun p => s54 g labs c2 p.1.2.1 p.1.2.2 p.1.1) (fun p => g.E.length - p.1.1)
      (fun p => (.exit 0, ⟨[(5, .d (iD (partF labs (g.E.drop p.1.1) p.1.2.1 p.1.2.2).1)), (6, .d (iD (partF labs (g.E.drop p.1.1) p.1.2.1 p.1.2.2).2))], [], []⟩)) ?_ ⟨(0, -1, 25), by simp⟩ s hs
    · exact this
    rintro ⟨⟨i, low, high⟩, hi⟩
    simp only at hi ⊢
    by_cases hlt : i < g.E.length
    · left
      have hd : g.E.drop i = g.E[i] :: g.E.drop (i + 1) := by rw [List.drop_eq_getElem_cons hlt]
      have he := g5 g.E[i] (List.getElem_mem hlt)
      have hn := nth_ed g.E i
      have hop : g.E[i]? = some g.E[i] := by simp [hlt]
      rw [hop] at hn
      refine ⟨⟨(i + 1, max low (min (labAt labs g.E[i].1) (labAt labs g.E[i].2)), min high (max (labAt labs g.E[i].1) (labAt labs g.E[i].2))), hlt⟩, by simp; omega, startF_done k54_0 roundD_plain ?_, by simp only [hd, partF]⟩
      rw [r54_0]
      have e1 : decide ((i : Int) < (g.m : Int)) = true := by simp [Gr.m]; omega
      have e2 : inRange (i : Int) g.m = true := inRange_of (by omega) (by simp [Gr.m]; omega)
      have e3 : inRange g.E[i].1 labs.length = true := inRange_of (by omega) (by omega)
      have e4 : inRange g.E[i].2 labs.length = true := inRange_of (by omega) (by omega)
      rw [e1, e2, show Int.toNat (i : Int) = i by simp, show nth g.es (i * 2) = some (iD g.E[i].1) from hn.1, show nth g.es (i * 2 + 1) = some (iD g.E[i].2) from hn.2]
      simp only [cond_true, getI_some, e3, e4]
      rw [nth_lab (by omega) (by omega), nth_lab (by omega) (by omega)]
      simp only [getI_some]
      rw [wrap64 (by omega) (by omega), min_if, max_if, max_if, min_if]
      rfl
    · right
      have hd : g.E.drop i = [] := List.drop_eq_nil_of_le (by omega)
      refine ⟨by simp, startF_done k54_0 roundD_plain ?_⟩
      rw [r54_0]
      have e1 : decide ((i : Int) < (g.m : Int)) = false := by simp [Gr.m]; omega
      rw [e1]; simp only [hd, partF]; rfl
  have e0 : startS aeC ev6 54 0 Try.f54 none ⟨envOf 0 ([.ptr (g.cs c) 0, .sl (ints labs) labs.length 1 c2 false].map .d), [], []⟩ (heldD aeC 54 0) = some (0, s54 g labs c2 (-1) 25 0) := by kernel_rfl
  rw [(startF_at k54 e0 hr).2]
  refine nextF_done k54 done_plain ?_
  have e1 : ∀ low high : Int, nextS aeC ev6 54 0 Try.f54 none 0 (.exit 0) ⟨[(5, .d (iD low)), (6, .d (iD high))], [], []⟩ (doneE aeC Try.f54 0 fun v h => freezeV h 4 v) =
      bif decide (high ≤ low) then some (iD (-1)) else some (iD low) := fun low high => by kernel_rfl
  rw [e1, partS]
  split <;> rename_i h <;> simp [h]

/-- The edges of data. -/
def unE : List DV → List (Int × Int)
  | .int _ a :: .int _ b :: r => (a, b) :: unE r
  | _ => []
theorem unE_ed : ∀ E : List (Int × Int), unE (edD E) = E
  | [] => rfl
  | e :: r => by show (e.1, e.2) :: unE (edD r) = _; rw [unE_ed r]

/-- What a call of 'parts' is about. -/
def At54 (n : Int) (es : List DV) (m : Nat) (cs : List DV) (k : Nat) : Prop := ∃ (g : Gr) (labs : List Int), GrOK g ∧ labs.length = g.n ∧ n = g.n ∧ es = g.es ∧ m = g.m ∧ cs = ints labs ∧ k = labs.length

noncomputable def sp54 : List DV → Tr DV
  | [.ptr [.int .i64 n, .sl es m 2 c false] 0, .sl cs k 1 c2 false] =>
    .node (isP (At54 n es m cs k)) (.leaf (iD (partS (unI cs) (unE es)))) .fail
  | _ => .fail

noncomputable def ev7 : Ev := ev6.add 54 sp54
theorem ev7_ok : EvOK Try.prog ev7 := by
  refine EvOK.add ev6_ok ?_
  intro ds d h
  unfold sp54 at h
  split at h
  · simp only [Tr.val] at h
    obtain ⟨hg, h⟩ := cond_none h
    cases h
    obtain ⟨g, labs, h1, h2, rfl, rfl, rfl, rfl, rfl⟩ := isP_iff.1 hg
    rw [unI_ints, show unE g.es = g.E from unE_ed _]
    exact parts_ok g h1 _ _ labs h2
  · cases h
end Go.Proofs.Ytkcdbndpcabelaa

/- Chapter 02: graceful labels, one after the other: a list of labels is handed on. -/
namespace Go.Proofs.Ytkcdbndpcabelaa
open Go Go.AE

noncomputable def run53 (xs : List AV) (h : List Blk) : Tr (AV × List Blk) := .of (bodyE aeC ev4 6 53 Try.f53 xs h fun v h' => some (v, h'))
noncomputable def ev8a : Ev := ev7.addFn 53 run53
theorem ev8a_ok : EvOK Try.prog ev8a := by
  refine EvOK.addFn ev7_ok ?_
  intro xs h v h' e
  rw [run53, Tr.val_of] at e
  exact ae_directF ev4_ok 6 (by kernel_rfl : tget aeF 53 = some Try.f53) e

def _root_.Go.AE.Ev.setRound (E : Ev) (spec : Nat → List AV → List Blk → Tr (AV × List Blk)) : Ev := { E with round := spec }
theorem setRound_ok {E : Ev} (hE : EvOK Try.prog E) (k : Nat) {spec : Nat → List AV → List Blk → Tr (AV × List Blk)} (hs : ∀ l xs h v h', (spec l xs h).val = some (v, h') → roundE aeC E k l xs h = some (v, h')) : EvOK Try.prog (E.setRound spec) :=
  ⟨hE.pure, hE.fn, hE.calm, fun l xs h v h' e => roundE_sound ae_T ae_Q ae_mixed hE (k := k) (hs l xs h v h' e)⟩

theorem len0 {α : Type} {l : List α} (h : l.length = 0) : l = [] := by
  exact List.length_eq_zero_iff.1 h
theorem len1 {α : Type} {l : List α} (h : l.length = 1) : ∃ a : α, l = [a] := by
  match l, h with
  | [a], _ => exact ⟨a, rfl⟩
theorem len2 {α : Type} {l : List α} (h : l.length = 2) : ∃ a b : α, l = [a, b] := by
  match l, h with
  | [a, b], _ => exact ⟨a, b, rfl⟩
theorem len3 {α : Type} {l : List α} (h : l.length = 3) : ∃ a b d : α, l = [a, b, d] := by
  match l, h with
  | [a, b, d], _ => exact ⟨a, b, d, rfl⟩
theorem len4 {α : Type} {l : List α} (h : l.length = 4) : ∃ a b d e : α, l = [a, b, d, e] := by
  match l, h with
  | [a, b, d, e], _ => exact ⟨a, b, d, e, rfl⟩
theorem len5 {α : Type} {l : List α} (h : l.length = 5) : ∃ a b d e f : α, l = [a, b, d, e, f] := by
  match l, h with
  | [a, b, d, e, f], _ => exact ⟨a, b, d, e, f, rfl⟩
theorem len6 {α : Type} {l : List α} (h : l.length = 6) : ∃ a b d e f g : α, l = [a, b, d, e, f, g] := by
  match l, h with
  | [a, b, d, e, f, g], _ => exact ⟨a, b, d, e, f, g, rfl⟩
theorem len7 {α : Type} {l : List α} (h : l.length = 7) : ∃ a b d e f g i : α, l = [a, b, d, e, f, g, i] := by
  match l, h with
  | [a, b, d, e, f, g, i], _ => exact ⟨a, b, d, e, f, g, i, rfl⟩

/-- The data of a block. -/
def blkD (h : List Blk) (i : Nat) : List DV := match nth h i with
  | some (.dc l) => l
  | _ => []

theorem rp64 (E : List (Int × Int)) (c : Bool) (acc : Int) (labs : List Int) (U D : List DV) (fr : List (List Bool)) (h7 : fr.length ≤ 7) (hl : labs.length = fr.length) :
    roundE aeC ev8a 6 5 [.row 8 0 fr.length fr.length 1 true] (hpW ⟨fr.length, E⟩ c .part acc (ints labs) U D fr) =
      bif isP (At54 fr.length (edD E) E.length (ints labs) fr.length) then bif decide (0 ≤ partS (unI (ints labs)) (unE (edD E))) then some (.d (bD false), hfW ⟨fr.length, E⟩ c .part (ints labs) U D fr labs)
      else some (.d (bD true), hpW ⟨fr.length, E⟩ c .part acc (ints labs) U D fr) else none := by
  rcases fr with _ | ⟨f0, _ | ⟨f1, _ | ⟨f2, _ | ⟨f3, _ | ⟨f4, _ | ⟨f5, _ | ⟨f6, _ | ⟨f7, fr⟩⟩⟩⟩⟩⟩⟩⟩
  · obtain rfl := len0 (by simpa using hl)
    kernel_rfl
  · obtain ⟨a, rfl⟩ := len1 (by simpa using hl)
    kernel_rfl
  · obtain ⟨a, b, rfl⟩ := len2 (by simpa using hl)
    kernel_rfl
  · obtain ⟨a, b, d, rfl⟩ := len3 (by simpa using hl)
    kernel_rfl
  · obtain ⟨a, b, d, e, rfl⟩ := len4 (by simpa using hl)
    kernel_rfl
  · obtain ⟨a, b, d, e, f, rfl⟩ := len5 (by simpa using hl)
    kernel_rfl
  · obtain ⟨a, b, d, e, f, g, rfl⟩ := len6 (by simpa using hl)
    kernel_rfl
  · obtain ⟨a, b, d, e, f, g, i, rfl⟩ := len7 (by simpa using hl)
    kernel_rfl
  · simp at h7
    try omega

/-- What a round of 'Part' is about. -/
def AtP (g : Gr) (c : Bool) (fr : List (List Bool)) (l : Nat) (xs : List AV) (h : List Blk) : Prop := ∃ acc labs U D, g.n = fr.length ∧ fr.length ≤ 7 ∧ GrOK g ∧ labs.length = g.n ∧ l = 5 ∧ xs = [.row 8 0 fr.length fr.length 1 true] ∧ h = hpW g c .part acc (ints labs) U D fr

noncomputable def spP (g : Gr) (c : Bool) (fr : List (List Bool)) (l : Nat) (xs : List AV) (h : List Blk) : Tr (AV × List Blk) :=
  .node (isP (AtP g c fr l xs h)) (.node (decide (0 ≤ partS (unI (blkD h 8)) g.E)) (.leaf (.d (bD false), offW g c (13 + fr.length) .part ++ (h.drop 6 ++ [.dc (blkD h 8)]))) (.leaf (.d (bD true), h))) .fail

theorem spP_ok (g : Gr) (c : Bool) (fr : List (List Bool)) : ∀ l xs h v h', (spP g c fr l xs h).val = some (v, h') → roundE aeC ev8a 6 l xs h = some (v, h') := by
  intro l xs h v h' e
  simp only [spP, Tr.val] at e
  obtain ⟨hg, e2⟩ := cond_none e
  clear e
  obtain ⟨acc, labs, U, D, h1, h2, h3, h4, rfl, rfl, rfl⟩ := isP_iff.1 hg
  obtain ⟨n, E⟩ := g
  simp only at h1 h4
  subst h1
  rw [rp64 E c acc labs U D fr h2 h4]
  have a54 : isP (At54 fr.length (edD E) E.length (ints labs) fr.length) = true := isP_iff.2 ⟨⟨fr.length, E⟩, labs, h3, h4, rfl, rfl, rfl, rfl, h4.symm⟩
  have hb : blkD (hpW ⟨fr.length, E⟩ c .part acc (ints labs) U D fr) 8 = ints labs := rfl
  have hd : (hpW ⟨fr.length, E⟩ c .part acc (ints labs) U D fr).drop 6 = ownW ⟨fr.length, E⟩ c .part (ints labs) U D ++ frB fr := rfl
  rw [hb, hd, unI_ints] at e2
  rw [a54, unI_ints, unE_ed]
  simp only [cond_true]
  rcases cond_some e2 with ⟨e1, e2⟩ | ⟨e1, e2⟩
  · rw [e1]
    cases e2
    simp only [cond_true, hfW, List.append_assoc, Who.B, Nat.reduceAdd]
  · rw [e1]
    cases e2
    rfl

/-- The evaluator at the last node. -/
noncomputable def evY (g : Gr) (c : Bool) (fr : List (List Bool)) : Who → Ev
  | .part => ev8a.setRound (spP g c fr)
  | _ => ev8a.withRound aeC 6
theorem evY_ok (g : Gr) (c : Bool) (fr : List (List Bool)) (w : Who) : EvOK Try.prog (evY g c fr w) := by
  cases w
  · exact EvOK.withRound ae_T ae_Q ae_mixed ev8a_ok 6
  · exact EvOK.withRound ae_T ae_Q ae_mixed ev8a_ok 6
  · exact setRound_ok ev8a_ok 6 (spP_ok g c fr)

/-- What the last node comes to. -/
noncomputable def yieldR (g : Gr) (c : Bool) (acc : Int) (labs : List Int) (U D : List DV) (fr : List (List Bool)) : Who → Option (AV × List Blk)
  | .count => some (.d (bD true), hpW g c .count (IntKind.i64.wrap (acc + 1)) (ints labs) U D fr)
  | .label => some (.d (bD false), hfW g c .label (ints labs) U D fr labs)
  | .part => bif isP (AtP g c fr 5 [.row 8 0 fr.length fr.length 1 true] (hpW g c .part acc (ints labs) U D fr)) then bif decide (0 ≤ partS (unI (ints labs)) g.E) then some (.d (bD false), hfW g c .part (ints labs) U D fr labs)
      else some (.d (bD true), hpW g c .part acc (ints labs) U D fr) else none

theorem y64 (E : List (Int × Int)) (c : Bool) (w : Who) (acc : Int) (labs : List Int) (U D : List DV) (fr : List (List Bool)) (h7 : fr.length ≤ 7) (hl : labs.length = fr.length) :
    startS aeC (evY ⟨fr.length, E⟩ c fr w) 64 (w.B + 7 + fr.length) Try.f64 none ⟨envOf 0 (.d (iD fr.length) :: caps ⟨fr.length, E⟩ c w.B), hpW ⟨fr.length, E⟩ c w acc (ints labs) U D fr, []⟩ (doneE aeC Try.f64 (w.B + 7 + fr.length) fun v h => some (v, h)) =
      yieldR ⟨fr.length, E⟩ c acc labs U D fr w := by
  rcases fr with _ | ⟨f0, _ | ⟨f1, _ | ⟨f2, _ | ⟨f3, _ | ⟨f4, _ | ⟨f5, _ | ⟨f6, _ | ⟨f7, fr⟩⟩⟩⟩⟩⟩⟩⟩
  · obtain rfl := len0 (by simpa using hl)
    cases w <;> kernel_rfl
  · obtain ⟨a, rfl⟩ := len1 (by simpa using hl)
    cases w <;> kernel_rfl
  · obtain ⟨a, b, rfl⟩ := len2 (by simpa using hl)
    cases w <;> kernel_rfl
  · obtain ⟨a, b, d, rfl⟩ := len3 (by simpa using hl)
    cases w <;> kernel_rfl
  · obtain ⟨a, b, d, e, rfl⟩ := len4 (by simpa using hl)
    cases w <;> kernel_rfl
  · obtain ⟨a, b, d, e, f, rfl⟩ := len5 (by simpa using hl)
    cases w <;> kernel_rfl
  · obtain ⟨a, b, d, e, f, g, rfl⟩ := len6 (by simpa using hl)
    cases w <;> kernel_rfl
  · obtain ⟨a, b, d, e, f, g, i, rfl⟩ := len7 (by simpa using hl)
    cases w <;> kernel_rfl
  · simp at h7
    try omega
end Go.Proofs.Ytkcdbndpcabelaa

/- Chapter 02: graceful labels, one after the other: the values of a node. -/
namespace Go.Proofs.Ytkcdbndpcabelaa
open Go Go.AE

/-! ### What the walk comes to -/
/-- The differences of a node's edges are taken; none: one of them was taken. -/
def edgeS (labs : List Int) (node v : Int) : List (Int × Int) → List Bool → Option (List Bool)
  | [], ds => some ds
  | e :: r, ds => if e.2 = node then (if ds[dist (labAt labs e.1) v]? = some true then none else edgeS labs node v r (ds.set (dist (labAt labs e.1) v) true)) else edgeS labs node v r ds

inductive Out where
  | on (acc : Int)
  | off (found : List Int)
def Out.isOn : Out → Bool
  | .on _ => true
  | .off _ => false
def Out.acc : Out → Int
  | .on a => a
  | .off _ => 0
def Out.found : Out → List Int
  | .on _ => []
  | .off l => l

def yieldS (E : List (Int × Int)) (labs : List Int) (acc : Int) : Who → Out
  | .label => .off labs
  | .count => .on (IntKind.i64.wrap (acc + 1))
  | .part => if 0 ≤ partS labs E then .off labs else .on acc

/-- The values m + 1 - k and more of a node are tried, one after the other. -/
def scanW (next : List Int → List Bool → List Bool → Int → List Int × Out) (E : List (Int × Int)) (node : Nat) (used diffs : List Bool) : Nat → List Int → Int → List Int × Out
  | 0, labs, acc => (labs, .on acc)
  | k + 1, labs, acc =>
    if used[E.length - k]? = some true then scanW next E node used diffs k labs acc
    else match edgeS labs node (E.length - k : Nat) E diffs with
      | none => scanW next E node used diffs k labs acc
      | some now => match next (labs.set node (E.length - k : Nat)) (used.set (E.length - k) true) now acc with
        | (labs', .on acc') => scanW next E node used diffs k labs' acc'
        | (labs', .off l) => (labs', .off l)

/-- The walk, f nodes ahead of the end. -/
def putS (w : Who) (g : Gr) : Nat → List Int → List Bool → List Bool → Int → List Int × Out
  | 0, labs, _, _, acc => (labs, yieldS g.E labs acc w)
  | f + 1, labs, used, diffs, acc => scanW (putS w g f) g.E (g.n - (f + 1)) used diffs (g.E.length + 1) labs acc

/-- Labels, and what is taken, are in order. -/
def WOK (g : Gr) (labs : List Int) (used diffs : List Bool) : Prop := labs.length = g.n ∧ (∀ x ∈ labs, 0 ≤ x ∧ x ≤ g.E.length) ∧ used.length = 26 ∧ diffs.length = 26

/-- What a call of the walk is about. -/
def At64 (g : Gr) (c : Bool) (w : Who) (fr : List (List Bool)) (xs : List AV) (h : List Blk) : Prop := ∃ labs used diffs acc before, WOK g labs used diffs ∧ (w = .count ∨ acc = 0) ∧ xs = .d (iD ((fr.length + 1 : Nat) : Int)) :: caps g c w.B ∧
  h = preW g c acc w ++ (ownW g c w (ints labs) (bools used) (bools diffs) ++ (frB fr ++ [.dc (bools before)]))

def accD (h : List Blk) : Who → Int
  | .count => match nth h 0 with
    | some (.dc [.int _ n]) => n
    | _ => 0
  | _ => 0

noncomputable def pD (w : Who) (g : Gr) (f : Nat) (h : List Blk) : List Int × Out := putS w g f (unI (blkD h (w.B + 2))) (unB (blkD h (w.B + 4))) (unB (blkD h (w.B + 5))) (accD h w)

noncomputable def F64 (g : Gr) (c : Bool) (w : Who) (fr : List (List Bool)) (f : Nat) (xs : List AV) (h : List Blk) : Tr (AV × List Blk) :=
  .node (isP (At64 g c w fr xs h)) (.node (pD w g f h).2.isOn
    (.leaf (.d (bD true), preW g c (pD w g f h).2.acc w ++ (ownW g c w (ints (pD w g f h).1) (blkD h (w.B + 4)) (blkD h (w.B + 5)) ++ (frB fr ++ [.dc (blkD h (w.B + 7 + fr.length))]))))
    (match w with
      | .count => .fail
      | _ => .leaf (.d (bD false), offW g c (w.B + 7 + fr.length + 1) w ++ (ownW g c w (ints (pD w g f h).1) (blkD h (w.B + 4)) (blkD h (w.B + 5)) ++ (frB fr ++ [.dc (blkD h (w.B + 7 + fr.length)), .dc (ints (pD w g f h).2.found)]))))) .fail

noncomputable def evR (g : Gr) (c : Bool) (w : Who) (fr : List (List Bool)) (f : Nat) : Ev := ev7.addFn 64 (F64 g c w fr f)

theorem k64 : OkSeg Try.f64 none [0] := ⟨by kernel_rfl, by kernel_rfl, by decide⟩
theorem k64_0 : OkSeg Try.f64 (some 0) [2] := ⟨by kernel_rfl, by kernel_rfl, by decide⟩
theorem k64_2 : OkSeg Try.f64 (some 2) [] := ⟨by kernel_rfl, by kernel_rfl, by decide⟩

/-! ### The pieces of the walk's code -/
theorem e64 (g : Gr) (c : Bool) (w : Who) (f : Nat) (acc : Int) (L U D : List DV) (fr : List (List Bool)) (h6 : fr.length ≤ 6) :
    startS aeC (evR g c w fr f) 64 (w.B + 7 + fr.length) Try.f64 none ⟨envOf 0 (.d (iD fr.length) :: caps g c w.B), hpW g c w acc L U D fr, []⟩ (heldD aeC 64 (w.B + 7 + fr.length)) =
      bif decide ((fr.length : Int) = g.n) then none else some (0, sW g c w acc L U D fr 0) := by
  rcases fr with _ | ⟨f0, _ | ⟨f1, _ | ⟨f2, _ | ⟨f3, _ | ⟨f4, _ | ⟨f5, _ | ⟨f6, fr⟩⟩⟩⟩⟩⟩⟩
  · cases w <;> kernel_rfl
  · cases w <;> kernel_rfl
  · cases w <;> kernel_rfl
  · cases w <;> kernel_rfl
  · cases w <;> kernel_rfl
  · cases w <;> kernel_rfl
  · cases w <;> kernel_rfl
  · simp at h6
    try omega

theorem a64 (E : Ev) (g : Gr) (c : Bool) (w : Who) (acc : Int) (L U : List DV) (diffs : List Bool) (hd : diffs.length = 26) (fr : List (List Bool)) (h6 : fr.length ≤ 6) (v : Int) :
    startS aeC E 64 (w.B + 7 + fr.length) Try.f64 (some 0) (sW g c w acc L U (bools diffs) fr v) (heldD aeC 64 (w.B + 7 + fr.length)) =
      bif decide (v < IntKind.i64.wrap (g.m + 1)) then bif inRange v 26 then getB (nth U (0 + v.toNat * 1)) fun b => bif b then none else some (2, tW g c w acc L U (bools diffs) fr v (bools diffs) 0)
      else none else none := by
  obtain ⟨b0, b1, b2, b3, b4, b5, b6, b7, b8, b9, b10, b11, b12, b13, b14, b15, b16, b17, b18, b19, b20, b21, b22, b23, b24, b25, rfl⟩ := len26 hd
  rcases fr with _ | ⟨f0, _ | ⟨f1, _ | ⟨f2, _ | ⟨f3, _ | ⟨f4, _ | ⟨f5, _ | ⟨f6, fr⟩⟩⟩⟩⟩⟩⟩
  · cases w <;> kernel_rfl
  · cases w <;> kernel_rfl
  · cases w <;> kernel_rfl
  · cases w <;> kernel_rfl
  · cases w <;> kernel_rfl
  · cases w <;> kernel_rfl
  · cases w <;> kernel_rfl
  · simp at h6
    try omega

theorem b64 (E : Ev) (g : Gr) (c : Bool) (w : Who) (acc : Int) (L U : List DV) (diffs : List Bool) (hd : diffs.length = 26) (fr : List (List Bool)) (h6 : fr.length ≤ 6) (v : Int) :
    startS aeC E 64 (w.B + 7 + fr.length) Try.f64 (some 0) (sW g c w acc L U (bools diffs) fr v) (roundD aeC 64 (w.B + 7 + fr.length) 0) =
      bif decide (v < IntKind.i64.wrap (g.m + 1)) then bif inRange v 26 then getB (nth U (0 + v.toNat * 1)) fun b => bif b then some (.norm, sW g c w acc L U (bools diffs) fr (IntKind.i64.wrap (v + 1))) else none
      else none else some (.exit 0, ⟨[], hpW g c w acc L U (bools diffs) fr, []⟩) := by
  obtain ⟨b0, b1, b2, b3, b4, b5, b6, b7, b8, b9, b10, b11, b12, b13, b14, b15, b16, b17, b18, b19, b20, b21, b22, b23, b24, b25, rfl⟩ := len26 hd
  rcases fr with _ | ⟨f0, _ | ⟨f1, _ | ⟨f2, _ | ⟨f3, _ | ⟨f4, _ | ⟨f5, _ | ⟨f6, fr⟩⟩⟩⟩⟩⟩⟩
  · cases w <;> kernel_rfl
  · cases w <;> kernel_rfl
  · cases w <;> kernel_rfl
  · cases w <;> kernel_rfl
  · cases w <;> kernel_rfl
  · cases w <;> kernel_rfl
  · cases w <;> kernel_rfl
  · simp at h6
    try omega

theorem i64 (g : Gr) (c : Bool) (w : Who) (fr : List (List Bool)) (f : Nat) (acc : Int) (labs : List Int) (U : List DV) (diffs : List Bool) (hd : diffs.length = 26) (h6 : fr.length ≤ 6) (v : Int) (now : List Bool) (hn : now.length = 26) (i : Int) :
    startS aeC (evR g c w fr f) 64 (w.B + 7 + fr.length) Try.f64 (some 2) (tW g c w acc (ints labs) U (bools diffs) fr v (bools now) i) (roundD aeC 64 (w.B + 7 + fr.length) 2) =
      bif decide (i < g.m) then bif inRange i g.m then
        getI (nth g.es (i.toNat * 2)) fun a => getI (nth g.es (i.toNat * 2 + 1)) fun b =>
          bif !decide (b = fr.length) then some (.norm, tW g c w acc (ints labs) U (bools diffs) fr v (bools now) (IntKind.i64.wrap (i + 1)))
          else bif inRange a g.n && true then getI (nth (ints labs) (0 + a.toNat * 1)) fun x =>
            bif inRange (IntKind.i64.wrap (max x v - min x v)) 26 then getB (nth (bools now) (0 + (IntKind.i64.wrap (max x v - min x v)).toNat * 1)) fun y =>
              bif y then some (.exit 1, ⟨(sW g c w acc (ints labs) U (bools diffs) fr v).env, hpW g c w acc (ints labs) U (bools diffs) fr, []⟩)
              else bif inRange (IntKind.i64.wrap (max x v - min x v)) 26 then bif Nat.ble (0 + (IntKind.i64.wrap (max x v - min x v)).toNat * 1 + 1) (bools now).length && true then
                some (.norm, tW g c w acc (ints labs) U (bools diffs) fr v (setNth (bools now) (0 + (IntKind.i64.wrap (max x v - min x v)).toNat * 1) (bD true)) (IntKind.i64.wrap (i + 1)))
              else none else none
            else none
          else none
        else none
      else some (.exit 2, uW g c w acc (ints labs) U (bools diffs) fr v (bools now)) := by
  obtain ⟨b0, b1, b2, b3, b4, b5, b6, b7, b8, b9, b10, b11, b12, b13, b14, b15, b16, b17, b18, b19, b20, b21, b22, b23, b24, b25, rfl⟩ := len26 hd
  obtain ⟨n0, n1, n2, n3, n4, n5, n6, n7, n8, n9, n10, n11, n12, n13, n14, n15, n16, n17, n18, n19, n20, n21, n22, n23, n24, n25, rfl⟩ := len26 hn
  rcases fr with _ | ⟨f0, _ | ⟨f1, _ | ⟨f2, _ | ⟨f3, _ | ⟨f4, _ | ⟨f5, _ | ⟨f6, fr⟩⟩⟩⟩⟩⟩⟩
  · cases w <;> kernel_rfl
  · cases w <;> kernel_rfl
  · cases w <;> kernel_rfl
  · cases w <;> kernel_rfl
  · cases w <;> kernel_rfl
  · cases w <;> kernel_rfl
  · cases w <;> kernel_rfl
  · simp at h6
    try omega

/-- The call's arguments, and its memory. -/
noncomputable def xsW (g : Gr) (c : Bool) (w : Who) (fr : List (List Bool)) : List AV := .d (iD (IntKind.i64.wrap (fr.length + 1))) :: caps g c w.B
noncomputable def hsW (g : Gr) (c : Bool) (w : Who) (fr : List (List Bool)) (acc : Int) (L U : List DV) (diffs now : List Bool) (v : Int) : List Blk :=
  preW g c acc w ++ (ownW g c w (setNth L (0 + Int.toNat fr.length * 1) (iD v)) (setNth U (0 + v.toNat * 1) (bD true)) (bools now) ++ (frB fr ++ [.dc (bools diffs)]))

theorem u64 (g : Gr) (c : Bool) (w : Who) (fr : List (List Bool)) (f : Nat) (acc : Int) (L U : List DV) (diffs : List Bool) (hd : diffs.length = 26) (h6 : fr.length ≤ 6) (v : Int) (now : List Bool) (hn : now.length = 26) :
    nextS aeC (evR g c w fr f) 64 (w.B + 7 + fr.length) Try.f64 (some 0) 2 (.exit 2) (uW g c w acc L U (bools diffs) fr v (bools now)) (roundD aeC 64 (w.B + 7 + fr.length) 0) =
      bif inRange fr.length g.n && true then bif Nat.ble (0 + Int.toNat fr.length * 1 + 1) L.length && true then
        bif inRange v 26 then bif Nat.ble (0 + v.toNat * 1 + 1) U.length && true then
          bif isP (At64 g c w fr (xsW g c w fr) (hsW g c w fr acc L U diffs now v)) then
            bif (pD w g f (hsW g c w fr acc L U diffs now v)).2.isOn then
              bif inRange v 26 then bif Nat.ble (0 + v.toNat * 1 + 1) (setNth U (0 + v.toNat * 1) (bD true)).length && true then
                some (.norm, sW g c w (pD w g f (hsW g c w fr acc L U diffs now v)).2.acc (ints (pD w g f (hsW g c w fr acc L U diffs now v)).1) (setNth (setNth U (0 + v.toNat * 1) (bD true)) (0 + v.toNat * 1) (bD false)) (bools diffs) fr (IntKind.i64.wrap (v + 1)))
              else none else none
            else match w with
              | .count => none
              | w => bif inRange v 26 then bif Nat.ble (0 + v.toNat * 1 + 1) (setNth U (0 + v.toNat * 1) (bD true)).length && true then
                some (.ret, ⟨[(9, .d (bD false))], hfW g c w (ints (pD w g f (hsW g c w fr acc L U diffs now v)).1) (setNth (setNth U (0 + v.toNat * 1) (bD true)) (0 + v.toNat * 1) (bD false)) (bools diffs) fr (pD w g f (hsW g c w fr acc L U diffs now v)).2.found, []⟩)
              else none else none
          else none
        else none else none
      else none else none := by
  obtain ⟨b0, b1, b2, b3, b4, b5, b6, b7, b8, b9, b10, b11, b12, b13, b14, b15, b16, b17, b18, b19, b20, b21, b22, b23, b24, b25, rfl⟩ := len26 hd
  obtain ⟨n0, n1, n2, n3, n4, n5, n6, n7, n8, n9, n10, n11, n12, n13, n14, n15, n16, n17, n18, n19, n20, n21, n22, n23, n24, n25, rfl⟩ := len26 hn
  rcases fr with _ | ⟨f0, _ | ⟨f1, _ | ⟨f2, _ | ⟨f3, _ | ⟨f4, _ | ⟨f5, _ | ⟨f6, fr⟩⟩⟩⟩⟩⟩⟩
  · cases w <;> kernel_rfl
  · cases w <;> kernel_rfl
  · cases w <;> kernel_rfl
  · cases w <;> kernel_rfl
  · cases w <;> kernel_rfl
  · cases w <;> kernel_rfl
  · cases w <;> kernel_rfl
  · simp at h6
    try omega

theorem x64 (E : Ev) (g : Gr) (c : Bool) (w : Who) (fr : List (List Bool)) (acc : Int) (L U D : List DV) (h6 : fr.length ≤ 6) :
    nextS aeC E 64 (w.B + 7 + fr.length) Try.f64 none 0 (.exit 0) ⟨[], hpW g c w acc L U D fr, []⟩ (doneE aeC Try.f64 (w.B + 7 + fr.length) fun v h => some (v, h)) =
      some (.d (bD true), hpW g c w acc L U D fr) := by
  rcases fr with _ | ⟨f0, _ | ⟨f1, _ | ⟨f2, _ | ⟨f3, _ | ⟨f4, _ | ⟨f5, _ | ⟨f6, fr⟩⟩⟩⟩⟩⟩⟩
  · cases w <;> kernel_rfl
  · cases w <;> kernel_rfl
  · cases w <;> kernel_rfl
  · cases w <;> kernel_rfl
  · cases w <;> kernel_rfl
  · cases w <;> kernel_rfl
  · cases w <;> kernel_rfl
  · simp at h6
    try omega

theorem z64 (E : Ev) (g : Gr) (c : Bool) (w : Who) (hw : w ≠ .count) (fr : List (List Bool)) (L U D : List DV) (h6 : fr.length ≤ 6) (l : List Int) :
    nextS aeC E 64 (w.B + 7 + fr.length) Try.f64 none 0 .ret ⟨[(9, .d (bD false))], hfW g c w L U D fr l, []⟩ (doneE aeC Try.f64 (w.B + 7 + fr.length) fun v h => some (v, h)) =
      some (.d (bD false), hfW g c w L U D fr l) := by
  cases w
  · rcases fr with _ | ⟨f0, _ | ⟨f1, _ | ⟨f2, _ | ⟨f3, _ | ⟨f4, _ | ⟨f5, _ | ⟨f6, fr⟩⟩⟩⟩⟩⟩⟩
    · kernel_rfl
    · kernel_rfl
    · kernel_rfl
    · kernel_rfl
    · kernel_rfl
    · kernel_rfl
    · kernel_rfl
    · simp at h6
      try omega
  · exact absurd rfl hw
  · rcases fr with _ | ⟨f0, _ | ⟨f1, _ | ⟨f2, _ | ⟨f3, _ | ⟨f4, _ | ⟨f5, _ | ⟨f6, fr⟩⟩⟩⟩⟩⟩⟩
    · kernel_rfl
    · kernel_rfl
    · kernel_rfl
    · kernel_rfl
    · kernel_rfl
    · kernel_rfl
    · kernel_rfl
    · simp at h6
      try omega
end Go.Proofs.Ytkcdbndpcabelaa

/- Chapter 02: graceful labels, one after the other: the walk. -/
namespace Go.Proofs.Ytkcdbndpcabelaa
open Go Go.AE

theorem setNth_ints : ∀ (l : List Int) (i : Nat) (b : Int), setNth (ints l) i (iD b) = ints (l.set i b)
  | [], i, b => by simp [ints, setNth]
  | x :: l, 0, b => rfl
  | x :: l, i + 1, b => by
    show iD x :: setNth (ints l) i (iD b) = iD x :: ints (l.set i b)
    rw [setNth_ints l i b]

theorem edgeS_length {labs : List Int} {node v : Int} : ∀ {E : List (Int × Int)} {ds ds' : List Bool}, edgeS labs node v E ds = some ds' → ds'.length = ds.length
  | [], _, _, h => by simp only [edgeS, Option.some.injEq] at h; rw [h]
  | e :: r, ds, ds', h => by
    simp only [edgeS] at h
    split at h
    · split at h
      · cases h
      · have := edgeS_length h; simpa using this
    · exact edgeS_length h

/-- What stays in order. -/
def InvW (w : Who) (g : Gr) (p : List Int × Out) : Prop := p.1.length = g.n ∧ (∀ x ∈ p.1, 0 ≤ x ∧ x ≤ g.E.length) ∧ (match p.2 with | .on a => w = .count ∨ a = 0 | .off _ => w ≠ .count)

theorem scanW_inv {w : Who} {g : Gr} {next : List Int → List Bool → List Bool → Int → List Int × Out} {node : Nat} {used diffs : List Bool} (hu : used.length = 26) (hd : diffs.length = 26)
    (hnext : ∀ labs used diffs acc, WOK g labs used diffs → (w = .count ∨ acc = 0) → InvW w g (next labs used diffs acc)) :
    ∀ (k : Nat) (labs : List Int) (acc : Int), k ≤ g.E.length + 1 → WOK g labs used diffs → (w = .count ∨ acc = 0) → InvW w g (scanW next g.E node used diffs k labs acc)
  | 0, labs, acc, _, h, ha => ⟨h.1, h.2.1, ha⟩
  | k + 1, labs, acc, hk, h, ha => by
    simp only [scanW]
    split
    · exact scanW_inv hu hd hnext k labs acc (by omega) h ha
    · split
      · exact scanW_inv hu hd hnext k labs acc (by omega) h ha
      · rename_i now hnow
        have hin := hnext (labs.set node (g.E.length - k : Nat)) (used.set (g.E.length - k) true) now acc ⟨by simpa using h.1, ?_, by simpa using hu, (edgeS_length hnow).trans hd⟩ ha
        · split
          · rename_i labs' acc' e
            rw [e] at hin
            exact scanW_inv hu hd hnext k labs' acc' (by omega) ⟨hin.1, hin.2.1, hu, hd⟩ hin.2.2
          · rename_i labs' l e
            rw [e] at hin
            exact hin
        · intro x hx
          rcases List.mem_or_eq_of_mem_set hx with hx | rfl
          · exact h.2.1 x hx
          · omega

theorem putS_inv {w : Who} {g : Gr} : ∀ (f : Nat) (labs : List Int) (used diffs : List Bool) (acc : Int), WOK g labs used diffs → (w = .count ∨ acc = 0) → InvW w g (putS w g f labs used diffs acc)
  | 0, labs, used, diffs, acc, h, ha => by
    refine ⟨h.1, h.2.1, ?_⟩
    cases w with
    | label => simp [putS, yieldS]
    | count => simp [putS, yieldS]
    | part =>
      simp only [putS, yieldS]
      split
      · rename_i e; split at e
        · cases e
        · cases e; exact ha
      · simp
  | f + 1, labs, used, diffs, acc, h, ha => scanW_inv h.2.2.1 h.2.2.2 (fun labs used diffs acc h ha => putS_inv f labs used diffs acc h ha) _ _ _ (Nat.le_refl _) h ha

theorem hpW_length (g : Gr) (c : Bool) (w : Who) (acc : Int) (L U D : List DV) (fr : List (List Bool)) : (hpW g c w acc L U D fr).length = w.B + 7 + fr.length := by
  cases w <;> simp [hpW, preW, ownW, frB, Who.B] <;> omega

theorem c64 (E : Ev) (g : Gr) (c : Bool) (w : Who) (fr : List (List Bool)) (acc : Int) (L U D : List DV) (h6 : fr.length ≤ 6) (v : Int) :
    nextS aeC E 64 (w.B + 7 + fr.length) Try.f64 (some 0) 2 (.exit 1) ⟨(sW g c w acc L U D fr v).env, hpW g c w acc L U D fr, []⟩ (roundD aeC 64 (w.B + 7 + fr.length) 0) =
      some (.norm, sW g c w acc L U D fr (IntKind.i64.wrap (v + 1))) := by
  rcases fr with _ | ⟨f0, _ | ⟨f1, _ | ⟨f2, _ | ⟨f3, _ | ⟨f4, _ | ⟨f5, _ | ⟨f6, fr⟩⟩⟩⟩⟩⟩⟩
  · cases w <;> kernel_rfl
  · cases w <;> kernel_rfl
  · cases w <;> kernel_rfl
  · cases w <;> kernel_rfl
  · cases w <;> kernel_rfl
  · cases w <;> kernel_rfl
  · cases w <;> kernel_rfl
  · simp at h6
    try omega

/-- What a call comes to. -/
noncomputable def resH (g : Gr) (c : Bool) (w : Who) (fr : List (List Bool)) (used diffs : List Bool) (p : List Int × Out) : List Blk := match p.2 with
  | .on a => hpW g c w a (ints p.1) (bools used) (bools diffs) fr
  | .off l => hfW g c w (ints p.1) (bools used) (bools diffs) fr l

def PutOK (g : Gr) (c : Bool) (w : Who) (f : Nat) : Prop := ∀ (fr : List (List Bool)) (labs : List Int) (used diffs : List Bool) (acc : Int), fr.length + f = g.n → WOK g labs used diffs → (w = .count ∨ acc = 0) →
  CallOK Try.prog 64 (.d (iD fr.length) :: caps g c w.B) (hpW g c w acc (ints labs) (bools used) (bools diffs) fr) (.d (bD (putS w g f labs used diffs acc).2.isOn)) (resH g c w fr used diffs (putS w g f labs used diffs acc))

theorem nth_append {α : Type} : ∀ (a b : List α) (k : Nat), nth (a ++ b) (a.length + k) = nth b k
  | [], b, k => by simp
  | x :: a, b, k => by
    have : (x :: a).length + k = (a.length + k) + 1 := by simp only [List.length_cons]; omega
    rw [this]
    exact nth_append a b k

section
variable (g : Gr) (c : Bool) (w : Who) (acc : Int) (L U D : List DV) (r : List Blk)
theorem blk2 : blkD (preW g c acc w ++ (ownW g c w L U D ++ r)) (w.B + 2) = L := by cases w <;> rfl
theorem blk4 : blkD (preW g c acc w ++ (ownW g c w L U D ++ r)) (w.B + 4) = U := by cases w <;> rfl
theorem blk5 : blkD (preW g c acc w ++ (ownW g c w L U D ++ r)) (w.B + 5) = D := by cases w <;> rfl
theorem acc0 (h : w = .count ∨ acc = 0) : accD (preW g c acc w ++ (ownW g c w L U D ++ r)) w = acc := by
  rcases h with rfl | rfl
  · rfl
  · cases w <;> rfl
theorem blk7 (fr : List (List Bool)) (b : List DV) : blkD (preW g c acc w ++ (ownW g c w L U D ++ (frB fr ++ [.dc b]))) (w.B + 7 + fr.length) = b := by
  have h1 : (hpW g c w acc L U D fr).length = w.B + 7 + fr.length := hpW_length ..
  have h2 : preW g c acc w ++ (ownW g c w L U D ++ (frB fr ++ [.dc b])) = hpW g c w acc L U D fr ++ [.dc b] := by simp [hpW]
  rw [h2, blkD, ← h1, show (hpW g c w acc L U D fr).length = (hpW g c w acc L U D fr).length + 0 by rfl, nth_append]
  rfl
end

theorem frB_append (fr : List (List Bool)) (b : List Bool) : frB (fr ++ [b]) = frB fr ++ [.dc (bools b)] := by simp [frB]

theorem evR_ok {g : Gr} {c : Bool} {w : Who} {f : Nat} (hf : PutOK g c w f) {fr : List (List Bool)} (hn : fr.length + 1 + f = g.n) : EvOK Try.prog (evR g c w fr f) := by
  refine EvOK.addFn ev7_ok ?_
  intro xs h v h' e
  simp only [F64, Tr.val] at e
  obtain ⟨hg, e2⟩ := cond_none e
  clear e
  obtain ⟨labs, used, diffs, acc, before, h1, h2, rfl, rfl⟩ := isP_iff.1 hg
  have main := hf (fr ++ [before]) labs used diffs acc (by simp; omega) h1 h2
  have hinv := putS_inv (w := w) f labs used diffs acc h1 h2
  simp only [pD, blk2, blk4, blk5, blk7, acc0 _ _ _ _ _ _ _ _ h2, unI_ints, unB_bools] at e2
  rw [show (fr ++ [before]).length = fr.length + 1 by simp, show hpW g c w acc (ints labs) (bools used) (bools diffs) (fr ++ [before]) = preW g c acc w ++ (ownW g c w (ints labs) (bools used) (bools diffs) ++ (frB fr ++ [.dc (bools before)])) by rw [hpW, frB_append]] at main
  generalize putS w g f labs used diffs acc = p at main e2 hinv
  obtain ⟨labs', o⟩ := p
  cases o with
  | on a =>
    simp only [Out.isOn, Out.acc, cond_true, Option.some.injEq, Prod.mk.injEq] at e2
    obtain ⟨rfl, rfl⟩ := e2
    simp only [resH, hpW, frB_append] at main
    exact main
  | off l =>
    have hw : w ≠ .count := hinv.2.2
    simp only [Out.isOn, Out.found, cond_false] at e2
    simp only [resH, hfW, frB_append, List.length_append, List.length_singleton, List.append_assoc, List.singleton_append] at main
    have e' : some (AV.d (bD false), offW g c (w.B + 7 + fr.length + 1) w ++ (ownW g c w (ints labs') (bools used) (bools diffs) ++ (frB fr ++ [.dc (bools before), .dc (ints l)]))) = some (v, h') := by
      cases w with
      | count => exact absurd rfl hw
      | label => exact e2
      | part => exact e2
    simp only [Option.some.injEq, Prod.mk.injEq] at e'
    obtain ⟨rfl, rfl⟩ := e'
    simpa [Nat.add_assoc, Out.isOn] using main

/-- The edges of a node. -/
theorem loop2 (g : Gr) (hg : GrOK g) (c : Bool) (w : Who) (f : Nat) (fr : List (List Bool)) (hn : fr.length + 1 + f = g.n) (acc : Int) (labs : List Int) (used diffs : List Bool) (h : WOK g labs used diffs) (v : Nat) (hv : v ≤ g.E.length) (s : St)
    (hs : tidyP (w.B + 7 + fr.length) (aeC.pol 64 2) s = some (tW g c w acc (ints labs) (bools used) (bools diffs) fr v (bools diffs) 0)) :
    LoopR aeC (evR g c w fr f) 64 (w.B + 7 + fr.length) Try.f64 2 s (match edgeS labs fr.length v g.E diffs with | none => .exit 1 | some _ => .exit 2)
      (match edgeS labs fr.length v g.E diffs with | none => ⟨(sW g c w acc (ints labs) (bools used) (bools diffs) fr v).env, hpW g c w acc (ints labs) (bools used) (bools diffs) fr, []⟩ | some now => uW g c w acc (ints labs) (bools used) (bools diffs) fr v (bools now)) := by
  obtain ⟨g1, g2, g3, g4, g5⟩ := hg
  obtain ⟨h1, h2, h3, h4⟩ := h
  have h6 : fr.length ≤ 6 := by omega
  have := loopR_ok (C := aeC) (E := evR g c w fr f) (fid := 64) (base := w.B + 7 + fr.length) (fn := Try.f64) (t := 2) k64_2 (α := { p : Nat × List Bool // p.1 ≤ g.E.length ∧ p.2.length = 26 }) (fun p => tW g c w acc (ints labs) (bools used) (bools diffs) fr v (bools p.1.2) p.1.1) (fun p => g.E.length - p.1.1)
    (fun p => (match edgeS labs fr.length v (g.E.drop p.1.1) p.1.2 with | none => .exit 1 | some _ => .exit 2,
      match edgeS labs fr.length v (g.E.drop p.1.1) p.1.2 with | none => ⟨(sW g c w acc (ints labs) (bools used) (bools diffs) fr v).env, hpW g c w acc (ints labs) (bools used) (bools diffs) fr, []⟩ | some now => uW g c w acc (ints labs) (bools used) (bools diffs) fr v (bools now))) ?_ ⟨(0, diffs), by simp [h4]⟩ s hs
  · exact this
  rintro ⟨⟨i, now⟩, hi, hnow⟩
  simp only at hi hnow ⊢
  have hr := i64 g c w fr f acc labs (bools used) diffs h4 h6 v now hnow i
  by_cases hlt : i < g.E.length
  · have hdr : g.E.drop i = g.E[i] :: g.E.drop (i + 1) := by rw [List.drop_eq_getElem_cons hlt]
    have he := g5 g.E[i] (List.getElem_mem hlt)
    have hnth := nth_ed g.E i
    have hop : g.E[i]? = some g.E[i] := by simp [hlt]
    rw [hop] at hnth
    have e1 : decide ((i : Int) < (g.m : Int)) = true := by simp [Gr.m]; omega
    have e2 : inRange (i : Int) g.m = true := inRange_of (by omega) (by simp [Gr.m]; omega)
    rw [e1, e2, show Int.toNat (i : Int) = i by simp, show nth g.es (i * 2) = some (iD g.E[i].1) from hnth.1, show nth g.es (i * 2 + 1) = some (iD g.E[i].2) from hnth.2] at hr
    simp only [cond_true, getI_some] at hr
    by_cases hb : g.E[i].2 = fr.length
    · have e3 : inRange g.E[i].1 g.n = true := inRange_of (by omega) (by omega)
      have hx : 0 ≤ labAt labs g.E[i].1 ∧ labAt labs g.E[i].1 ≤ g.E.length := by
        have hlt' : g.E[i].1.toNat < labs.length := by omega
        have : labAt labs g.E[i].1 = labs[g.E[i].1.toNat] := by simp [labAt, hlt']
        rw [this]
        exact h2 _ (List.getElem_mem hlt')
      rw [hb] at hr
      simp only [decide_true, Bool.not_true, cond_false, e3, Bool.and_self, cond_true] at hr
      rw [show (0 + g.E[i].1.toNat * 1) = g.E[i].1.toNat * 1 by omega, nth_lab (by omega) (by omega)] at hr
      simp only [getI_some] at hr
      generalize hxv : labAt labs g.E[i].1 = x at hr hx
      have e5 : IntKind.i64.wrap (max x (v : Int) - min x v) = max x (v : Int) - min x v := wrap64 (by omega) (by omega)
      have e6 : inRange (max x (v : Int) - min x v) 26 = true := inRange_of (by omega) (by omega)
      have hdlt : dist x v < now.length := by unfold dist; omega
      have e7 : (0 + Int.toNat (max x (v : Int) - min x v) * 1) = dist x v := by unfold dist; omega
      have e8 : nth (bools now) (dist x v) = some (bD now[dist x v]) := by rw [nth_bools]; simp [hdlt]
      have e9 : Nat.ble (dist x v + 1) (bools now).length = true := by rw [length_bools]; exact Nat.ble_eq_true_of_le hdlt
      have hop2 : now[dist x v]? = some now[dist x v] := by simp [hdlt]
      rw [e5, e6, e7, e8] at hr
      simp only [cond_true, getB_some, e9, Bool.and_self] at hr
      cases hbit : now[dist x v] with
      | true =>
        right
        have ha : edgeS labs fr.length v (g.E.drop i) now = none := by rw [hdr]; simp only [edgeS, hb, if_true, hxv, hop2, hbit]
        rw [ha]
        rw [hbit] at hr
        exact ⟨by simp, startF_done k64_2 roundD_plain hr⟩
      | false =>
        left
        have ha : edgeS labs fr.length v (g.E.drop i) now = edgeS labs fr.length v (g.E.drop (i + 1)) (now.set (dist x v) true) := by rw [hdr]; simp only [edgeS, hb, if_true, hxv, hop2, hbit]; simp
        rw [hbit, wrap64 (n := (i : Int) + 1) (by omega) (by omega), setNth_bools] at hr
        exact ⟨⟨(i + 1, now.set (dist x v) true), hlt, by simpa using hnow⟩, by simp; omega, startF_done k64_2 roundD_plain hr, by simp only [ha]⟩
    · left
      have ha : edgeS labs fr.length v (g.E.drop i) now = edgeS labs fr.length v (g.E.drop (i + 1)) now := by rw [hdr]; simp only [edgeS, hb, if_false]
      rw [decide_eq_false hb] at hr
      simp only [Bool.not_false, cond_true] at hr
      rw [wrap64 (by omega) (by omega)] at hr
      exact ⟨⟨(i + 1, now), hlt, hnow⟩, by simp; omega, startF_done k64_2 roundD_plain hr, by simp only [ha]⟩
  · right
    have hdr : g.E.drop i = [] := List.drop_eq_nil_of_le (by omega)
    simp only [hdr, edgeS]
    have e1 : decide ((i : Int) < (g.m : Int)) = false := by simp [Gr.m]; omega
    rw [e1] at hr
    exact ⟨by simp, startF_done k64_2 roundD_plain hr⟩

/-- What the loop over the values comes to. -/
noncomputable def exO (p : List Int × Out) : Ex := match p.2 with
  | .on _ => .exit 0
  | .off _ => .ret
noncomputable def stO (g : Gr) (c : Bool) (w : Who) (fr : List (List Bool)) (used diffs : List Bool) (p : List Int × Out) : St := match p.2 with
  | .on a => ⟨[], hpW g c w a (ints p.1) (bools used) (bools diffs) fr, []⟩
  | .off l => ⟨[(9, .d (bD false))], hfW g c w (ints p.1) (bools used) (bools diffs) fr l, []⟩

/-- The values of a node. -/
theorem loop0 (g : Gr) (hg : GrOK g) (c : Bool) (w : Who) (f : Nat) (fr : List (List Bool)) (hn : fr.length + 1 + f = g.n) (acc : Int) (labs : List Int) (used diffs : List Bool) (h : WOK g labs used diffs) (hacc : w = .count ∨ acc = 0) (s : St)
    (hs : tidyP (w.B + 7 + fr.length) (aeC.pol 64 0) s = some (sW g c w acc (ints labs) (bools used) (bools diffs) fr 0)) :
    LoopR aeC (evR g c w fr f) 64 (w.B + 7 + fr.length) Try.f64 0 s (exO (putS w g (f + 1) labs used diffs acc)) (stO g c w fr used diffs (putS w g (f + 1) labs used diffs acc)) := by
  have hg' := hg
  obtain ⟨g1, g2, g3, g4, g5⟩ := hg'
  have h3 := h.2.2.1
  have h4 := h.2.2.2
  have h6 : fr.length ≤ 6 := by omega
  have hnode : g.n - (f + 1) = fr.length := by omega
  have := loopR_ok (C := aeC) (E := evR g c w fr f) (fid := 64) (base := w.B + 7 + fr.length) (fn := Try.f64) (t := 0) k64_0
    (α := { p : Nat × List Int × Int // p.1 ≤ g.E.length + 1 ∧ WOK g p.2.1 used diffs ∧ (w = .count ∨ p.2.2 = 0) }) (fun p => sW g c w p.1.2.2 (ints p.1.2.1) (bools used) (bools diffs) fr (g.E.length + 1 - p.1.1 : Nat)) (fun p => p.1.1)
    (fun p => (exO (scanW (putS w g f) g.E fr.length used diffs p.1.1 p.1.2.1 p.1.2.2), stO g c w fr used diffs (scanW (putS w g f) g.E fr.length used diffs p.1.1 p.1.2.1 p.1.2.2))) ?_ ⟨(g.E.length + 1, labs, acc), by simp, h, hacc⟩ s (by simpa using hs)
  · simp only [putS, hnode]; exact this
  clear hs h hacc
  rintro ⟨⟨k, labs, acc⟩, hk, h, hacc⟩
  simp only at hk h hacc ⊢
  have ew : IntKind.i64.wrap ((g.m : Int) + 1) = g.m + 1 := wrap64 (by omega) (by simp [Gr.m]; omega)
  cases k with
  | zero =>
    right
    have hr := b64 (evR g c w fr f) g c w acc (ints labs) (bools used) diffs h4 fr h6 (g.E.length + 1 - 0 : Nat)
    have e1 : decide (((g.E.length + 1 - 0 : Nat) : Int) < g.m + 1) = false := by simp [Gr.m]
    rw [ew, e1] at hr
    simp only [scanW, exO, stO]
    exact ⟨by simp, startF_done k64_0 roundD_plain hr⟩
  | succ k =>
    have ev : g.E.length + 1 - (k + 1) = g.E.length - k := by omega
    have ev2 : (((g.E.length - k : Nat) : Int) + 1) = ((g.E.length + 1 - k : Nat) : Int) := by omega
    rw [ev]
    have hvlt : g.E.length - k < used.length := by omega
    have e1 : decide (((g.E.length - k : Nat) : Int) < g.m + 1) = true := decide_eq_true (by unfold Gr.m; omega)
    have e2 : inRange ((g.E.length - k : Nat) : Int) 26 = true := inRange_of (by omega) (by omega)
    have e3 : nth (bools used) (0 + Int.toNat ((g.E.length - k : Nat) : Int) * 1) = some (bD used[g.E.length - k]) := by
      rw [show 0 + Int.toNat ((g.E.length - k : Nat) : Int) * 1 = g.E.length - k by omega, nth_bools]; simp [hvlt]
    have hop : used[g.E.length - k]? = some used[g.E.length - k] := by simp [hvlt]
    cases hbit : used[g.E.length - k] with
    | true =>
      left
      have hr := b64 (evR g c w fr f) g c w acc (ints labs) (bools used) diffs h4 fr h6 (g.E.length - k : Nat)
      rw [ew, e1, e2, e3, hbit, wrap64 (by omega) (by omega), ev2] at hr
      simp only [cond_true, getB_some] at hr
      have hsc : scanW (putS w g f) g.E fr.length used diffs (k + 1) labs acc = scanW (putS w g f) g.E fr.length used diffs k labs acc := by simp only [scanW, hop, hbit, if_true]
      exact ⟨⟨(k, labs, acc), by omega, h, hacc⟩, by simp, startF_done k64_0 roundD_plain hr, by simp only [hsc]⟩
    | false =>
      have hr := a64 (evR g c w fr f) g c w acc (ints labs) (bools used) diffs h4 fr h6 (g.E.length - k : Nat)
      rw [ew, e1, e2, e3, hbit] at hr
      simp only [cond_true, getB_some, cond_false] at hr
      have hnx := (startF_at k64_0 hr (fun s hs => loop2 g hg c w f fr hn acc labs used diffs h (g.E.length - k) (by omega) s hs)).2
      cases hed : edgeS labs fr.length (g.E.length - k : Nat) g.E diffs with
      | none =>
        left
        rw [hed] at hnx
        have hc := c64 (evR g c w fr f) g c w fr acc (ints labs) (bools used) (bools diffs) h6 (g.E.length - k : Nat)
        rw [wrap64 (by omega) (by omega), ev2] at hc
        have hsc : scanW (putS w g f) g.E fr.length used diffs (k + 1) labs acc = scanW (putS w g f) g.E fr.length used diffs k labs acc := by simp only [scanW, hop, hbit, hed]; simp
        exact ⟨⟨(k, labs, acc), by omega, h, hacc⟩, by simp, (hnx _ _).trans (nextF_done k64_0 roundD_plain hc), by simp only [hsc]⟩
      | some now =>
        rw [hed] at hnx
        have hnow := (edgeS_length hed).trans h4
        have hu := u64 g c w fr f acc (ints labs) (bools used) diffs h4 h6 (g.E.length - k : Nat) now hnow
        have hw2 : WOK g (labs.set fr.length (g.E.length - k : Nat)) (used.set (g.E.length - k) true) now := by
          refine ⟨by simpa using h.1, ?_, by simpa using h3, hnow⟩
          intro x hx
          rcases List.mem_or_eq_of_mem_set hx with hx | rfl
          · exact h.2.1 x hx
          · omega
        have hback : (used.set (g.E.length - k) true).set (g.E.length - k) false = used := by
          rw [List.set_set, ← hbit, List.set_getElem_self]
        have eh : hsW g c w fr acc (ints labs) (bools used) diffs now ((g.E.length - k : Nat) : Int) = preW g c acc w ++ (ownW g c w (ints (labs.set fr.length (g.E.length - k : Nat))) (bools (used.set (g.E.length - k) true)) (bools now) ++ (frB fr ++ [.dc (bools diffs)])) := by
          unfold hsW
          rw [show 0 + Int.toNat (fr.length : Int) * 1 = fr.length by omega, show 0 + Int.toNat ((g.E.length - k : Nat) : Int) * 1 = g.E.length - k by omega, setNth_ints, setNth_bools]
        have ex : xsW g c w fr = .d (iD ((fr.length + 1 : Nat) : Int)) :: caps g c w.B := by
          unfold xsW; rw [wrap64 (by omega) (by omega)]; simp
        have eat : isP (At64 g c w fr (xsW g c w fr) (hsW g c w fr acc (ints labs) (bools used) diffs now ((g.E.length - k : Nat) : Int))) = true :=
          isP_iff.2 ⟨_, _, _, acc, diffs, hw2, hacc, ex, eh⟩
        have epd : pD w g f (hsW g c w fr acc (ints labs) (bools used) diffs now ((g.E.length - k : Nat) : Int)) = putS w g f (labs.set fr.length (g.E.length - k : Nat)) (used.set (g.E.length - k) true) now acc := by
          rw [eh]
          simp only [pD, blk2, blk4, blk5, acc0 _ _ _ _ _ _ _ _ hacc, unI_ints, unB_bools]
        have q1 : inRange (fr.length : Int) g.n = true := inRange_of (by omega) (by omega)
        have q2 : Nat.ble (0 + Int.toNat (fr.length : Int) * 1 + 1) (ints labs).length = true := by rw [length_ints]; exact Nat.ble_eq_true_of_le (by have := h.1; omega)
        have q3 : Nat.ble (0 + Int.toNat ((g.E.length - k : Nat) : Int) * 1 + 1) (bools used).length = true := by rw [length_bools]; exact Nat.ble_eq_true_of_le (by omega)
        have q4 : 0 + Int.toNat ((g.E.length - k : Nat) : Int) * 1 = g.E.length - k := by omega
        have q5 : Nat.ble (g.E.length - k + 1) (bools (used.set (g.E.length - k) true)).length = true := by rw [length_bools]; exact Nat.ble_eq_true_of_le (by simp; omega)
        rw [q1, q2, q3, e2, eat, epd, q4, setNth_bools, setNth_bools, hback, q5, wrap64 (by omega) (by omega), ev2] at hu
        simp only [Bool.and_self, cond_true] at hu
        have hin := putS_inv (w := w) f _ _ _ acc hw2 hacc
        have hstep : scanW (putS w g f) g.E fr.length used diffs (k + 1) labs acc = match putS w g f (labs.set fr.length (g.E.length - k : Nat)) (used.set (g.E.length - k) true) now acc with
            | (labs', .on acc') => scanW (putS w g f) g.E fr.length used diffs k labs' acc'
            | (labs', .off l) => (labs', .off l) := by simp only [scanW, hop, hbit, hed]; simp <;> rfl
        rw [hstep]
        generalize putS w g f (labs.set fr.length (g.E.length - k : Nat)) (used.set (g.E.length - k) true) now acc = p at hu hin epd
        obtain ⟨labs', o⟩ := p
        cases o with
        | on a =>
          left
          simp only [Out.isOn, Out.acc, cond_true] at hu
          exact ⟨⟨(k, labs', a), by omega, ⟨hin.1, hin.2.1, h3, h4⟩, hin.2.2⟩, by simp, (hnx _ _).trans (nextF_done k64_0 roundD_plain hu), rfl⟩
        | off l =>
          right
          have hw : w ≠ .count := hin.2.2
          simp only [Out.isOn, Out.found, cond_false] at hu
          refine ⟨by simp [exO], (hnx _ _).trans (nextF_done k64_0 roundD_plain ?_)⟩
          rw [hu]
          cases w with
          | count => exact absurd rfl hw
          | label => simp only [epd]; rfl
          | part => simp only [epd]; rfl

theorem put_ok (g : Gr) (hg : GrOK g) (c : Bool) (w : Who) : ∀ f, PutOK g c w f
  | 0 => by
    intro fr labs used diffs acc hn h hacc
    obtain ⟨n, E⟩ := g
    have hg' := hg
    obtain ⟨g1, g2, g3, g4, g5⟩ := hg'
    simp only [Nat.add_zero] at hn
    subst hn
    have h1 : labs.length = fr.length := h.1
    refine ae_call (evY_ok ⟨fr.length, E⟩ c fr w) (fn := Try.f64) k64 (by kernel_rfl) (by cases w <;> kernel_rfl) ?_
    rw [hpW_length]
    refine startF_done k64 done_plain ?_
    rw [y64 E c w acc labs (bools used) (bools diffs) fr g2 h1]
    cases w with
    | label => rfl
    | count => rfl
    | part =>
      have hat : isP (AtP ⟨fr.length, E⟩ c fr 5 [.row 8 0 fr.length fr.length 1 true] (hpW ⟨fr.length, E⟩ c .part acc (ints labs) (bools used) (bools diffs) fr)) = true :=
        isP_iff.2 ⟨acc, labs, _, _, rfl, g2, hg, h1, rfl, rfl, rfl⟩
      simp only [yieldR, hat, cond_true, unI_ints, putS, yieldS]
      by_cases hp : 0 ≤ partS labs E
      · simp only [hp, decide_true, cond_true, if_true]; rfl
      · simp only [hp, decide_false, cond_false, if_false]; rfl
  | f + 1 => by
    intro fr labs used diffs acc hn h hacc
    have hg' := hg
    obtain ⟨g1, g2, g3, g4, g5⟩ := hg'
    have h6 : fr.length ≤ 6 := by omega
    have hn' : fr.length + 1 + f = g.n := by omega
    refine ae_call (evR_ok (put_ok g hg c w f) hn') (fn := Try.f64) k64 (by kernel_rfl) (by cases w <;> kernel_rfl) ?_
    rw [hpW_length]
    have he := e64 g c w f acc (ints labs) (bools used) (bools diffs) fr h6
    have e1 : decide ((fr.length : Int) = g.n) = false := by simp; omega
    rw [e1, cond_false] at he
    rw [(startF_at k64 he (fun s hs => loop0 g hg c w f fr hn' acc labs used diffs h hacc s hs)).2]
    refine nextF_done k64 done_plain ?_
    have hin := putS_inv (w := w) (f + 1) labs used diffs acc h hacc
    generalize putS w g (f + 1) labs used diffs acc = p at hin
    obtain ⟨labs', o⟩ := p
    cases o with
    | on a => exact x64 _ g c w fr a _ _ _ h6
    | off l => exact z64 _ g c w hin.2.2 fr _ _ _ h6 l
end Go.Proofs.Ytkcdbndpcabelaa

/- Chapter 02: a graph is opened. -/
namespace Go.Proofs.Ytkcdbndpcabelaa
open Go Go.AE

theorem length_ed : ∀ E : List (Int × Int), (edD E).length = E.length * 2
  | [] => rfl
  | e :: r => by show (edD r).length + 1 + 1 = _; rw [length_ed r]; simp; omega
theorem isI_ed : ∀ E : List (Int × Int), isI (edD E) = true
  | [] => rfl
  | e :: r => isI_ed r
theorem sub_ed : ∀ (E : List (Int × Int)) (i : Nat) (h : i < E.length), sub (edD E) (i * 2) 2 = [iD E[i].1, iD E[i].2]
  | [], i, h => by simp at h
  | e :: r, 0, h => by simp [sub, edD]
  | e :: r, i + 1, h => by
    have h1 : (i + 1) * 2 = (i * 2 + 1) + 1 := by omega
    have := sub_ed r i (by simpa using h)
    rw [h1]
    exact this

/-- How two rows of two numbers compare. -/
def sp59b : List DV → Tr DV
  | [.sl cs 2 1 _ _, .sl ds 2 1 _ _] => .node (isI cs && (Nat.beq cs.length 2 && (isI ds && Nat.beq ds.length 2))) (.leaf (iD (cmp2 ((unI cs).getD 0 0) ((unI cs).getD 1 0) ((unI ds).getD 0 0) ((unI ds).getD 1 0)))) .fail
  | _ => .fail
noncomputable def ev9 : Ev := ev7.add 59 sp59b

theorem two_of {cs : List DV} (h1 : isI cs = true) (h2 : Nat.beq cs.length 2 = true) : cs = [iD ((unI cs).getD 0 0), iD ((unI cs).getD 1 0)] := by
  have h2 := Nat.eq_of_beq_eq_true h2
  have h3 := ints_unI h1
  have h4 : (unI cs).length = 2 := by rw [← length_ints, h3]; exact h2
  obtain ⟨a, b, e⟩ := len2 h4
  rw [e] at h3 ⊢
  exact h3.symm

theorem ev9_ok : EvOK Try.prog ev9 := by
  refine EvOK.add ev7_ok ?_
  intro ds d h
  unfold sp59b at h
  split at h
  · rename_i cs p q ds r s
    simp only [Tr.val] at h
    obtain ⟨hg, h2⟩ := cond_none h
    clear h
    simp only [Bool.and_eq_true] at hg
    obtain ⟨g1, g2, g3, g4⟩ := hg
    simp only [Option.some.injEq] at h2
    subst h2
    have e1 := two_of g1 g2
    have e2 := two_of g3 g4
    generalize (unI cs).getD 0 0 = a, (unI cs).getD 1 0 = b at e1 ⊢
    generalize (unI ds).getD 0 0 = x, (unI ds).getD 1 0 = y at e2 ⊢
    subst e1 e2
    exact compare_ok ..
  · cases h

/-- Whether edges are a graph's, behind another one. -/
def openL (n : Int) : Option (Int × Int) → List (Int × Int) → Bool
  | _, [] => true
  | p, e :: r => !decide (e.1 < 0) && (!decide (e.2 ≤ e.1) && (!decide (n ≤ e.2) && ((match p with | none => true | some q => !decide (0 ≤ cmp2 q.1 q.2 e.1 e.2)) && openL n (some e) r)))

/-- The edge ahead. -/
def prevE (E : List (Int × Int)) : Nat → Option (Int × Int)
  | 0 => none
  | i + 1 => E[i]?

/-- What opening comes to: 0, or the error. -/
def openS (n : Int) (E : List (Int × Int)) : Int := if n < 2 ∨ 7 < n then 1 else if E.length < 1 ∨ 10 < E.length then 20 else if openL n none E then 0 else 20

def openD (n : Int) (E : List (Int × Int)) (c nl : Bool) : DV := bif decide (openS n E = 0) then .tup [.ptr [iD n, .sl (edD E) E.length 2 c nl] 0, iD 0] else .tup [.nilp, iD (openS n E)]

noncomputable def s47 (n : Int) (E : List (Int × Int)) (m : Nat) (c nl : Bool) (i : Int) : St := ⟨[(0, .d (iD n)), (1, .d (.sl (edD E) m 2 c nl)), (22, .d (.sl (edD E) m 2 c nl)), (23, .d (iD m)), (24, .d (iD i))], [], []⟩

theorem k47 : OkSeg Try.f47 none [0] := ⟨by kernel_rfl, by kernel_rfl, by decide⟩
theorem k47_0 : OkSeg Try.f47 (some 0) [] := ⟨by kernel_rfl, by kernel_rfl, by decide⟩

theorem r47_0 (n : Int) (E : List (Int × Int)) (m : Nat) (c nl : Bool) (i : Int) : startS aeC ev9 47 0 Try.f47 (some 0) (s47 n E m c nl i) (roundD aeC 47 0 0) =
  bif decide (i < m) then bif inRange i m then
    getI (nth (edD E) (i.toNat * 2)) fun a => getI (nth (edD E) (i.toNat * 2 + 1)) fun b =>
      bif decide (a < 0) then some (.ret, ⟨[(4, .d .nilp), (5, .d (iD 20))], [], []⟩)
      else bif decide (b ≤ a) then some (.ret, ⟨[(4, .d .nilp), (5, .d (iD 20))], [], []⟩)
      else bif decide (n ≤ b) then some (.ret, ⟨[(4, .d .nilp), (5, .d (iD 20))], [], []⟩)
      else bif decide (0 < i) then
        bif inRange (IntKind.i64.wrap (i - 1)) m then bif Nat.ble ((IntKind.i64.wrap (i - 1)).toNat * 2 + 2) (edD E).length then
          bif isI (sub (edD E) ((IntKind.i64.wrap (i - 1)).toNat * 2 + 0) 2) && (Nat.beq (sub (edD E) ((IntKind.i64.wrap (i - 1)).toNat * 2 + 0) 2).length 2 && true) then
            bif decide (0 ≤ cmp2 ((unI (sub (edD E) ((IntKind.i64.wrap (i - 1)).toNat * 2 + 0) 2)).getD 0 0) ((unI (sub (edD E) ((IntKind.i64.wrap (i - 1)).toNat * 2 + 0) 2)).getD 1 0) a b) then some (.ret, ⟨[(4, .d .nilp), (5, .d (iD 20))], [], []⟩)
            else some (.norm, s47 n E m c nl (IntKind.i64.wrap (i + 1)))
          else none
        else none else none
      else some (.norm, s47 n E m c nl (IntKind.i64.wrap (i + 1)))
  else none else some (.exit 0, ⟨[(0, .d (iD n)), (1, .d (.sl (edD E) m 2 c nl))], [], []⟩) := by kernel_rfl

theorem l47 (n : Int) (E : List (Int × Int)) (c nl : Bool) (hs : E.length ≤ 10) (s : St) (h : tidyP 0 (aeC.pol 47 0) s = some (s47 n E E.length c nl 0)) :
    LoopR aeC ev9 47 0 Try.f47 0 s (bif openL n none E then .exit 0 else .ret) (bif openL n none E then ⟨[(0, .d (iD n)), (1, .d (.sl (edD E) E.length 2 c nl))], [], []⟩ else ⟨[(4, .d .nilp), (5, .d (iD 20))], [], []⟩) := by
  have := loopR_ok (C := aeC) (E := ev9) (fid := 47) (base := 0) (fn := Try.f47) (t := 0) k47_0 (α := { i : Nat // i ≤ E.length }) (fun i => s47 n E E.length c nl i.1) (fun i => E.length - i.1)
    (fun i => (bif openL n (prevE E i.1) (E.drop i.1) then .exit 0 else .ret, bif openL n (prevE E i.1) (E.drop i.1) then ⟨[(0, .d (iD n)), (1, .d (.sl (edD E) E.length 2 c nl))], [], []⟩ else ⟨[(4, .d .nilp), (5, .d (iD 20))], [], []⟩)) ?_ ⟨0, by omega⟩ s h
  · exact this
  rintro ⟨i, hi⟩
  simp only at hi ⊢
  have hr := r47_0 n E E.length c nl i
  by_cases hlt : i < E.length
  · have hd : E.drop i = E[i] :: E.drop (i + 1) := by rw [List.drop_eq_getElem_cons hlt]
    have hn := nth_ed E i
    have hop : E[i]? = some E[i] := by simp [hlt]
    rw [hop] at hn
    have e1 : decide ((i : Int) < (E.length : Int)) = true := decide_eq_true (by omega)
    have e2 : inRange (i : Int) E.length = true := inRange_of (by omega) (by omega)
    rw [e1, e2, show Int.toNat (i : Int) = i by simp, show nth (edD E) (i * 2) = some (iD E[i].1) from hn.1, show nth (edD E) (i * 2 + 1) = some (iD E[i].2) from hn.2] at hr
    simp only [cond_true, getI_some] at hr
    have hprev : prevE E (i + 1) = some E[i] := hop
    have hop' : openL n (prevE E i) (E.drop i) = (!decide (E[i].1 < 0) && (!decide (E[i].2 ≤ E[i].1) && (!decide (n ≤ E[i].2) && ((match prevE E i with | none => true | some q => !decide (0 ≤ cmp2 q.1 q.2 E[i].1 E[i].2)) && openL n (prevE E (i + 1)) (E.drop (i + 1)))))) := by
      rw [hd, hprev]; rfl
    have bad : openL n (prevE E i) (E.drop i) = false → startS aeC ev9 47 0 Try.f47 (some 0) (s47 n E E.length c nl i) (roundD aeC 47 0 0) = some (.ret, ⟨[(4, .d .nilp), (5, .d (iD 20))], [], []⟩) →
        ((bif openL n (prevE E i) (E.drop i) then (Ex.exit 0) else .ret) ≠ .norm ∧ startF aeC ev9 47 0 Try.f47 (some 0) (s47 n E E.length c nl i) (roundD aeC 47 0 0) = some (bif openL n (prevE E i) (E.drop i) then (Ex.exit 0) else .ret, bif openL n (prevE E i) (E.drop i) then ⟨[(0, .d (iD n)), (1, .d (.sl (edD E) E.length 2 c nl))], [], []⟩ else ⟨[(4, .d .nilp), (5, .d (iD 20))], [], []⟩)) := by
      intro h1 h2
      rw [h1]
      exact ⟨by simp, startF_done k47_0 roundD_plain h2⟩
    by_cases c1 : E[i].1 < 0
    · right
      rw [decide_eq_true c1, cond_true] at hr
      exact bad (by rw [hop']; simp [c1]) hr
    by_cases c2 : E[i].2 ≤ E[i].1
    · right
      rw [decide_eq_false c1, decide_eq_true c2, cond_true, cond_false] at hr
      exact bad (by rw [hop']; simp [c2]) hr
    by_cases c3 : n ≤ E[i].2
    · right
      rw [decide_eq_false c1, decide_eq_false c2, decide_eq_true c3, cond_true, cond_false, cond_false] at hr
      exact bad (by rw [hop']; simp [c3]) hr
    rw [decide_eq_false c1, decide_eq_false c2, decide_eq_false c3, cond_false, cond_false, cond_false] at hr
    rw [decide_eq_false c1, decide_eq_false c2, decide_eq_false c3] at hop'
    simp only [Bool.not_false, Bool.true_and] at hop'
    cases i with
    | zero =>
      left
      rw [show decide (((0 : Nat) : Int) > 0) = false by simp] at hr
      simp only [cond_false] at hr
      rw [wrap64 (by omega) (by omega)] at hr
      exact ⟨⟨1, by omega⟩, by simp; omega, startF_done k47_0 roundD_plain hr, by rw [hop']; rfl⟩
    | succ j =>
      have hlt' : j < E.length := by omega
      rw [show decide ((0 : Int) < ((j + 1 : Nat) : Int)) = true from decide_eq_true (by omega), show (((j + 1 : Nat) : Int) - 1) = (j : Int) by omega, wrap64 (n := (j : Int)) (by omega) (by omega), inRange_of (i := (j : Int)) (n := E.length) (by omega) (by omega),
        show Int.toNat (j : Int) = j by simp, Nat.ble_eq_true_of_le (by rw [length_ed]; omega : j * 2 + 2 ≤ (edD E).length), show j * 2 + 0 = j * 2 from rfl, sub_ed E j hlt'] at hr
      have hq : prevE E (j + 1) = some E[j] := by simp [prevE, hlt']
      rw [hq] at hop'
      simp only [cond_true] at hr
      by_cases c4 : 0 ≤ cmp2 E[j].1 E[j].2 E[j + 1].1 E[j + 1].2
      · right
        refine bad (by rw [hq, hop']; simp [c4]) (hr.trans ?_)
        show (bif decide (0 ≤ cmp2 E[j].1 E[j].2 E[j + 1].1 E[j + 1].2) then _ else _) = _
        rw [decide_eq_true c4]; rfl
      · left
        rw [wrap64 (by omega) (by omega)] at hr
        refine ⟨⟨j + 1 + 1, by omega⟩, by simp; omega, startF_done k47_0 roundD_plain (hr.trans ?_), ?_⟩
        · show (bif decide (0 ≤ cmp2 E[j].1 E[j].2 E[j + 1].1 E[j + 1].2) then _ else _) = _
          rw [decide_eq_false c4]; rfl
        · rw [hq, hop']; simp [c4]
  · right
    have hd : E.drop i = [] := List.drop_eq_nil_of_le (by omega)
    rw [hd]
    simp only [openL, cond_true]
    have e1 : decide ((i : Int) < (E.length : Int)) = false := decide_eq_false (by omega)
    rw [e1] at hr
    exact ⟨by simp, startF_done k47_0 roundD_plain hr⟩

theorem open_ok (n : Int) (E : List (Int × Int)) (c nl : Bool) : PureOK Try.prog 47 [iD n, .sl (edD E) E.length 2 c nl] (openD n E c nl) := by
  refine ae_pure ev9_ok (fn := Try.f47) k47 (by kernel_rfl) (by kernel_rfl) ?_
  have e0 : startS aeC ev9 47 0 Try.f47 none ⟨envOf 0 ([iD n, .sl (edD E) E.length 2 c nl].map .d), [], []⟩ (doneE aeC Try.f47 0 fun v h => freezeV h 4 v) =
      bif decide (n < 2) then some (.tup [.nilp, iD 1]) else bif decide (7 < n) then some (.tup [.nilp, iD 1]) else bif decide ((E.length : Int) < 1) then some (.tup [.nilp, iD 20]) else bif decide (10 < (E.length : Int)) then some (.tup [.nilp, iD 20]) else none := by kernel_rfl
  have e1 : startS aeC ev9 47 0 Try.f47 none ⟨envOf 0 ([iD n, .sl (edD E) E.length 2 c nl].map .d), [], []⟩ (heldD aeC 47 0) =
      bif decide (n < 2) then none else bif decide (7 < n) then none else bif decide ((E.length : Int) < 1) then none else bif decide (10 < (E.length : Int)) then none else some (0, s47 n E E.length c nl 0) := by kernel_rfl
  unfold openD openS
  by_cases h1 : n < 2
  · refine startF_done k47 done_plain ?_
    rw [e0]; simp [h1]
  by_cases h2 : 7 < n
  · refine startF_done k47 done_plain ?_
    rw [e0]; simp [h1, h2]
  by_cases h3 : E.length < 1
  · refine startF_done k47 done_plain ?_
    have h3' : (E.length : Int) < 1 := by omega
    rw [e0]; simp only [h1, h2, h3, h3', decide_true, decide_false, cond_true, cond_false, or_self, true_or, if_true, if_false]; rfl
  by_cases h4 : 10 < E.length
  · refine startF_done k47 done_plain ?_
    have h3' : ¬ (E.length : Int) < 1 := by omega
    have h4' : 10 < (E.length : Int) := by omega
    rw [e0]; simp only [h1, h2, h3, h4, h3', h4', decide_true, decide_false, cond_true, cond_false, or_self, or_true, if_true, if_false]; rfl
  have h3' : ¬ (E.length : Int) < 1 := by omega
  have h4' : ¬ 10 < (E.length : Int) := by omega
  simp only [h1, h2, h3, h4, or_self, if_false]
  simp only [h1, h2, h3', h4', decide_false, cond_false] at e1
  rw [(startF_at k47 e1 (fun s hs => l47 n E c nl (by omega) s hs)).2]
  refine nextF_done k47 done_plain ?_
  cases openL n none E with
  | true => kernel_rfl
  | false => kernel_rfl
end Go.Proofs.Ytkcdbndpcabelaa

/- Chapter 02: the first graceful labels, how many there are, and the first that part. -/
namespace Go.Proofs.Ytkcdbndpcabelaa
open Go Go.AE

/-- What the whole walk comes to. -/
def p0 (w : Who) (g : Gr) : List Int × Out := putS w g g.n (List.replicate g.n 0) noDiffs noDiffs 0

noncomputable def x64z (g : Gr) (c : Bool) (w : Who) : List AV := .d (iD 0) :: caps g c w.B

noncomputable def F64z (g : Gr) (c : Bool) (w : Who) (xs : List AV) (h : List Blk) : Tr (AV × List Blk) :=
  .node (isAt (xs, h) (x64z g c w, hpW g c w 0 (ints (List.replicate g.n 0)) (bools noDiffs) (bools noDiffs) [])) (.node (p0 w g).2.isOn
    (.leaf (.d (bD true), hpW g c w (p0 w g).2.acc (ints (p0 w g).1) (bools noDiffs) (bools noDiffs) []))
    (match w with
      | .count => .fail
      | _ => .leaf (.d (bD false), hfW g c w (ints (p0 w g).1) (bools noDiffs) (bools noDiffs) [] (p0 w g).2.found))) .fail

theorem wok0 (g : Gr) : WOK g (List.replicate g.n 0) noDiffs noDiffs := by
  refine ⟨by simp, ?_, rfl, rfl⟩
  intro x hx
  rw [List.mem_replicate] at hx
  omega

noncomputable def evZ (g : Gr) (c : Bool) (w : Who) : Ev := ev7.addFn 64 (F64z g c w)
theorem evZ_ok (g : Gr) (hg : GrOK g) (c : Bool) (w : Who) : EvOK Try.prog (evZ g c w) := by
  refine EvOK.addFn ev7_ok ?_
  intro xs h v h' e
  simp only [F64z, Tr.val] at e
  obtain ⟨e1, e2⟩ := cond_none e
  clear e
  have e1 := isAt_iff.1 e1
  cases e1
  have main := put_ok g hg c w g.n [] (List.replicate g.n 0) noDiffs noDiffs 0 (by simp) (wok0 g) (.inr rfl)
  have hin := putS_inv (w := w) g.n (List.replicate g.n 0) noDiffs noDiffs 0 (wok0 g) (.inr rfl)
  change CallOK Try.prog 64 _ _ (.d (bD (p0 w g).2.isOn)) (resH g c w [] noDiffs noDiffs (p0 w g)) at main
  change InvW w g (p0 w g) at hin
  generalize p0 w g = p at main hin e2
  obtain ⟨labs', o⟩ := p
  cases o with
  | on a =>
    simp only [Out.isOn, Out.acc, cond_true, Option.some.injEq, Prod.mk.injEq] at e2
    obtain ⟨rfl, rfl⟩ := e2
    exact main
  | off l =>
    have hw : w ≠ .count := hin.2.2
    cases w with
    | count => exact absurd rfl hw
    | label => cases e2; exact main
    | part => cases e2; exact main

theorem k63 : OkSeg Try.f63 none [] := ⟨by kernel_rfl, by kernel_rfl, by decide⟩

noncomputable def x63 (g : Gr) (c : Bool) (w : Who) : List AV := [.yld (w.B - 1), .d (.ptr [.ptr (g.cs c) 0] 0)]
/-- What the range's function comes to. -/
noncomputable def h63 (g : Gr) (c : Bool) (w : Who) (o : Out) : List Blk := match o with
  | .on a => preW g c a w
  | .off l => offW g c w.B w ++ [.dc (ints l)]

theorem r63 (g : Gr) (c : Bool) (w : Who) : startS aeC (evZ g c w) 63 w.B Try.f63 none ⟨envOf 0 (x63 g c w), preW g c 0 w, []⟩ (doneE aeC Try.f63 w.B fun v h => some (v, h)) =
    bif decide (0 ≤ (g.n : Int)) && decide ((g.n : Int) ≤ g.n) && decide ((g.n : Int) ≤ 1048576) && true then
      bif isAt (x64z g c w, hpW g c w 0 (List.flatten (List.replicate (Int.toNat g.n) [iD 0])) (bools noDiffs) (bools noDiffs) []) (x64z g c w, hpW g c w 0 (ints (List.replicate g.n 0)) (bools noDiffs) (bools noDiffs) []) then
        bif (p0 w g).2.isOn then some (.d (.tup []), preW g c (p0 w g).2.acc w)
        else match w with
          | .count => none
          | _ => some (.d (.tup []), offW g c w.B w ++ [.dc (ints (p0 w g).2.found)])
      else none
    else none := by
  cases w <;> kernel_rfl

theorem flat_zeros : ∀ n : Nat, List.flatten (List.replicate n [iD 0]) = ints (List.replicate n 0)
  | 0 => rfl
  | n + 1 => by rw [List.replicate_succ, List.flatten_cons, flat_zeros n]; rfl

theorem l63_ok (g : Gr) (hg : GrOK g) (c : Bool) (w : Who) : CallOK Try.prog 63 (x63 g c w) (preW g c 0 w) (.d (.tup [])) (h63 g c w (p0 w g).2) := by
  have hl : (preW g c 0 w).length = w.B := by cases w <;> rfl
  refine ae_call (evZ_ok g hg c w) (fn := Try.f63) k63 (by kernel_rfl) (by cases w <;> kernel_rfl) ?_
  rw [hl]
  refine startF_done k63 done_plain ?_
  rw [r63]
  obtain ⟨g1, g2, g3, g4, g5⟩ := hg
  have e1 : (decide (0 ≤ (g.n : Int)) && decide ((g.n : Int) ≤ g.n) && decide ((g.n : Int) ≤ 1048576) && true) = true := by
    simp; omega
  have e2 : isAt (x64z g c w, hpW g c w 0 (List.flatten (List.replicate (Int.toNat g.n) [iD 0])) (bools noDiffs) (bools noDiffs) []) (x64z g c w, hpW g c w 0 (ints (List.replicate g.n 0)) (bools noDiffs) (bools noDiffs) []) = true := by
    rw [isAt_iff, Int.toNat_natCast, flat_zeros]
  rw [e1, e2]
  simp only [cond_true]
  have hin : InvW w g (p0 w g) := putS_inv (w := w) g.n (List.replicate g.n 0) noDiffs noDiffs 0 (wok0 g) (.inr rfl)
  generalize p0 w g = p at hin
  obtain ⟨labs', o⟩ := p
  cases o with
  | on a => rfl
  | off l =>
    have hw : w ≠ .count := hin.2.2
    cases w with
    | count => exact absurd rfl hw
    | label => rfl
    | part => rfl

/-! ### The three functions -/
/-- What data are edges. -/
def AtE (es : List DV) (m : Nat) : Prop := ∃ E : List (Int × Int), es = edD E ∧ m = E.length
noncomputable def sp47 : List DV → Tr DV
  | [.int .i64 n, .sl es m 2 c nl] => .node (isP (AtE es m)) (.node (decide (openS n (unE es) = 0)) (.leaf (.tup [.ptr [iD n, .sl es m 2 c nl] 0, iD 0])) (.leaf (.tup [.nilp, iD (openS n (unE es))]))) .fail
  | _ => .fail
def sp52 : List DV → Tr DV
  | [.ptr cs 0] => .leaf (.fn 63 [] [.ptr [.ptr cs 0] 0])
  | _ => .fail
noncomputable def ev10 : Ev := (ev9.add 47 sp47).add 52 sp52

theorem lab_ok (cs : List DV) : PureOK Try.prog 52 [.ptr cs 0] (.fn 63 [] [.ptr [.ptr cs 0] 0]) :=
  ae_direct EvOK.nil 6 (by kernel_rfl : tget aeF 52 = some Try.f52) (by kernel_rfl)

theorem ev10_ok : EvOK Try.prog ev10 := by
  refine EvOK.add (EvOK.add ev9_ok ?_) ?_
  · intro ds d h
    unfold sp47 at h
    split at h
    · rename_i n es m c nl
      simp only [Tr.val] at h
      obtain ⟨hg, h2⟩ := cond_none h
      clear h
      obtain ⟨E, rfl, rfl⟩ := isP_iff.1 hg
      have main := open_ok n E c nl
      rw [unE_ed] at h2
      unfold openD at main
      cases hb : decide (openS n E = 0) with
      | true => rw [hb] at h2 main; cases h2; exact main
      | false => rw [hb] at h2 main; cases h2; exact main
    · cases h
  · intro ds d h
    unfold sp52 at h
    split at h
    · cases h; exact lab_ok _
    · cases h

noncomputable def F63 (g : Gr) (c : Bool) (w : Who) (xs : List AV) (h : List Blk) : Tr (AV × List Blk) :=
  .node (isAt (xs, h) (x63 g c w, preW g c 0 w)) (.node (p0 w g).2.isOn (.leaf (.d (.tup []), preW g c (p0 w g).2.acc w))
    (match w with
      | .count => .fail
      | _ => .leaf (.d (.tup []), offW g c w.B w ++ [.dc (ints (p0 w g).2.found)]))) .fail

noncomputable def ev11 (g : Gr) (c : Bool) (w : Who) : Ev := ev10.addFn 63 (F63 g c w)
theorem ev11_ok (g : Gr) (hg : GrOK g) (c : Bool) (w : Who) : EvOK Try.prog (ev11 g c w) := by
  refine EvOK.addFn ev10_ok ?_
  intro xs h v h' e
  simp only [F63, Tr.val] at e
  obtain ⟨e1, e2⟩ := cond_none e
  clear e
  have e1 := isAt_iff.1 e1
  cases e1
  have main := l63_ok g hg c w
  have hin : InvW w g (p0 w g) := putS_inv (w := w) g.n (List.replicate g.n 0) noDiffs noDiffs 0 (wok0 g) (.inr rfl)
  generalize p0 w g = p at main hin e2
  obtain ⟨labs', o⟩ := p
  cases o with
  | on a =>
    simp only [Out.isOn, Out.acc, cond_true, Option.some.injEq, Prod.mk.injEq] at e2
    obtain ⟨rfl, rfl⟩ := e2
    exact main
  | off l =>
    have hw : w ≠ .count := hin.2.2
    cases w with
    | count => exact absurd rfl hw
    | label => cases e2; exact main
    | part => cases e2; exact main

theorem k28 : OkSeg Try.f28 none [] := ⟨by kernel_rfl, by kernel_rfl, by decide⟩
theorem k29 : OkSeg Try.f29 none [] := ⟨by kernel_rfl, by kernel_rfl, by decide⟩
theorem k30 : OkSeg Try.f30 none [] := ⟨by kernel_rfl, by kernel_rfl, by decide⟩

/-- The three functions. -/
def fnW : Who → Nat
  | .label => 28
  | .count => 29
  | .part => 30
noncomputable def bodyW : Who → Func
  | .label => Try.f28
  | .count => Try.f29
  | .part => Try.f30

def offD (l : List Int) : DV := .tup [.sl (ints l) (lenOf 1 (ints l).length) 1 false false, bD true, iD 0]

/-- What a function comes to, the graph being right. -/
noncomputable def okD (w : Who) (o : Out) : DV := match w with
  | .count => .tup [iD o.acc, iD 0]
  | _ => bif o.isOn then .tup [nilS1, bD false, iD 0] else offD o.found

def errD (e : Int) : Who → DV
  | .count => .tup [iD 0, iD e]
  | _ => .tup [nilS1, bD false, iD e]

theorem r28 (g : Gr) (c : Bool) (w : Who) : startS aeC (ev11 g c w) (fnW w) 0 (bodyW w) none ⟨envOf 0 ([iD g.n, .sl g.es g.m 2 c false].map .d), [], []⟩ (doneE aeC (bodyW w) 0 fun v h => freezeV h 4 v) =
    bif isP (AtE g.es g.m) then bif decide (openS g.n (unE g.es) = 0) then
      bif isAt (x63 g c w, preW g c 0 w) (x63 g c w, preW g c 0 w) then
        (match w with
          | .count => bif (p0 w g).2.isOn then some (.tup [iD (p0 w g).2.acc, iD 0]) else none
          | _ => bif (p0 w g).2.isOn then some (.tup [nilS1, bD false, iD 0]) else some (offD (p0 w g).2.found))
      else none
    else bif !decide (openS g.n (unE g.es) = 0) then some (errD (openS g.n (unE g.es)) w) else none else none := by
  cases w <;> kernel_rfl

theorem r28e (n : Int) (E : List (Int × Int)) (c nl : Bool) (w : Who) : startS aeC ev10 (fnW w) 0 (bodyW w) none ⟨envOf 0 ([iD n, .sl (edD E) E.length 2 c nl].map .d), [], []⟩ (doneE aeC (bodyW w) 0 fun v h => freezeV h 4 v) =
    bif isP (AtE (edD E) E.length) then bif decide (openS n (unE (edD E)) = 0) then none
    else bif !decide (openS n (unE (edD E)) = 0) then some (errD (openS n (unE (edD E))) w) else none else none := by
  cases w <;> kernel_rfl

/-- The graph that is opened is right. -/
theorem openS_ok {n : Int} {E : List (Int × Int)} (h : openS n E = 0) : ∃ g : Gr, n = g.n ∧ g.E = E ∧ GrOK g := by
  unfold openS at h
  split at h
  · cases h
  rename_i h1
  split at h
  · cases h
  rename_i h2
  split at h
  · rename_i h3
    refine ⟨⟨n.toNat, E⟩, by simp; omega, rfl, by simp; omega, by simp; omega, by simp; omega, by simp; omega, ?_⟩
    intro e he
    have : ∀ (E : List (Int × Int)) p, openL n p E = true → ∀ e ∈ E, 0 ≤ e.1 ∧ e.1 < e.2 ∧ e.2 < n := by
      intro E
      induction E with
      | nil => intro _ _ e he; cases he
      | cons x r ih =>
        intro p hp e he
        simp only [openL, Bool.and_eq_true, Bool.not_eq_true', decide_eq_false_iff_not] at hp
        rcases List.mem_cons.1 he with rfl | he
        · omega
        · exact ih _ hp.2.2.2.2 e he
    have := this E none h3 e he
    simp only
    omega
  · cases h

/-- What the functions come to. -/
noncomputable def resD (w : Who) (n : Int) (E : List (Int × Int)) : DV := bif decide (openS n E = 0) then okD w (p0 w ⟨n.toNat, E⟩).2 else errD (openS n E) w

theorem AtE_ed (E : List (Int × Int)) : isP (AtE (edD E) E.length) = true := isP_iff.2 ⟨E, rfl, rfl⟩

theorem w28_ok (w : Who) (n : Int) (E : List (Int × Int)) (c nl : Bool) (hnl : nl = true → E = []) : PureOK Try.prog (fnW w) [iD n, .sl (edD E) E.length 2 c nl] (resD w n E) := by
  unfold resD
  have k : OkSeg (bodyW w) none [] := by cases w; exact k28; exact k29; exact k30
  have hget : tget aeF (fnW w) = some (bodyW w) := by cases w <;> kernel_rfl
  by_cases h : openS n E = 0
  · obtain ⟨g, rfl, rfl, hg⟩ := openS_ok h
    have : nl = false := by
      cases nl with
      | false => rfl
      | true => have := hnl rfl; have h2 := hg.2.2.1; rw [this] at h2; simp at h2
    subst this
    rw [decide_eq_true h, cond_true, Int.toNat_natCast]
    refine ae_pure (ev11_ok g hg c w) (fn := bodyW w) k hget (by cases w <;> kernel_rfl) (startF_done k done_plain ?_)
    have hr := r28 g c w
    rw [show isP (AtE g.es g.m) = true from AtE_ed g.E, show unE g.es = g.E from unE_ed g.E, decide_eq_true h, show isAt (x63 g c w, preW g c 0 w) (x63 g c w, preW g c 0 w) = true from isAt_iff.2 rfl] at hr
    simp only [cond_true] at hr
    refine hr.trans ?_
    have hin : InvW w g (p0 w g) := putS_inv (w := w) g.n (List.replicate g.n 0) noDiffs noDiffs 0 (wok0 g) (.inr rfl)
    show _ = some (okD w (p0 w g).2)
    generalize p0 w g = p at hin
    obtain ⟨labs', o⟩ := p
    cases o with
    | on a => cases w <;> rfl
    | off l =>
      have hw : w ≠ .count := hin.2.2
      cases w with
      | count => exact absurd rfl hw
      | label => rfl
      | part => rfl
  · rw [decide_eq_false h, cond_false]
    refine ae_pure ev10_ok (fn := bodyW w) k hget (by cases w <;> kernel_rfl) (startF_done k done_plain ?_)
    rw [r28e, AtE_ed, unE_ed, decide_eq_false h]; rfl
end Go.Proofs.Ytkcdbndpcabelaa

/- Chapter 02: the calls that every statement makes. -/
namespace Go.Proofs.Ytkcdbndpcabelaa
open Go Go.AE

/-- Data that are edges. -/
def isE (es : List DV) (m : Nat) : Bool := isI es && Nat.beq es.length (m * 2)
theorem isE_ed (E : List (Int × Int)) : isE (edD E) E.length = true := by
  simp [isE, isI_ed, length_ed]
theorem ed_unE : ∀ {m : Nat} {es : List DV}, isE es m = true → es = edD (unE es) ∧ m = (unE es).length
  | 0, [], _ => ⟨rfl, rfl⟩
  | 0, x :: r, h => by simp [isE] at h
  | m + 1, [], h => by simp [isE] at h
  | m + 1, [x], h => by simp [isE] at h; omega
  | m + 1, x :: y :: r, h => by
    simp only [isE, Bool.and_eq_true] at h
    obtain ⟨h1, h2⟩ := h
    have h2 := Nat.eq_of_beq_eq_true h2
    simp only [List.length_cons] at h2
    unfold isI at h1
    split at h1
    · rename_i e; cases e
    · rename_i n r1 e
      cases e
      unfold isI at h1
      split at h1
      · rename_i e; cases e
      · rename_i e
        cases e
        have := ed_unE (m := m) (es := r) (by simp only [isE, h1, Bool.true_and]; rw [show r.length = m * 2 by omega]; simp)
        refine ⟨?_, ?_⟩
        · show _ = iD _ :: iD _ :: edD (unE r)
          rw [← this.1]
        · show m + 1 = (unE r).length + 1
          rw [← this.2]
      · cases h1
    · cases h1

/-- A function's oracle by its run. -/
noncomputable def runP (E : Ev) (k : Nat) (f : FuncId) (fn : Func) (ds : List DV) : Tr DV := .of (pureE aeC E k f fn ds)
theorem runP_ok {E : Ev} (hE : EvOK Try.prog E) {k : Nat} {f : FuncId} {fn : Func} (h : tget aeF f = some fn) : ∀ ds d, (runP E k f fn ds).val = some d → PureOK Try.prog f ds d := by
  intro ds d e
  rw [runP, Tr.val_of] at e
  exact ae_direct hE k h e

noncomputable def spW (w : Who) : List DV → Tr DV
  | [.int .i64 n, .sl es m 2 _ false] => .node (isE es m) (.leaf (resD w n (unE es))) .fail
  | _ => .fail
theorem spW_ok (w : Who) : ∀ ds d, (spW w ds).val = some d → PureOK Try.prog (fnW w) ds d := by
  intro ds d h
  unfold spW at h
  split at h
  · rename_i n es m c
    simp only [Tr.val] at h
    obtain ⟨hg, h2⟩ := cond_none h
    clear h
    obtain ⟨e1, e2⟩ := ed_unE hg
    cases h2
    have := w28_ok w n (unE es) c false (by simp)
    rw [← e1, ← e2] at this
    exact this
  · cases h

def sp21 : List DV → Tr DV
  | [.int .i64 n] => .leaf (rulerR n)
  | _ => .fail
theorem sp21_ok : ∀ ds d, (sp21 ds).val = some d → PureOK Try.prog 21 ds d := by
  intro ds d h
  unfold sp21 at h
  split at h
  · cases h; exact ruler_ok _
  · cases h

def sp23 : List DV → Tr DV
  | [.sl a n 1 _ na, .sl b m 1 _ nb] => .node (isI a && (isI b && (Nat.beq a.length n && (Nat.beq b.length m && Nat.blt n 4611686018427387904)))) (.leaf (bD (decide (unI a = unI b)))) .fail
  | _ => .fail
theorem sl_open {w : World} {G : Nat → Prop} {cs : List DV} {n sz : Nat} {c nl : Bool} {v : Value} (h : DRel w G (.sl cs n sz c nl) v) : DRel w G (.sl cs n sz false nl) v := by
  simp only [DRel] at h ⊢
  refine ⟨h.1, ?_⟩
  cases nl with
  | true => exact h.2
  | false =>
    obtain ⟨b, off, cap, sp, e1, e2, e3, e4⟩ := h.2
    exact ⟨b, off, cap, sp, e1, e2, by simp, e4⟩

theorem PureOK.weaken {f : FuncId} {ds ds' : List DV} {d : DV} (h : ∀ (w : World) (G : Nat → Prop) l, DVals w G ds' l → DVals w G ds l) (hp : PureOK Try.prog f ds d) : PureOK Try.prog f ds' d :=
  ⟨hp.1, fun w G vs hG hg q => hp.2 w G vs hG hg (h w G _ q)⟩

theorem ints_ok2 (a b : List Int) (c1 c2 na nb : Bool) (ha : Small a.length) : PureOK Try.prog 23 [.sl (ints a) a.length 1 c1 na, .sl (ints b) b.length 1 c2 nb] (bD (decide (a = b))) := by
  refine PureOK.weaken ?_ (ints_ok a b na nb ha)
  rintro w G l ⟨v1, r1, rfl, h1, v2, r2, rfl, h2, h3⟩
  exact ⟨v1, _, rfl, sl_open h1, v2, _, rfl, sl_open h2, h3⟩

theorem sp23_ok : ∀ ds d, (sp23 ds).val = some d → PureOK Try.prog 23 ds d := by
  intro ds d h
  unfold sp23 at h
  split at h
  · rename_i a n c1 na b m c2 nb
    simp only [Tr.val] at h
    obtain ⟨hg, h2⟩ := cond_none h
    clear h
    simp only [Bool.and_eq_true, Nat.blt_eq] at hg
    obtain ⟨g1, g2, g3, g4, g5⟩ := hg
    have g3 := Nat.eq_of_beq_eq_true g3
    have g4 := Nat.eq_of_beq_eq_true g4
    have ea := ints_unI g1
    have eb := ints_unI g2
    have la : (unI a).length = n := by rw [← length_ints, ea]; exact g3
    have lb : (unI b).length = m := by rw [← length_ints, eb]; exact g4
    cases h2
    have := ints_ok2 (unI a) (unI b) c1 c2 na nb (by unfold Small; omega)
    rw [ea, eb, la, lb] at this
    exact this
  · cases h

/-! ### Rulers -/
noncomputable def evX : Ev := ev6.add 51 (runP ev6 8 51 Try.f51)
theorem evX_ok : EvOK Try.prog evX := EvOK.add ev6_ok (runP_ok ev6_ok (by kernel_rfl))
/-! ### All of them -/
noncomputable def evAw : Ev := ((((((Ev.nil.add 28 (spW .label)).add 29 (spW .count)).add 21 sp21).add 26 (runP evX 8 26 Try.f26)).add 15 ((evN aeC aeF 20).pure 15)).add 17 ((evN aeC aeF 20).pure 17)).add 23 sp23
theorem evAw_ok : EvOK Try.prog evAw :=
  EvOK.add (EvOK.add (EvOK.add (EvOK.add (EvOK.add (EvOK.add (EvOK.add EvOK.nil (spW_ok .label)) (spW_ok .count)) sp21_ok) (runP_ok evX_ok (by kernel_rfl))) (fun ds d e => (ae_ev 20).pure 15 ds d e)) (fun ds d e => (ae_ev 20).pure 17 ds d e)) sp23_ok

theorem awake_ok : PureOK Try.prog 20 [] (bD true) := ae_direct evAw_ok 8 (by kernel_rfl : tget aeF 20 = some Try.f20) (by kernel_rfl)
end Go.Proofs.Ytkcdbndpcabelaa

/- Chapter 02: rulers by the document, and the law on the shortest ones. -/
namespace Go.Proofs.Ytkcdbndpcabelaa
open Go Go.AE

/-! ### 'Ruler' -/
/-- Behind some marks: the rest of them. -/
def begS : List Int → List Int → List Bool → Option (List Bool)
  | _, [], ds => some ds
  | p, m :: r, ds => if m ≤ lastI p then none else if 25 < m then none else match addS p m ds with
    | none => none
    | some ds' => begS (p ++ [m]) r ds'

/-- Marks are a ruler. -/
def rulerB (l : List Int) : Bool := decide (2 ≤ l.length) && (decide (l.length ≤ 7) && (decide (l.getD 0 0 = 0) && (begS [0] l.tail noDiffs).isSome))

end Go.Proofs.Ytkcdbndpcabelaa

/- Chapter 02: the first ruler that begins with some marks, by the document. -/
namespace Go.Proofs.Ytkcdbndpcabelaa
open Go Go.AE

theorem isI_iff {cs : List DV} : isI cs = true ↔ ∃ l, cs = ints l := ⟨fun h => ⟨unI cs, (ints_unI h).symm⟩, by rintro ⟨l, rfl⟩; exact isI_ints l⟩

/-- The marks last - k and more are tried, one after the other. -/
def scanX (next : List Int → Option (List Int)) (l : List Int) (last : Int) : Nat → Option (List Int)
  | 0 => none
  | k + 1 => match next (l ++ [last - (k : Int)]) with
    | some o => some o
    | none => scanX next l last k

/-- The first ruler with so many marks, at most to a last one, that begins with some. -/
def extS (many last : Int) : Nat → List Int → Option (List Int)
  | 0, _ => none
  | f + 1, l => if many < l.length then none else if 2 ≤ l.length ∧ rulerB l = false then none else if last < lastI l then none else
    if (l.length : Int) = many then some l else scanX (extS many last f) l last (last - lastI l).toNat

/-- What data are numbers. -/
def sp22 : List DV → Tr DV
  | [.sl cs n 1 _ _] => .node (isI cs && (Nat.beq cs.length n && Nat.blt n 4611686018427387904)) (.leaf (bD (rulerB (unI cs)))) .fail
  | _ => .fail
noncomputable def extG (f : Nat) (cs : List DV) (n : Nat) (nl : Bool) (many last : Int) : Bool := isP (0 < f ∧ nl = false ∧ isI cs = true ∧ cs.length = n ∧ 1 ≤ n ∧ many < n + f ∧ last ≤ 25 ∧ many ≤ 25 ∧ (unI cs).getD 0 0 = 0 ∧ n < 100)
noncomputable def sp27 (f : Nat) : List DV → Tr DV
  | [.sl cs n 1 _ nl, .int .i64 many, .int .i64 last] => .node (extG f cs n nl many last) (.node (extS many last f (unI cs)).isSome
      (.leaf (.sl (ints ((extS many last f (unI cs)).getD [])) ((extS many last f (unI cs)).getD []).length 1 false false)) (.leaf (.sl [] 0 0 false true))) .fail
  | _ => .fail
theorem begS_last : ∀ (r p : List Int) (ds : List Bool), (begS p r ds).isSome = true → lastI p ≤ 25 → lastI p ≤ lastI (p ++ r) ∧ lastI (p ++ r) ≤ 25
  | [], p, ds, h, h25 => by simp [h25]
  | m :: r, p, ds, h, h25 => by
    simp only [begS] at h
    split at h
    · cases h
    split at h
    · cases h
    rename_i h1 h2
    cases ha : addS p m ds with
    | none => rw [ha] at h; cases h
    | some ds' =>
      rw [ha] at h
      have := begS_last r (p ++ [m]) ds' h (by rw [lastI_append]; omega)
      rw [lastI_append, List.append_assoc] at this
      simp only [List.singleton_append] at this
      omega

end Go.Proofs.Ytkcdbndpcabelaa

/- Chapter 02: the shortest rulers: the program's are the document's. -/
namespace Go.Proofs.Ytkcdbndpcabelaa
open Go Go.AE

/-- The limits 26 - k and more, one after the other, by the document. -/
def shortS (many : Int) : Nat → Option (List Int)
  | 0 => none
  | k + 1 => match extS many (25 - (k : Int)) 8 [0] with
    | some o => some o
    | none => shortS many k

/-! ### The program's search is the document's -/
theorem begS_append : ∀ (r : List Int) (p : List Int) (x : Int) (ds : List Bool), begS p (r ++ [x]) ds = (begS p r ds).bind fun ds' => begS (p ++ r) [x] ds'
  | [], p, x, ds => by simp [begS]
  | m :: r, p, x, ds => by
    simp only [List.cons_append, begS]
    split
    · rfl
    split
    · rfl
    cases addS p m ds with
    | none => rfl
    | some ds' =>
      have := begS_append r (p ++ [m]) x ds'
      show begS (p ++ [m]) (r ++ [x]) ds' = (begS (p ++ [m]) r ds').bind fun ds' => begS (p ++ m :: r) [x] ds'
      rw [this, List.append_assoc]; rfl

/-- Marks that are a ruler so far, and the differences that are taken. -/
def Beg (l : List Int) (ds : List Bool) : Prop := l.getD 0 0 = 0 ∧ 1 ≤ l.length ∧ begS [0] l.tail noDiffs = some ds

theorem Beg.cons {l : List Int} {ds : List Bool} (h : Beg l ds) : [0] ++ l.tail = l := by
  obtain ⟨h1, h2, _⟩ := h
  cases l with
  | nil => simp at h2
  | cons x r => simp at h1; subst h1; rfl

theorem Beg.last {l : List Int} {ds : List Bool} (h : Beg l ds) : 0 ≤ lastI l ∧ lastI l ≤ 25 := by
  have := begS_last l.tail [0] noDiffs (by rw [h.2.2]; rfl) (by decide)
  rw [h.cons] at this
  exact ⟨this.1, this.2⟩

theorem Beg.snoc {l : List Int} {ds : List Bool} (h : Beg l ds) {x : Int} (h1 : lastI l < x) (h2 : x ≤ 25) : begS [0] (l ++ [x]).tail noDiffs = addS l x ds := by
  have e : (l ++ [x]).tail = l.tail ++ [x] := by
    cases l with
    | nil => exact absurd h.2.1 (by simp)
    | cons y r => rfl
  rw [e, begS_append, h.2.2, Option.bind_some, h.cons]
  simp only [begS, if_neg (show ¬ x ≤ lastI l by omega), if_neg (show ¬ 25 < x by omega)]
  cases addS l x ds <;> rfl

theorem getD0_append {l : List Int} {x : Int} (h : 1 ≤ l.length) : (l ++ [x]).getD 0 0 = l.getD 0 0 := by
  cases l with
  | nil => simp at h
  | cons y r => rfl

theorem Beg.rulerB {l : List Int} {ds : List Bool} (h : Beg l ds) {x : Int} (h1 : lastI l < x) (h2 : x ≤ 25) (h7 : l.length < 7) : rulerB (l ++ [x]) = (addS l x ds).isSome := by
  unfold Go.Proofs.Ytkcdbndpcabelaa.rulerB
  have := h.2.1
  rw [h.snoc h1 h2, getD0_append h.2.1, h.1, decide_eq_true (show 2 ≤ (l ++ [x]).length by simp; omega), decide_eq_true (show (l ++ [x]).length ≤ 7 by simp; omega)]
  rfl

/-- What is found is a ruler with so many marks. -/
theorem scanX_some {ext : List Int → Option (List Int)} {l : List Int} {last : Int} {Q : List Int → Prop} (h : ∀ x o, ext (l ++ [x]) = some o → Q o) : ∀ (k : Nat) (o : List Int), scanX ext l last k = some o → Q o
  | 0, o, e => by cases e
  | k + 1, o, e => by
    simp only [scanX] at e
    cases hx : ext (l ++ [last - (k : Int)]) with
    | none => rw [hx] at e; exact scanX_some h k o e
    | some o' => rw [hx] at e; cases e; exact h _ _ hx
theorem extS_some (many last : Int) : ∀ (f : Nat) (l o : List Int), extS many last f l = some o → (o.length : Int) = many ∧ (2 ≤ o.length → rulerB o = true)
  | 0, l, o, e => by cases e
  | f + 1, l, o, e => by
    simp only [extS] at e
    split at e
    · cases e
    split at e
    · cases e
    rename_i h2
    split at e
    · cases e
    split at e
    · rename_i hl
      cases e
      refine ⟨hl, fun h => ?_⟩
      cases hr : rulerB l with
      | true => rfl
      | false => exact absurd ⟨h, hr⟩ h2
    · exact scanX_some (fun x o => extS_some many last f _ o) _ o e

/-! ### There are rulers -/
end Go.Proofs.Ytkcdbndpcabelaa

/- Chapter 02: the law on the shortest rulers, on data. -/
namespace Go.Proofs.Ytkcdbndpcabelaa
open Go Go.AE

def sp24 : List DV → Tr DV
  | [.int .i64 many] => .node (decide (2 ≤ many) && decide (many ≤ 7)) (.node (shortS many 25).isSome (.leaf (.sl (ints ((shortS many 25).getD [])) ((shortS many 25).getD []).length 1 false false)) (.leaf (.sl [] 0 0 false true))) .fail
  | _ => .fail
def sp21x : List DV → Tr DV
  | [.int .i64 n] => .node (decide (n < 2)) (.leaf (.tup [nilS1, iD 1])) (.node (decide (7 < n)) (.leaf (.tup [nilS1, iD 1])) (.node (rulerS n 26).isSome (.leaf (.tup [.sl (ints ((rulerS n 26).getD [])) ((rulerS n 26).getD []).length 1 false false, iD 0])) (.leaf (.tup [nilS1, iD 4]))))
  | _ => .fail
def sp20 : List DV → Tr DV
  | [] => .leaf (bD true)
  | _ => .fail
noncomputable def evR4 : Ev := ((((Ev.nil.add 20 sp20).add 21 sp21x).add 22 sp22).add 23 sp23).add 24 sp24

theorem r4 (many : Int) : startS aeC evR4 4 0 Try.f4 none ⟨envOf 0 ([iD many].map .d), [], []⟩ (doneE aeC Try.f4 0 fun v h => freezeV h 4 v) =
  bif decide (many < 2) then
    bif decide (many < 2) then
      some (bD true)
    else
      bif decide (7 < many) then
        some (bD true)
      else
        some (bD false)
  else
    bif decide (7 < many) then
      bif decide (many < 2) then
        some (bD true)
      else
        bif decide (7 < many) then
          some (bD true)
        else
          some (bD false)
    else
      bif Option.isSome (rulerS many 26) then
        bif decide (many < 2) then
          some (bD false)
        else
          bif decide (7 < many) then
            some (bD false)
          else
            bif decide (many = 7) then
              bif isI (ints (Option.getD (rulerS many 26) [])) && (Nat.beq (List.length (ints (Option.getD (rulerS many 26) []))) (List.length (Option.getD (rulerS many 26) [])) && Nat.blt (List.length (Option.getD (rulerS many 26) [])) 4611686018427387904) then
                bif rulerB (unI (ints (Option.getD (rulerS many 26) []))) then
                  bif decide ((↑(List.length (Option.getD (rulerS many 26) [])) : Int) = 7) then
                    some (bD true)
                  else
                    bif decide (many < 7) then
                      bif decide (2 ≤ many) && decide (many ≤ 7) then
                        bif Option.isSome (shortS many 25) then
                          bif isI (ints (Option.getD (rulerS many 26) [])) && (isI (ints (Option.getD (shortS many 25) [])) && (Nat.beq (List.length (ints (Option.getD (rulerS many 26) []))) (List.length (Option.getD (rulerS many 26) [])) && (Nat.beq (List.length (ints (Option.getD (shortS many 25) []))) (List.length (Option.getD (shortS many 25) [])) && Nat.blt (List.length (Option.getD (rulerS many 26) [])) 4611686018427387904))) then
                            bif decide (unI (ints (Option.getD (rulerS many 26) [])) = unI (ints (Option.getD (shortS many 25) []))) then
                              some (bD true)
                            else
                              some (bD false)
                          else
                            none
                        else
                          bif isI (ints (Option.getD (rulerS many 26) [])) && (true && (Nat.beq (List.length (ints (Option.getD (rulerS many 26) []))) (List.length (Option.getD (rulerS many 26) [])) && (true && Nat.blt (List.length (Option.getD (rulerS many 26) [])) 4611686018427387904))) then
                            bif decide (unI (ints (Option.getD (rulerS many 26) [])) = []) then
                              some (bD true)
                            else
                              some (bD false)
                          else
                            none
                      else
                        none
                    else
                      some (bD false)
                else
                  bif decide (many < 7) then
                    bif decide (2 ≤ many) && decide (many ≤ 7) then
                      bif Option.isSome (shortS many 25) then
                        bif isI (ints (Option.getD (rulerS many 26) [])) && (isI (ints (Option.getD (shortS many 25) [])) && (Nat.beq (List.length (ints (Option.getD (rulerS many 26) []))) (List.length (Option.getD (rulerS many 26) [])) && (Nat.beq (List.length (ints (Option.getD (shortS many 25) []))) (List.length (Option.getD (shortS many 25) [])) && Nat.blt (List.length (Option.getD (rulerS many 26) [])) 4611686018427387904))) then
                          bif decide (unI (ints (Option.getD (rulerS many 26) [])) = unI (ints (Option.getD (shortS many 25) []))) then
                            some (bD true)
                          else
                            some (bD false)
                        else
                          none
                      else
                        bif isI (ints (Option.getD (rulerS many 26) [])) && (true && (Nat.beq (List.length (ints (Option.getD (rulerS many 26) []))) (List.length (Option.getD (rulerS many 26) [])) && (true && Nat.blt (List.length (Option.getD (rulerS many 26) [])) 4611686018427387904))) then
                          bif decide (unI (ints (Option.getD (rulerS many 26) [])) = []) then
                            some (bD true)
                          else
                            some (bD false)
                        else
                          none
                    else
                      none
                  else
                    some (bD false)
              else
                none
            else
              bif decide (many < 7) then
                bif decide (2 ≤ many) && decide (many ≤ 7) then
                  bif Option.isSome (shortS many 25) then
                    bif isI (ints (Option.getD (rulerS many 26) [])) && (isI (ints (Option.getD (shortS many 25) [])) && (Nat.beq (List.length (ints (Option.getD (rulerS many 26) []))) (List.length (Option.getD (rulerS many 26) [])) && (Nat.beq (List.length (ints (Option.getD (shortS many 25) []))) (List.length (Option.getD (shortS many 25) [])) && Nat.blt (List.length (Option.getD (rulerS many 26) [])) 4611686018427387904))) then
                      bif decide (unI (ints (Option.getD (rulerS many 26) [])) = unI (ints (Option.getD (shortS many 25) []))) then
                        some (bD true)
                      else
                        some (bD false)
                    else
                      none
                  else
                    bif isI (ints (Option.getD (rulerS many 26) [])) && (true && (Nat.beq (List.length (ints (Option.getD (rulerS many 26) []))) (List.length (Option.getD (rulerS many 26) [])) && (true && Nat.blt (List.length (Option.getD (rulerS many 26) [])) 4611686018427387904))) then
                      bif decide (unI (ints (Option.getD (rulerS many 26) [])) = []) then
                        some (bD true)
                      else
                        some (bD false)
                    else
                      none
                else
                  none
              else
                some (bD false)
      else
        bif decide (many < 2) then
          some (bD false)
        else
          bif decide (7 < many) then
            some (bD false)
          else
            some (bD false) := by kernel_rfl

theorem k4 : OkSeg Try.f4 none [] := ⟨by kernel_rfl, by kernel_rfl, by decide⟩

end Go.Proofs.Ytkcdbndpcabelaa

/- Chapter 02: whether marks are a ruler, and the first ruler that begins with them: the program's functions. -/
namespace Go.Proofs.Ytkcdbndpcabelaa
open Go Go.AE

/-! ### 'IsRuler' and 'Extend' -/
def sp25 : List DV → Tr DV
  | [.sl cs n 1 _ _] => .node (isI cs && Nat.beq cs.length n) (.leaf (.tup [bD (rulerB (unI cs)), iD 0])) .fail
  | _ => .fail
def sp26 : List DV → Tr DV
  | [.sl cs n 1 _ _, .int .i64 many] => .node (isI cs && Nat.beq cs.length n) (.node (rulerB (unI cs)) (.node (decide (many < 2)) (.leaf (.tup [nilS1, bD false, iD 1]))
      (.node (decide (7 < many)) (.leaf (.tup [nilS1, bD false, iD 1])) (.node (decide (many < (n : Int))) (.leaf (.tup [nilS1, bD false, iD 0])) (.node (extS many 25 8 (unI cs)).isSome
        (.leaf (.tup [.sl (ints ((extS many 25 8 (unI cs)).getD [])) ((extS many 25 8 (unI cs)).getD []).length 1 false false, bD true, iD 0])) (.leaf (.tup [.sl [] 0 1 false true, bD false, iD 0])))))) (.leaf (.tup [nilS1, bD false, iD 1]))) .fail
  | _ => .fail

end Go.Proofs.Ytkcdbndpcabelaa

/- Chapter 02: the law on rulers, on data. -/
namespace Go.Proofs.Ytkcdbndpcabelaa
open Go Go.AE

def sp14 : List DV → Tr DV
  | [.sl cs n 1 _ _, .int .i64 most] => .node (isI cs && (Nat.beq cs.length n && (decide (0 ≤ most) && decide (most ≤ 1000)))) (.leaf (.sl (ints ((unI cs).take most.toNat)) (lenOf 1 (ints ((unI cs).take most.toNat)).length) 1 false (true && Nat.beq (ints ((unI cs).take most.toNat)).length 0))) .fail
  | _ => .fail
noncomputable def evR5 : Ev := (((((((Ev.nil.add 14 sp14).add 20 sp20).add 22 sp22).add 23 sp23).add 25 sp25).add 26 sp26).add 27 (sp27 8))
/-- A row as data. -/
noncomputable def rowX (c nl : Bool) (x : List Int) : DV := .sl (ints x) (lenOf 1 (ints x).length) 1 c nl
/-- A row that is built: in a block of its own, or data so far. -/
noncomputable def rowV (own : Bool) (x : List DV) : AV := bif own then .grow 0 1 false else .d (.sl x (lenOf 1 x.length) 1 true false)
noncomputable def rowH (own : Bool) (x : List DV) : List Blk := bif own then [.dc x] else []
noncomputable def s5 (c nl : Bool) (x : List Int) (many r : Int) : St := ⟨[(1, .d (iD many)), (5, .d (rowX c nl x)), (6, .d (iD r))], [], []⟩
noncomputable def t5 (c nl : Bool) (x : List Int) (many r : Int) (own : Bool) (nx : List DV) (i : Int) : St := ⟨[(1, .d (iD many)), (5, .d (rowX c nl x)), (6, .d (iD r)), (14, rowV own nx), (15, .d (iD i))], rowH own nx, []⟩
noncomputable def x5 (many r : Int) (own : Bool) (nx : List DV) : St := ⟨[(1, .d (iD many)), (6, .d (iD r)), (14, rowV own nx)], rowH own nx, []⟩

theorem k5 : OkSeg Try.f5 none [0] := ⟨by kernel_rfl, by kernel_rfl, by decide⟩
theorem k5_0 : OkSeg Try.f5 (some 0) [2] := ⟨by kernel_rfl, by kernel_rfl, by decide⟩
theorem k5_2 : OkSeg Try.f5 (some 2) [] := ⟨by kernel_rfl, by kernel_rfl, by decide⟩

theorem r5 (cs : List DV) (n : Nat) (c nl : Bool) (many : Int) : startS aeC evR5 5 0 Try.f5 none ⟨envOf 0 ([DV.sl cs n 1 c nl, iD many].map .d), [], []⟩ (heldD aeC 5 0) =
  bif isI cs && (Nat.beq (List.length cs) n && true) then
    bif true && Nat.beq (List.length (ints (List.take 9 (unI cs)))) 0 || true then
      some (0, ⟨[(1, .d (iD many)), (5, .d (DV.sl (ints (List.take 9 (unI cs))) (lenOf 1 (List.length (ints (List.take 9 (unI cs))))) 1 false (true && Nat.beq (List.length (ints (List.take 9 (unI cs)))) 0))), (6, .d (iD 0))], [], []⟩)
    else
      none
  else
    none := by kernel_rfl

theorem r5_0h (c nl : Bool) (x : List Int) (many r : Int) : startS aeC evR5 5 0 Try.f5 (some 0) (s5 c nl x many r) (heldD aeC 5 0) =
  bif decide (r < 2) then
    bif isI (ints x) && Nat.beq (List.length (ints x)) (lenOf 1 (List.length (ints x))) then
      bif isI (ints x) && Nat.beq (List.length (ints x)) (lenOf 1 (List.length (ints x))) then
        bif rulerB (unI (ints x)) then
          bif decide (many < 2) then
            bif isI (ints x) && (Nat.beq (List.length (ints x)) (lenOf 1 (List.length (ints x))) && Nat.blt (lenOf 1 (List.length (ints x))) 4611686018427387904) then
              bif !decide (rulerB (unI (ints x)) = rulerB (unI (ints x))) then
                none
              else
                bif !rulerB (unI (ints x)) then
                  some (2, ⟨[(1, .d (iD many)), (5, .d (DV.sl (ints x) (lenOf 1 (List.length (ints x))) 1 c nl)), (6, .d (iD r)), (14, .d (DV.sl [iD 0] 1 1 true false)), (15, .d (iD 0))], [], []⟩)
                else
                  bif decide (many < 2) then
                    some (2, ⟨[(1, .d (iD many)), (5, .d (DV.sl (ints x) (lenOf 1 (List.length (ints x))) 1 c nl)), (6, .d (iD r)), (14, .d (DV.sl [iD 0] 1 1 true false)), (15, .d (iD 0))], [], []⟩)
                  else
                    bif decide (7 < many) then
                      some (2, ⟨[(1, .d (iD many)), (5, .d (DV.sl (ints x) (lenOf 1 (List.length (ints x))) 1 c nl)), (6, .d (iD r)), (14, .d (DV.sl [iD 0] 1 1 true false)), (15, .d (iD 0))], [], []⟩)
                    else
                      bif extG 8 (ints x) (lenOf 1 (List.length (ints x))) nl many 25 then
                        bif Option.isSome (extS many 25 8 (unI (ints x))) then
                          none
                        else
                          none
                      else
                        none
            else
              none
          else
            bif decide (7 < many) then
              bif isI (ints x) && (Nat.beq (List.length (ints x)) (lenOf 1 (List.length (ints x))) && Nat.blt (lenOf 1 (List.length (ints x))) 4611686018427387904) then
                bif !decide (rulerB (unI (ints x)) = rulerB (unI (ints x))) then
                  none
                else
                  bif !rulerB (unI (ints x)) then
                    some (2, ⟨[(1, .d (iD many)), (5, .d (DV.sl (ints x) (lenOf 1 (List.length (ints x))) 1 c nl)), (6, .d (iD r)), (14, .d (DV.sl [iD 0] 1 1 true false)), (15, .d (iD 0))], [], []⟩)
                  else
                    bif decide (many < 2) then
                      some (2, ⟨[(1, .d (iD many)), (5, .d (DV.sl (ints x) (lenOf 1 (List.length (ints x))) 1 c nl)), (6, .d (iD r)), (14, .d (DV.sl [iD 0] 1 1 true false)), (15, .d (iD 0))], [], []⟩)
                    else
                      bif decide (7 < many) then
                        some (2, ⟨[(1, .d (iD many)), (5, .d (DV.sl (ints x) (lenOf 1 (List.length (ints x))) 1 c nl)), (6, .d (iD r)), (14, .d (DV.sl [iD 0] 1 1 true false)), (15, .d (iD 0))], [], []⟩)
                      else
                        bif extG 8 (ints x) (lenOf 1 (List.length (ints x))) nl many 25 then
                          bif Option.isSome (extS many 25 8 (unI (ints x))) then
                            none
                          else
                            none
                        else
                          none
              else
                none
            else
              bif decide (many < (↑(lenOf 1 (List.length (ints x))) : Int)) then
                bif isI (ints x) && (Nat.beq (List.length (ints x)) (lenOf 1 (List.length (ints x))) && Nat.blt (lenOf 1 (List.length (ints x))) 4611686018427387904) then
                  bif !decide (rulerB (unI (ints x)) = rulerB (unI (ints x))) then
                    none
                  else
                    bif !rulerB (unI (ints x)) then
                      none
                    else
                      bif decide (many < 2) then
                        none
                      else
                        bif decide (7 < many) then
                          none
                        else
                          bif extG 8 (ints x) (lenOf 1 (List.length (ints x))) nl many 25 then
                            bif Option.isSome (extS many 25 8 (unI (ints x))) then
                              none
                            else
                              some (2, ⟨[(1, .d (iD many)), (5, .d (DV.sl (ints x) (lenOf 1 (List.length (ints x))) 1 c nl)), (6, .d (iD r)), (14, .d (DV.sl [iD 0] 1 1 true false)), (15, .d (iD 0))], [], []⟩)
                          else
                            none
                else
                  none
              else
                bif Option.isSome (extS many 25 8 (unI (ints x))) then
                  bif isI (ints x) && (Nat.beq (List.length (ints x)) (lenOf 1 (List.length (ints x))) && Nat.blt (lenOf 1 (List.length (ints x))) 4611686018427387904) then
                    bif !decide (rulerB (unI (ints x)) = rulerB (unI (ints x))) then
                      none
                    else
                      bif !rulerB (unI (ints x)) then
                        none
                      else
                        bif decide (many < 2) then
                          none
                        else
                          bif decide (7 < many) then
                            none
                          else
                            bif extG 8 (ints x) (lenOf 1 (List.length (ints x))) nl many 25 then
                              bif Option.isSome (extS many 25 8 (unI (ints x))) then
                                bif isI (ints (Option.getD (extS many 25 8 (unI (ints x))) [])) && (isI (ints (Option.getD (extS many 25 8 (unI (ints x))) [])) && (Nat.beq (List.length (ints (Option.getD (extS many 25 8 (unI (ints x))) []))) (List.length (Option.getD (extS many 25 8 (unI (ints x))) [])) && (Nat.beq (List.length (ints (Option.getD (extS many 25 8 (unI (ints x))) []))) (List.length (Option.getD (extS many 25 8 (unI (ints x))) [])) && Nat.blt (List.length (Option.getD (extS many 25 8 (unI (ints x))) [])) 4611686018427387904))) then
                                  bif !decide (unI (ints (Option.getD (extS many 25 8 (unI (ints x))) [])) = unI (ints (Option.getD (extS many 25 8 (unI (ints x))) []))) then
                                    none
                                  else
                                    some (2, ⟨[(1, .d (iD many)), (5, .d (DV.sl (ints x) (lenOf 1 (List.length (ints x))) 1 c nl)), (6, .d (iD r)), (14, .d (DV.sl [iD 0] 1 1 true false)), (15, .d (iD 0))], [], []⟩)
                                else
                                  none
                              else
                                none
                            else
                              none
                  else
                    none
                else
                  bif isI (ints x) && (Nat.beq (List.length (ints x)) (lenOf 1 (List.length (ints x))) && Nat.blt (lenOf 1 (List.length (ints x))) 4611686018427387904) then
                    bif !decide (rulerB (unI (ints x)) = rulerB (unI (ints x))) then
                      none
                    else
                      bif !rulerB (unI (ints x)) then
                        none
                      else
                        bif decide (many < 2) then
                          none
                        else
                          bif decide (7 < many) then
                            none
                          else
                            bif extG 8 (ints x) (lenOf 1 (List.length (ints x))) nl many 25 then
                              bif Option.isSome (extS many 25 8 (unI (ints x))) then
                                none
                              else
                                some (2, ⟨[(1, .d (iD many)), (5, .d (DV.sl (ints x) (lenOf 1 (List.length (ints x))) 1 c nl)), (6, .d (iD r)), (14, .d (DV.sl [iD 0] 1 1 true false)), (15, .d (iD 0))], [], []⟩)
                            else
                              none
                  else
                    none
        else
          bif isI (ints x) && (Nat.beq (List.length (ints x)) (lenOf 1 (List.length (ints x))) && Nat.blt (lenOf 1 (List.length (ints x))) 4611686018427387904) then
            bif !decide (rulerB (unI (ints x)) = rulerB (unI (ints x))) then
              none
            else
              bif !rulerB (unI (ints x)) then
                some (2, ⟨[(1, .d (iD many)), (5, .d (DV.sl (ints x) (lenOf 1 (List.length (ints x))) 1 c nl)), (6, .d (iD r)), (14, .d (DV.sl [iD 0] 1 1 true false)), (15, .d (iD 0))], [], []⟩)
              else
                bif decide (many < 2) then
                  some (2, ⟨[(1, .d (iD many)), (5, .d (DV.sl (ints x) (lenOf 1 (List.length (ints x))) 1 c nl)), (6, .d (iD r)), (14, .d (DV.sl [iD 0] 1 1 true false)), (15, .d (iD 0))], [], []⟩)
                else
                  bif decide (7 < many) then
                    some (2, ⟨[(1, .d (iD many)), (5, .d (DV.sl (ints x) (lenOf 1 (List.length (ints x))) 1 c nl)), (6, .d (iD r)), (14, .d (DV.sl [iD 0] 1 1 true false)), (15, .d (iD 0))], [], []⟩)
                  else
                    bif extG 8 (ints x) (lenOf 1 (List.length (ints x))) nl many 25 then
                      bif Option.isSome (extS many 25 8 (unI (ints x))) then
                        none
                      else
                        none
                    else
                      none
          else
            none
      else
        none
    else
      none
  else
    none := by kernel_rfl

theorem r5_0x (c nl : Bool) (x : List Int) (many : Int) : startS aeC evR5 5 0 Try.f5 (some 0) (s5 c nl x many 2) (roundD aeC 5 0 0) =
  some (Ex.exit 0, ⟨[], [], []⟩) := by kernel_rfl

theorem r5_2 (c nl : Bool) (x : List Int) (many r : Int) (own : Bool) (nx : List DV) (i : Int) : startS aeC evR5 5 0 Try.f5 (some 2) (t5 c nl x many r own nx i) (roundD aeC 5 0 2) =
  bif decide (i < (lenOf 1 (List.length (ints x)) : Int)) then
    bif decide ((lenOf 1 (List.length nx) : Int) < 6) then
      bif Nat.ble (lenOf 1 (List.length nx)) 1048576 then
        bif inRange (IntKind.wrap IntKind.i64 ((lenOf 1 (List.length nx) : Int) - 1)) (lenOf 1 (List.length nx)) then
          getI (nth nx (Int.toNat (IntKind.wrap IntKind.i64 ((lenOf 1 (List.length nx) : Int) - 1)) * 1)) fun x0 =>
          bif inRange i (lenOf 1 (List.length (ints x))) then
            getI (nth (ints x) (Int.toNat i * 1)) fun x1 =>
            bif Nat.ble (lenOf 1 (List.length nx) + 1) 1048576 then
              bif isI (nx ++ [iD (IntKind.wrap IntKind.i64 (IntKind.wrap IntKind.i64 (x0 + 1) + IntKind.wrap IntKind.i64 (Int.tmod (IntKind.wrap IntKind.u64 x1) 7)))]) && (Nat.beq (List.length (nx ++ [iD (IntKind.wrap IntKind.i64 (IntKind.wrap IntKind.i64 (x0 + 1) + IntKind.wrap IntKind.i64 (Int.tmod (IntKind.wrap IntKind.u64 x1) 7)))])) (lenOf 1 (List.length (nx ++ [iD (IntKind.wrap IntKind.i64 (IntKind.wrap IntKind.i64 (x0 + 1) + IntKind.wrap IntKind.i64 (Int.tmod (IntKind.wrap IntKind.u64 x1) 7)))]))) && Nat.blt (lenOf 1 (List.length (nx ++ [iD (IntKind.wrap IntKind.i64 (IntKind.wrap IntKind.i64 (x0 + 1) + IntKind.wrap IntKind.i64 (Int.tmod (IntKind.wrap IntKind.u64 x1) 7)))]))) 4611686018427387904) then
                bif rulerB (unI (nx ++ [iD (IntKind.wrap IntKind.i64 (IntKind.wrap IntKind.i64 (x0 + 1) + IntKind.wrap IntKind.i64 (Int.tmod (IntKind.wrap IntKind.u64 x1) 7)))])) then
                  some (.norm, t5 c nl x many r true (nx ++ [iD (IntKind.wrap IntKind.i64 (IntKind.wrap IntKind.i64 (x0 + 1) + IntKind.wrap IntKind.i64 (Int.tmod (IntKind.wrap IntKind.u64 x1) 7)))]) (IntKind.wrap IntKind.i64 (i + 1)))
                else some (.norm, t5 c nl x many r own nx (IntKind.wrap IntKind.i64 (i + 1)))
              else none
            else none
          else none
        else none
      else none
    else some (.exit 2, x5 many r own nx)
  else some (.exit 2, x5 many r own nx) := by cases own <;> kernel_rfl

/-- What follows a row that was built. -/
theorem r5_x (many r : Int) (own : Bool) (nx : List Int) (h1 : 1 ≤ nx.length) (h2 : nx.length ≤ 6) (hr : 0 ≤ r ∧ r < 5) : ∃ c nl x many', x.length ≤ 9 ∧ (nl = true → x = []) ∧ nextS aeC evR5 5 0 Try.f5 (some 0) 2 (.exit 2) (x5 many r own (ints nx)) (roundD aeC 5 0 0) = some (.norm, s5 c nl x many' (r + 1)) := by
  have hrw : IntKind.wrap .i64 (r + 1) = r + 1 := wrap64 (by omega) (by omega)
  cases own with
  | true =>
    have key : nextS aeC evR5 5 0 Try.f5 (some 0) 2 (.exit 2) (x5 many r true (ints nx)) (roundD aeC 5 0 0) =
        bif decide ((lenOf 1 (List.length (ints nx)) : Int) < 2) then
          bif Nat.ble (lenOf 1 (List.length (ints nx)) + 1) 1048576 then
            some (.norm, ⟨[(1, .d (iD (IntKind.wrap .i64 (2 + IntKind.wrap .i64 (Int.tmod (IntKind.wrap .u64 many) 6))))), (5, .d (.sl (ints nx ++ [iD 1]) (lenOf 1 (ints nx ++ [iD 1]).length) 1 false (true && Nat.beq (List.length (ints nx ++ [iD 1])) 0))), (6, .d (iD (IntKind.wrap .i64 (r + 1))))], [], []⟩)
          else none
        else some (.norm, s5 false (true && Nat.beq (List.length (ints nx)) 0) nx (IntKind.wrap .i64 (2 + IntKind.wrap .i64 (Int.tmod (IntKind.wrap .u64 many) 6))) (IntKind.wrap .i64 (r + 1))) := by kernel_rfl
    by_cases hc : nx.length < 2
    · refine ⟨false, (true && Nat.beq (List.length (ints (nx ++ [1]))) 0), nx ++ [1], IntKind.wrap .i64 (2 + IntKind.wrap .i64 (Int.tmod (IntKind.wrap .u64 many) 6)), by simp; omega, ?_, key.trans ?_⟩
      · intro h; rw [Bool.true_and, len_ints] at h; have := Nat.eq_of_beq_eq_true h; simp at this
      · rw [cnd_pos (by rw [lenOf_1, len_ints]; omega), ble_pos (by rw [lenOf_1, len_ints]; omega), hrw, ints_app1]
        rfl
    · refine ⟨false, (true && Nat.beq (List.length (ints nx)) 0), nx, IntKind.wrap .i64 (2 + IntKind.wrap .i64 (Int.tmod (IntKind.wrap .u64 many) 6)), by omega, ?_, key.trans ?_⟩
      · intro h; rw [Bool.true_and, len_ints] at h; have := Nat.eq_of_beq_eq_true h; omega
      · rw [cnd_neg (by rw [lenOf_1, len_ints]; omega), hrw]
  | false =>
    have key : nextS aeC evR5 5 0 Try.f5 (some 0) 2 (.exit 2) (x5 many r false (ints nx)) (roundD aeC 5 0 0) =
        bif decide ((lenOf 1 (List.length (ints nx)) : Int) < 2) then
          bif Nat.ble (lenOf 1 (List.length (ints nx)) + 1) 1048576 then
            bif Nat.beq (lenOf 1 (List.length (ints nx))) 0 then some (.norm, ⟨[(1, .d (iD (IntKind.wrap .i64 (2 + IntKind.wrap .i64 (Int.tmod (IntKind.wrap .u64 many) 6))))), (5, .d (.sl [iD 1] 1 1 false false)), (6, .d (iD (IntKind.wrap .i64 (r + 1))))], [], []⟩) else
            some (.norm, ⟨[(1, .d (iD (IntKind.wrap .i64 (2 + IntKind.wrap .i64 (Int.tmod (IntKind.wrap .u64 many) 6))))), (5, .d (.sl (ints nx ++ [iD 1]) (lenOf 1 (ints nx ++ [iD 1]).length) 1 false (false && Nat.beq (List.length (ints nx ++ [iD 1])) 0))), (6, .d (iD (IntKind.wrap .i64 (r + 1))))], [], []⟩)
          else none
        else some (.norm, s5 true false nx (IntKind.wrap .i64 (2 + IntKind.wrap .i64 (Int.tmod (IntKind.wrap .u64 many) 6))) (IntKind.wrap .i64 (r + 1))) := by
      kernel_rfl
    by_cases hc : nx.length < 2
    · have hne : Nat.beq (lenOf 1 (List.length (ints nx))) 0 = false := by
        rw [lenOf_1, len_ints]
        cases h : Nat.beq nx.length 0 with
        | false => rfl
        | true => have := Nat.eq_of_beq_eq_true h; omega
      refine ⟨false, false, nx ++ [1], IntKind.wrap .i64 (2 + IntKind.wrap .i64 (Int.tmod (IntKind.wrap .u64 many) 6)), by simp; omega, by simp, key.trans ?_⟩
      rw [cnd_pos (by rw [lenOf_1, len_ints]; omega), ble_pos (by rw [lenOf_1, len_ints]; omega), hne, hrw, ints_app1]
      rfl
    · refine ⟨true, false, nx, IntKind.wrap .i64 (2 + IntKind.wrap .i64 (Int.tmod (IntKind.wrap .u64 many) 6)), by omega, by simp, key.trans ?_⟩
      rw [cnd_neg (by rw [lenOf_1, len_ints]; omega), hrw]

theorem l5_2 (c nl : Bool) (x : List Int) (many r : Int) (hx : x.length ≤ 9) : ∀ (k i : Nat) (own : Bool) (nx : List Int), i + k = x.length → 1 ≤ nx.length → nx.length ≤ 6 →
    ∃ own' nx', 1 ≤ nx'.length ∧ nx'.length ≤ 6 ∧ LoopAt aeC evR5 5 0 Try.f5 2 (t5 c nl x many r own (ints nx) i) (.exit 2) (x5 many r own' (ints nx'))
  | 0, i, own, nx, hk, h1, h2 => by
    refine ⟨own, nx, h1, h2, .out k5_2 (by simp) ((r5_2 ..).trans ?_)⟩
    simp (disch := omega) only [cnd_pos, cnd_neg, inR_pos, ble_pos, blt_pos, beq_pos, cond_and, cond_or, Bool.cond_not, cond_true, cond_false, Bool.and_true, Bool.true_and, getI_some, getB_some, nth_ints_o, nth_bools_o, wrap64_o, len_ints, len_bools, lenOf_1, Int.toNat_natCast, Nat.mul_one, Nat.zero_add, setNth_bools_o, setNth_ints_o, len_set_i, len_set_b, Option.bind_some, List.length_append, List.length_cons, List.length_nil, unI_ints, unB_bools, ints_app1, bools_app1, nth_pr1, nth_pr2, len_prs, abs_if, Nat.add_zero, cond_same]
  | k + 1, i, own, nx, hk, h1, h2 => by
    have res := r5_2 c nl x many r own (ints nx) i
    revert res
    simp (disch := omega) only [cnd_pos, cnd_neg, inR_pos, ble_pos, blt_pos, beq_pos, cond_and, cond_or, Bool.cond_not, cond_true, cond_false, Bool.and_true, Bool.true_and, getI_some, getB_some, nth_ints_o, nth_bools_o, wrap64_o, len_ints, len_bools, lenOf_1, Int.toNat_natCast, Nat.mul_one, Nat.zero_add, setNth_bools_o, setNth_ints_o, len_set_i, len_set_b, Option.bind_some, List.length_append, List.length_cons, List.length_nil, unI_ints, unB_bools, ints_app1, bools_app1, nth_pr1, nth_pr2, len_prs, abs_if, Nat.add_zero, cond_same, Bool.and_true]
    intro res
    by_cases h6 : (nx.length : Int) < 6
    · rw [cnd_pos h6] at res
      revert res
      simp (disch := omega) only [cnd_pos, cnd_neg, inR_pos, ble_pos, blt_pos, beq_pos, cond_and, cond_or, Bool.cond_not, cond_true, cond_false, Bool.and_true, Bool.true_and, getI_some, getB_some, nth_ints_o, nth_bools_o, wrap64_o, len_ints, len_bools, lenOf_1, Int.toNat_natCast, Nat.mul_one, Nat.zero_add, setNth_bools_o, setNth_ints_o, len_set_i, len_set_b, Option.bind_some, List.length_append, List.length_cons, List.length_nil, unI_ints, unB_bools, ints_app1, bools_app1, nth_pr1, nth_pr2, len_prs, abs_if, Nat.add_zero, cond_same, isI_ints, Nat.beq_refl]
      generalize IntKind.wrap IntKind.i64 (IntKind.wrap IntKind.i64 (nx.getD ((nx.length : Int) - 1).toNat 0 + 1) + IntKind.wrap IntKind.i64 (Int.tmod (IntKind.wrap IntKind.u64 (x.getD i 0)) 7)) = v
      intro res
      cases hr : rulerB (nx ++ [v]) with
      | true =>
        rw [hr, cond_true] at res
        obtain ⟨o', n', q1, q2, q3⟩ := l5_2 c nl x many r hx k (i + 1) true (nx ++ [v]) (by omega) (by simp) (by simp; omega)
        exact ⟨o', n', q1, q2, .next k5_2 res q3⟩
      | false =>
        rw [hr, cond_false] at res
        obtain ⟨o', n', q1, q2, q3⟩ := l5_2 c nl x many r hx k (i + 1) own nx (by omega) h1 h2
        exact ⟨o', n', q1, q2, .next k5_2 res q3⟩
    · rw [cnd_neg h6] at res
      exact ⟨own, nx, h1, h2, .out k5_2 (by simp) res⟩

theorem head5 (c nl : Bool) (x : List Int) (many r : Int) (hx : x.length ≤ 9) (hnl : nl = true → x = []) (hr : r < 2) : startS aeC evR5 5 0 Try.f5 (some 0) (s5 c nl x many r) (heldD aeC 5 0) = some (2, t5 c nl x many r false (ints [0]) (0 : Nat)) := by
  rw [r5_0h]
  have hb : (isI (ints x) && (Nat.beq (List.length (ints x)) (lenOf 1 (List.length (ints x))) && Nat.blt (lenOf 1 (List.length (ints x))) 4611686018427387904)) = true := by
    rw [isI_ints, lenOf_1, Nat.beq_refl, len_ints, show Nat.blt x.length 4611686018427387904 = true by rw [Nat.blt_eq]; omega]; rfl
  have hb2 : (isI (ints x) && Nat.beq (List.length (ints x)) (lenOf 1 (List.length (ints x)))) = true := by rw [isI_ints, lenOf_1, Nat.beq_refl]; rfl
  have hsame : decide (rulerB x = rulerB x) = true := decide_eq_true rfl
  rw [cnd_pos hr]
  simp only [hb, hb2, unI_ints, hsame, cond_true, Bool.not_true, cond_false]
  cases hru : rulerB x with
  | false => rfl
  | true =>
    have h2 : 2 ≤ x.length ∧ x.length ≤ 7 ∧ x.getD 0 0 = 0 := by
      simp only [rulerB, Bool.and_eq_true, decide_eq_true_eq] at hru
      exact ⟨hru.1, hru.2.1, hru.2.2.1⟩
    simp only [cond_true, Bool.not_true, cond_false]
    by_cases c1 : many < 2
    · simp only [cnd_pos c1]; rfl
    by_cases c2 : 7 < many
    · simp only [cnd_neg c1, cnd_pos c2]; rfl
    have hnl' : nl = false := by
      cases nl with
      | false => rfl
      | true => rw [hnl rfl] at h2; simp at h2
    have hg : extG 8 (ints x) (lenOf 1 (List.length (ints x))) nl many 25 = true := isP_iff.2 ⟨by omega, hnl', isI_ints _, rfl, by rw [lenOf_1, len_ints]; omega, by rw [lenOf_1, len_ints]; omega, by omega, by omega, by rw [unI_ints]; exact h2.2.2, by rw [lenOf_1, len_ints]; omega⟩
    simp only [cnd_neg c1, cnd_neg c2, hg, cond_true]
    by_cases c3 : many < (lenOf 1 (List.length (ints x)) : Int)
    · have he : extS many 25 8 x = none := by simp only [extS]; rw [lenOf_1, len_ints] at c3; rw [if_pos c3]
      simp only [cnd_pos c3, he, Option.isSome_none, cond_false]; rfl
    · simp only [cnd_neg c3]
      cases he : extS many 25 8 x with
      | none => rfl
      | some o =>
        have ho := (extS_some _ _ _ _ _ he).1
        have hb3 : (isI (ints o) && (isI (ints o) && (Nat.beq (ints o).length o.length && (Nat.beq (ints o).length o.length && Nat.blt o.length 4611686018427387904)))) = true := by
          rw [isI_ints, len_ints, Nat.beq_refl, show Nat.blt o.length 4611686018427387904 = true by rw [Nat.blt_eq]; omega]; rfl
        simp only [Option.isSome_some, cond_true, Option.getD_some, hb3, unI_ints, decide_true, Bool.not_true, cond_false]; rfl

theorem l5 : ∀ (k : Nat) (c nl : Bool) (x : List Int) (many : Int), k ≤ 2 → x.length ≤ 9 → (nl = true → x = []) → LoopAt aeC evR5 5 0 Try.f5 0 (s5 c nl x many (2 - (k : Int))) (.exit 0) ⟨[], [], []⟩
  | 0, c, nl, x, many, hk, hx, hnl => .out k5_0 (by simp) (r5_0x c nl x many)
  | k + 1, c, nl, x, many, hk, hx, hnl => by
    obtain ⟨own, nx, h1, h2, h3⟩ := l5_2 c nl x many (2 - ((k + 1 : Nat) : Int)) hx x.length 0 false [0] (by omega) (by simp) (by simp)
    obtain ⟨c', nl', x', many', g1, g2, g3⟩ := r5_x many (2 - ((k + 1 : Nat) : Int)) own nx h1 h2 (by omega)
    refine .nextF k5_0 ((startF_seg k5_0 (head5 c nl x many _ hx hnl (by omega)) h3).trans (nextF_done k5_0 roundD_plain g3)) ?_
    rw [show 2 - ((k + 1 : Nat) : Int) + 1 = 2 - (k : Int) by omega]
    exact l5 k c' nl' x' many' (by omega) g1 g2

end Go.Proofs.Ytkcdbndpcabelaa

/- Chapter 02: the document's words on labels: what fits, what is graceful. -/
namespace Go.Proofs.Ytkcdbndpcabelaa
open Go Go.AE

noncomputable def edgX (E : List (Int × Int)) (c nl : Bool) : DV := .sl (edD E) E.length 2 c nl
noncomputable def lstX (l : List Int) (c nl : Bool) : DV := .sl (ints l) l.length 1 c nl
/-- How far an edge's labels are apart. -/
def dlt (l : List Int) (e : Int × Int) : Nat := dist (labAt l e.2) (labAt l e.1)
/-- Edges between n nodes. -/
def EdOK (n : Nat) (E : List (Int × Int)) : Prop := ∀ e ∈ E, 0 ≤ e.1 ∧ e.1 < e.2 ∧ e.2 < n
/-- Labels from 0 to m. -/
def LabOK (m : Nat) (l : List Int) : Prop := ∀ x ∈ l, 0 ≤ x ∧ x ≤ m

theorem EdOK.get {n : Nat} {E : List (Int × Int)} (h : EdOK n E) {i : Nat} (hi : i < E.length) : 0 ≤ (E.getD i (0, 0)).1 ∧ (E.getD i (0, 0)).1 < (E.getD i (0, 0)).2 ∧ (E.getD i (0, 0)).2 < n := by
  have : E.getD i (0, 0) = E[i] := by simp [hi]
  rw [this]; exact h _ (List.getElem_mem hi)
theorem LabOK.get {m : Nat} {l : List Int} (h : LabOK m l) {i : Nat} (hi : i < l.length) : 0 ≤ l.getD i 0 ∧ l.getD i 0 ≤ m := by
  have : l.getD i 0 = l[i] := by simp [hi]
  rw [this]; exact h _ (List.getElem_mem hi)
theorem LabOK.at {m : Nat} {l : List Int} (h : LabOK m l) {a : Int} (h0 : 0 ≤ a) (h1 : a < l.length) : 0 ≤ labAt l a ∧ labAt l a ≤ m := h.get (by omega)

/-! ### 'fits' -/
/-- The edges up to a node. -/
def upTo (k : Nat) (E : List (Int × Int)) : List (Int × Int) := E.filter fun e => decide (e.2 ≤ k)

theorem labAt_snoc {l : List Int} {x a : Int} (h0 : 0 ≤ a) (h1 : a < l.length) : labAt (l ++ [x]) a = labAt l a := by
  unfold labAt
  have : a.toNat < l.length := by omega
  simp [List.getD_eq_getElem?_getD, List.getElem?_append, this]
theorem labAt_last {l : List Int} {x : Int} {a : Int} (h : a = l.length) : labAt (l ++ [x]) a = x := by
  subst h; simp [labAt]

/-- A label fits as the next one. -/
def fitsB (E : List (Int × Int)) (l : List Int) (x : Int) : Bool := (chkD ((upTo l.length E).map (dlt (l ++ [x]))) (List.replicate 11 false)).isSome && !l.contains x

/-! ### 'Graceful' -/
/-- Labels from 0 to m, each of them new. -/
def newS (m : Nat) : List Int → List Int → Bool
  | _, [] => true
  | p, x :: r => decide (0 ≤ x) && (decide (x ≤ m) && (!p.contains x && newS m (p ++ [x]) r))

/-- Labels are graceful. -/
def gracB (n : Int) (E : List (Int × Int)) (l : List Int) : Bool := decide ((l.length : Int) = n) && (newS E.length [] l && (chkD (E.map (dlt l)) (List.replicate (E.length + 1) false)).isSome)

theorem newS_lab : ∀ {m : Nat} {p r : List Int}, newS m p r = true → LabOK m r
  | m, p, [], _ => by intro x hx; cases hx
  | m, p, y :: r, h => by
    simp only [newS, Bool.and_eq_true, decide_eq_true_eq] at h
    intro x hx
    rcases List.mem_cons.1 hx with rfl | hx
    · exact ⟨h.1, h.2.1⟩
    · exact newS_lab h.2.2.2 x hx

end Go.Proofs.Ytkcdbndpcabelaa

/- Chapter 02: by which number labels part, by the document. -/
namespace Go.Proofs.Ytkcdbndpcabelaa
open Go Go.AE

/-! ### 'Parts' -/
/-- An edge's labels lie on two sides of a number. -/
def splitE (l : List Int) (k : Int) (e : Int × Int) : Bool := !decide (decide (labAt l e.1 ≤ k) = decide (labAt l e.2 ≤ k))

/-- The least number by which labels part, j numbers ahead of the end. -/
def partL (E : List (Int × Int)) (l : List Int) : Nat → Option Int
  | 0 => none
  | j + 1 => if E.all (splitE l ((E.length : Int) - (j + 1 : Nat))) = true then some ((E.length : Int) - (j + 1 : Nat)) else partL E l j

/-! ### Oracles -/
/-- What edges and labels are as data. -/
noncomputable def okG16 (n : Int) (es : List DV) (m : Nat) (cs : List DV) (k : Nat) : Bool := isP (isE es m = true ∧ isI cs = true ∧ cs.length = k ∧ 0 ≤ n ∧ n ≤ 100 ∧ EdOK n.toNat (unE es) ∧ m ≤ 100)
end Go.Proofs.Ytkcdbndpcabelaa

/- Chapter 02: the document's search through labels. -/
namespace Go.Proofs.Ytkcdbndpcabelaa
open Go Go.AE

/-- The labels m + 1 - k and more of the next node, one after the other. -/
def loopX (next : List Int → Option (List Int) × Int) (E : List (Int × Int)) (l : List Int) (first : Bool) : Nat → Option (List Int) → Int → Option (List Int) × Int
  | 0, best, many => (best, many)
  | k + 1, best, many => if fitsB E l ((E.length : Int) - k) = true then
      (if first = true ∧ 0 < many + (next (l ++ [(E.length : Int) - k])).2 then (best.or (next (l ++ [(E.length : Int) - k])).1, many + (next (l ++ [(E.length : Int) - k])).2)
        else loopX next E l first k (best.or (next (l ++ [(E.length : Int) - k])).1) (many + (next (l ++ [(E.length : Int) - k])).2))
    else loopX next E l first k best many

/-- The search, f nodes ahead of the end. -/
def srS (n : Int) (E : List (Int × Int)) (part first : Bool) : Nat → List Int → Option (List Int) × Int
  | 0, l => if gracB n E l = true ∧ ((partL E l E.length).isSome = true ∨ part = false) then (some l, 1) else (none, 0)
  | f + 1, l => loopX (srS n E part first f) E l first (E.length + 1) none 0

theorem loopX_bound {next : List Int → Option (List Int) × Int} {E : List (Int × Int)} {l : List Int} {first : Bool} {B : Int} (hB : 0 ≤ B) (hn : ∀ x, 0 ≤ (next x).2 ∧ (next x).2 ≤ B) : ∀ (k : Nat) (best : Option (List Int)) (many : Int), 0 ≤ many →
    0 ≤ (loopX next E l first k best many).2 ∧ (loopX next E l first k best many).2 ≤ many + k * B
  | 0, best, many, h => by simp only [loopX]; exact ⟨h, by simp⟩
  | k + 1, best, many, h => by
    have hx := hn (l ++ [(E.length : Int) - k])
    have hk : ((k + 1 : Nat) : Int) * B = k * B + B := by rw [Int.natCast_add, Int.add_mul]; simp
    have hkB : 0 ≤ (k : Int) * B := Int.mul_nonneg (by omega) hB
    simp only [loopX]
    split
    · split
      · simp only; omega
      · have := loopX_bound (l := l) (E := E) (first := first) hB hn k (best.or (next (l ++ [(E.length : Int) - k])).1) (many + (next (l ++ [(E.length : Int) - k])).2) (by omega)
        omega
    · have := loopX_bound (l := l) (E := E) (first := first) hB hn k best many h
      omega

theorem srS_bound (n : Int) (E : List (Int × Int)) (part first : Bool) (hE : E.length ≤ 10) : ∀ (f : Nat) (l : List Int), 0 ≤ (srS n E part first f l).2 ∧ (srS n E part first f l).2 ≤ 11 ^ f
  | 0, l => by simp only [srS]; split <;> simp
  | f + 1, l => by
    have := loopX_bound (E := E) (l := l) (first := first) (B := 11 ^ f) (Int.pow_nonneg (by omega)) (srS_bound n E part first hE f) (E.length + 1) none 0 (by omega)
    simp only [srS]
    have hp : (11 : Int) ^ (f + 1) = 11 * 11 ^ f := by rw [Int.pow_succ]; omega
    have h11 : ((E.length + 1 : Nat) : Int) * 11 ^ f ≤ 11 * 11 ^ f := Int.mul_le_mul_of_nonneg_right (by omega) (Int.pow_nonneg (by omega))
    omega

theorem pow_le {f : Nat} (h : f ≤ 7) : (11 : Int) ^ f ≤ 19487171 := by
  match f, h with
  | 0, _ => decide
  | 1, _ => decide
  | 2, _ => decide
  | 3, _ => decide
  | 4, _ => decide
  | 5, _ => decide
  | 6, _ => decide
  | 7, _ => decide

theorem LabOK.snoc {m : Nat} {l : List Int} {x : Int} (h : LabOK m l) (h0 : 0 ≤ x) (h1 : x ≤ m) : LabOK m (l ++ [x]) := by
  intro y hy
  rcases List.mem_append.1 hy with hy | hy
  · exact h y hy
  · simp at hy; subst hy; exact ⟨h0, h1⟩
theorem LabOK.mono {m m' : Nat} {l : List Int} (h : LabOK m l) (hm : m ≤ m') : LabOK m' l := fun x hx => ⟨(h x hx).1, by have := (h x hx).2; omega⟩

theorem PureOK.res {f : FuncId} {ds : List DV} {d d' : DV} (h : PureOK Try.prog f ds d) (hd : ∀ (w : World) (G : Nat → Prop) (v : Value), DRel w G d v → DRel w G d' v) : PureOK Try.prog f ds d' := by
  refine ⟨h.1, fun w G vs hG hg q => Calls.mono (h.2 w G vs hG hg q) ?_⟩
  rintro e w' ⟨v, rfl, h1, h2⟩
  exact ⟨v, rfl, h1, hd _ _ _ h2⟩

end Go.Proofs.Ytkcdbndpcabelaa
