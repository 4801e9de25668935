/- Part 7 of what the law stands on: the abstract machine over the model, and what the functions answer. No condition. -/
import Derived.Test.YtjfopbpkophoeaaK6
set_option linter.unusedSimpArgs false
set_option linter.unusedVariables false

/- Chapter 06: what Trip's closure (77) does. Written by wip/tools/genW4.py. -/
namespace Go.Proofs.Ytjfopbpkophoeaa
open Go Go.AE
set_option maxRecDepth 100000
def zf (z : Bool) : Fo := bif z then .g else .r
structure Hd7 (e : Nat) (q : Fo) : Prop where
  hd : ∀ (ok : Nat → List DV → Bool) (P : List DV → Nat → Int) (j m : Int) (k : Nat) (f : Nat → Int) (F : List (Nat × RuleF)) (l : List Int) (a : Int), l.length = e → startS aeC6 (ev7 ok k P F) 77 (5 + e) Try.f77 none ⟨envOf 0 a7, hp j m k f q e (l ++ [a]), []⟩ (heldD aeC6 77 (5 + e)) = W77 ok P k f j m a ((e + 1 : Nat) : Int) none none (some (0, s77 a k 0 (hp j m k f q e (l ++ [a]))))
  dn : ∀ (ok : Nat → List DV → Bool) (P : List DV → Nat → Int) (j m : Int) (k : Nat) (f : Nat → Int) (F : List (Nat × RuleF)) (l : List Int) (a : Int), l.length = e → startS aeC6 (ev7 ok k P F) 77 (5 + e) Try.f77 none ⟨envOf 0 a7, hp j m k f q e (l ++ [a]), []⟩ (doneE aeC6 Try.f77 (5 + e) fun v h => some (v, h)) = W77 ok P k f j m a ((e + 1 : Nat) : Int) (some (.d (bD false), hp j m k f q e (l ++ [a]))) (some (.d (bD true), hp j m k f q e (l ++ [a]))) none
def zin (D e : Nat) : Nat := bif Nat.beq (e + 1) D then D else e + 2
structure Rd7 (D e : Nat) (q : Fo) : Prop where
  rE : ∀ (z : Bool) (w : List Int), w.length = D + 1 → ∀ (ok : Nat → List DV → Bool) (P : List DV → Nat → Int) (j m : Int) (k : Nat) (f : Nat → Int) (q1 q2 : List AV → List Blk → Bool) (a s : Int) (l : List Int), l.length = e + 1 →
    startS aeC6 (ev7 ok k P (F77 q1 q2 (hz j m k f (zf z) (zin D e) w))) 77 (5 + e) Try.f77 (some 0) (s77 a k s (hp j m k f q e l)) (roundD aeC6 77 (5 + e) 0) = V77 k f a s (some (.norm, s77 a k (IntKind.wrap .i64 (s + 1)) (hp j m k f q e l))) (C77 q1 q2 (hz j m k f (zf z) (e + 1) w) (hp j m k f .g (e + 1) (l ++ [s])) (some (.norm, s77 a k (IntKind.wrap .i64 (s + 1)) (hp j m k f .x (e + 1) (l ++ [s]))))) (some (.exit 0, ⟨[], hp j m k f q e l, []⟩))
  rX : ∀ (z : Bool) (w : List Int), w.length = D + 1 → ∀ (ok : Nat → List DV → Bool) (P : List DV → Nat → Int) (j m : Int) (k : Nat) (f : Nat → Int) (q1 q2 : List AV → List Blk → Bool) (a s y : Int) (l : List Int), l.length = e + 1 →
    startS aeC6 (ev7 ok k P (F77 q1 q2 (hz j m k f (zf z) (zin D e) w))) 77 (5 + e) Try.f77 (some 0) (s77 a k s (hp j m k f .x (e + 1) (l ++ [y]))) (roundD aeC6 77 (5 + e) 0) = V77 k f a s (some (.norm, s77 a k (IntKind.wrap .i64 (s + 1)) (hp j m k f .x (e + 1) (l ++ [y])))) (C77 q1 q2 (hz j m k f (zf z) (e + 1) w) (hp j m k f .r (e + 1) (l ++ [s])) (some (.norm, s77 a k (IntKind.wrap .i64 (s + 1)) (hp j m k f .x (e + 1) (l ++ [s]))))) (some (.exit 0, ⟨[], hp j m k f .x (e + 1) (l ++ [y]), []⟩))

theorem len6 {α : Type} {l : List α} (h : l.length = 6) : ∃ a0 a1 a2 a3 a4 a5, l = [a0, a1, a2, a3, a4, a5] := by
  match l, h with
  | [a0, a1, a2, a3, a4, a5], _ => exact ⟨a0, a1, a2, a3, a4, a5, rfl⟩
theorem len7 {α : Type} {l : List α} (h : l.length = 7) : ∃ a0 a1 a2 a3 a4 a5 a6, l = [a0, a1, a2, a3, a4, a5, a6] := by
  match l, h with
  | [a0, a1, a2, a3, a4, a5, a6], _ => exact ⟨a0, a1, a2, a3, a4, a5, a6, rfl⟩
theorem len8 {α : Type} {l : List α} (h : l.length = 8) : ∃ a0 a1 a2 a3 a4 a5 a6 a7, l = [a0, a1, a2, a3, a4, a5, a6, a7] := by
  match l, h with
  | [a0, a1, a2, a3, a4, a5, a6, a7], _ => exact ⟨a0, a1, a2, a3, a4, a5, a6, a7, rfl⟩
theorem len9 {α : Type} {l : List α} (h : l.length = 9) : ∃ a0 a1 a2 a3 a4 a5 a6 a7 a8, l = [a0, a1, a2, a3, a4, a5, a6, a7, a8] := by
  match l, h with
  | [a0, a1, a2, a3, a4, a5, a6, a7, a8], _ => exact ⟨a0, a1, a2, a3, a4, a5, a6, a7, a8, rfl⟩
theorem len10 {α : Type} {l : List α} (h : l.length = 10) : ∃ a0 a1 a2 a3 a4 a5 a6 a7 a8 a9, l = [a0, a1, a2, a3, a4, a5, a6, a7, a8, a9] := by
  match l, h with
  | [a0, a1, a2, a3, a4, a5, a6, a7, a8, a9], _ => exact ⟨a0, a1, a2, a3, a4, a5, a6, a7, a8, a9, rfl⟩
theorem len11 {α : Type} {l : List α} (h : l.length = 11) : ∃ a0 a1 a2 a3 a4 a5 a6 a7 a8 a9 a10, l = [a0, a1, a2, a3, a4, a5, a6, a7, a8, a9, a10] := by
  match l, h with
  | [a0, a1, a2, a3, a4, a5, a6, a7, a8, a9, a10], _ => exact ⟨a0, a1, a2, a3, a4, a5, a6, a7, a8, a9, a10, rfl⟩
theorem hd7_o0 : Hd7 0 .o := by
  constructor
  · intro ok P j m k f F l a hl
    obtain rfl := List.eq_nil_of_length_eq_zero hl
    exact h77_o0 ok P j m k f F  a
  · intro ok P j m k f F l a hl
    obtain rfl := List.eq_nil_of_length_eq_zero hl
    exact d77_o0 ok P j m k f F  a
theorem hd7_g1 : Hd7 1 .g := by
  constructor
  · intro ok P j m k f F l a hl
    obtain ⟨l0, rfl⟩ := len1 hl
    exact h77_g1 ok P j m k f F l0 a
  · intro ok P j m k f F l a hl
    obtain ⟨l0, rfl⟩ := len1 hl
    exact d77_g1 ok P j m k f F l0 a
theorem hd7_r1 : Hd7 1 .r := by
  constructor
  · intro ok P j m k f F l a hl
    obtain ⟨l0, rfl⟩ := len1 hl
    exact h77_r1 ok P j m k f F l0 a
  · intro ok P j m k f F l a hl
    obtain ⟨l0, rfl⟩ := len1 hl
    exact d77_r1 ok P j m k f F l0 a
theorem hd7_g2 : Hd7 2 .g := by
  constructor
  · intro ok P j m k f F l a hl
    obtain ⟨l0, l1, rfl⟩ := len2 hl
    exact h77_g2 ok P j m k f F l0 l1 a
  · intro ok P j m k f F l a hl
    obtain ⟨l0, l1, rfl⟩ := len2 hl
    exact d77_g2 ok P j m k f F l0 l1 a
theorem hd7_r2 : Hd7 2 .r := by
  constructor
  · intro ok P j m k f F l a hl
    obtain ⟨l0, l1, rfl⟩ := len2 hl
    exact h77_r2 ok P j m k f F l0 l1 a
  · intro ok P j m k f F l a hl
    obtain ⟨l0, l1, rfl⟩ := len2 hl
    exact d77_r2 ok P j m k f F l0 l1 a
theorem hd7_g3 : Hd7 3 .g := by
  constructor
  · intro ok P j m k f F l a hl
    obtain ⟨l0, l1, l2, rfl⟩ := len3 hl
    exact h77_g3 ok P j m k f F l0 l1 l2 a
  · intro ok P j m k f F l a hl
    obtain ⟨l0, l1, l2, rfl⟩ := len3 hl
    exact d77_g3 ok P j m k f F l0 l1 l2 a
theorem hd7_r3 : Hd7 3 .r := by
  constructor
  · intro ok P j m k f F l a hl
    obtain ⟨l0, l1, l2, rfl⟩ := len3 hl
    exact h77_r3 ok P j m k f F l0 l1 l2 a
  · intro ok P j m k f F l a hl
    obtain ⟨l0, l1, l2, rfl⟩ := len3 hl
    exact d77_r3 ok P j m k f F l0 l1 l2 a
theorem hd7_g4 : Hd7 4 .g := by
  constructor
  · intro ok P j m k f F l a hl
    obtain ⟨l0, l1, l2, l3, rfl⟩ := len4 hl
    exact h77_g4 ok P j m k f F l0 l1 l2 l3 a
  · intro ok P j m k f F l a hl
    obtain ⟨l0, l1, l2, l3, rfl⟩ := len4 hl
    exact d77_g4 ok P j m k f F l0 l1 l2 l3 a
theorem hd7_r4 : Hd7 4 .r := by
  constructor
  · intro ok P j m k f F l a hl
    obtain ⟨l0, l1, l2, l3, rfl⟩ := len4 hl
    exact h77_r4 ok P j m k f F l0 l1 l2 l3 a
  · intro ok P j m k f F l a hl
    obtain ⟨l0, l1, l2, l3, rfl⟩ := len4 hl
    exact d77_r4 ok P j m k f F l0 l1 l2 l3 a
theorem hd7_g5 : Hd7 5 .g := by
  constructor
  · intro ok P j m k f F l a hl
    obtain ⟨l0, l1, l2, l3, l4, rfl⟩ := len5 hl
    exact h77_g5 ok P j m k f F l0 l1 l2 l3 l4 a
  · intro ok P j m k f F l a hl
    obtain ⟨l0, l1, l2, l3, l4, rfl⟩ := len5 hl
    exact d77_g5 ok P j m k f F l0 l1 l2 l3 l4 a
theorem hd7_r5 : Hd7 5 .r := by
  constructor
  · intro ok P j m k f F l a hl
    obtain ⟨l0, l1, l2, l3, l4, rfl⟩ := len5 hl
    exact h77_r5 ok P j m k f F l0 l1 l2 l3 l4 a
  · intro ok P j m k f F l a hl
    obtain ⟨l0, l1, l2, l3, l4, rfl⟩ := len5 hl
    exact d77_r5 ok P j m k f F l0 l1 l2 l3 l4 a
theorem hd7_g6 : Hd7 6 .g := by
  constructor
  · intro ok P j m k f F l a hl
    obtain ⟨l0, l1, l2, l3, l4, l5, rfl⟩ := len6 hl
    exact h77_g6 ok P j m k f F l0 l1 l2 l3 l4 l5 a
  · intro ok P j m k f F l a hl
    obtain ⟨l0, l1, l2, l3, l4, l5, rfl⟩ := len6 hl
    exact d77_g6 ok P j m k f F l0 l1 l2 l3 l4 l5 a
theorem hd7_r6 : Hd7 6 .r := by
  constructor
  · intro ok P j m k f F l a hl
    obtain ⟨l0, l1, l2, l3, l4, l5, rfl⟩ := len6 hl
    exact h77_r6 ok P j m k f F l0 l1 l2 l3 l4 l5 a
  · intro ok P j m k f F l a hl
    obtain ⟨l0, l1, l2, l3, l4, l5, rfl⟩ := len6 hl
    exact d77_r6 ok P j m k f F l0 l1 l2 l3 l4 l5 a
theorem hd7_g7 : Hd7 7 .g := by
  constructor
  · intro ok P j m k f F l a hl
    obtain ⟨l0, l1, l2, l3, l4, l5, l6, rfl⟩ := len7 hl
    exact h77_g7 ok P j m k f F l0 l1 l2 l3 l4 l5 l6 a
  · intro ok P j m k f F l a hl
    obtain ⟨l0, l1, l2, l3, l4, l5, l6, rfl⟩ := len7 hl
    exact d77_g7 ok P j m k f F l0 l1 l2 l3 l4 l5 l6 a
theorem hd7_r7 : Hd7 7 .r := by
  constructor
  · intro ok P j m k f F l a hl
    obtain ⟨l0, l1, l2, l3, l4, l5, l6, rfl⟩ := len7 hl
    exact h77_r7 ok P j m k f F l0 l1 l2 l3 l4 l5 l6 a
  · intro ok P j m k f F l a hl
    obtain ⟨l0, l1, l2, l3, l4, l5, l6, rfl⟩ := len7 hl
    exact d77_r7 ok P j m k f F l0 l1 l2 l3 l4 l5 l6 a
theorem hd7_g8 : Hd7 8 .g := by
  constructor
  · intro ok P j m k f F l a hl
    obtain ⟨l0, l1, l2, l3, l4, l5, l6, l7, rfl⟩ := len8 hl
    exact h77_g8 ok P j m k f F l0 l1 l2 l3 l4 l5 l6 l7 a
  · intro ok P j m k f F l a hl
    obtain ⟨l0, l1, l2, l3, l4, l5, l6, l7, rfl⟩ := len8 hl
    exact d77_g8 ok P j m k f F l0 l1 l2 l3 l4 l5 l6 l7 a
theorem hd7_r8 : Hd7 8 .r := by
  constructor
  · intro ok P j m k f F l a hl
    obtain ⟨l0, l1, l2, l3, l4, l5, l6, l7, rfl⟩ := len8 hl
    exact h77_r8 ok P j m k f F l0 l1 l2 l3 l4 l5 l6 l7 a
  · intro ok P j m k f F l a hl
    obtain ⟨l0, l1, l2, l3, l4, l5, l6, l7, rfl⟩ := len8 hl
    exact d77_r8 ok P j m k f F l0 l1 l2 l3 l4 l5 l6 l7 a
theorem hd7_g9 : Hd7 9 .g := by
  constructor
  · intro ok P j m k f F l a hl
    obtain ⟨l0, l1, l2, l3, l4, l5, l6, l7, l8, rfl⟩ := len9 hl
    exact h77_g9 ok P j m k f F l0 l1 l2 l3 l4 l5 l6 l7 l8 a
  · intro ok P j m k f F l a hl
    obtain ⟨l0, l1, l2, l3, l4, l5, l6, l7, l8, rfl⟩ := len9 hl
    exact d77_g9 ok P j m k f F l0 l1 l2 l3 l4 l5 l6 l7 l8 a
theorem hd7_r9 : Hd7 9 .r := by
  constructor
  · intro ok P j m k f F l a hl
    obtain ⟨l0, l1, l2, l3, l4, l5, l6, l7, l8, rfl⟩ := len9 hl
    exact h77_r9 ok P j m k f F l0 l1 l2 l3 l4 l5 l6 l7 l8 a
  · intro ok P j m k f F l a hl
    obtain ⟨l0, l1, l2, l3, l4, l5, l6, l7, l8, rfl⟩ := len9 hl
    exact d77_r9 ok P j m k f F l0 l1 l2 l3 l4 l5 l6 l7 l8 a
theorem hd7_g10 : Hd7 10 .g := by
  constructor
  · intro ok P j m k f F l a hl
    obtain ⟨l0, l1, l2, l3, l4, l5, l6, l7, l8, l9, rfl⟩ := len10 hl
    exact h77_g10 ok P j m k f F l0 l1 l2 l3 l4 l5 l6 l7 l8 l9 a
  · intro ok P j m k f F l a hl
    obtain ⟨l0, l1, l2, l3, l4, l5, l6, l7, l8, l9, rfl⟩ := len10 hl
    exact d77_g10 ok P j m k f F l0 l1 l2 l3 l4 l5 l6 l7 l8 l9 a
theorem hd7_r10 : Hd7 10 .r := by
  constructor
  · intro ok P j m k f F l a hl
    obtain ⟨l0, l1, l2, l3, l4, l5, l6, l7, l8, l9, rfl⟩ := len10 hl
    exact h77_r10 ok P j m k f F l0 l1 l2 l3 l4 l5 l6 l7 l8 l9 a
  · intro ok P j m k f F l a hl
    obtain ⟨l0, l1, l2, l3, l4, l5, l6, l7, l8, l9, rfl⟩ := len10 hl
    exact d77_r10 ok P j m k f F l0 l1 l2 l3 l4 l5 l6 l7 l8 l9 a
theorem rd7_1_0o : Rd7 1 0 .o := by
  constructor
  · intro z w hw ok P j m k f q1 q2 a s l hl
    obtain ⟨l0, rfl⟩ := len1 hl
    obtain ⟨w0, w1, rfl⟩ := len2 hw
    cases z
    · exact r77_1r_0o ok P j m k f q1 q2 a s l0 w0 w1
    · exact r77_1g_0o ok P j m k f q1 q2 a s l0 w0 w1
  · intro z w hw ok P j m k f q1 q2 a s y l hl
    obtain ⟨l0, rfl⟩ := len1 hl
    obtain ⟨w0, w1, rfl⟩ := len2 hw
    cases z
    · exact r77_1r_0x ok P j m k f q1 q2 a s l0 y w0 w1
    · exact r77_1g_0x ok P j m k f q1 q2 a s l0 y w0 w1
theorem rd7_2_0o : Rd7 2 0 .o := by
  constructor
  · intro z w hw ok P j m k f q1 q2 a s l hl
    obtain ⟨l0, rfl⟩ := len1 hl
    obtain ⟨w0, w1, w2, rfl⟩ := len3 hw
    cases z
    · exact r77_2r_0o ok P j m k f q1 q2 a s l0 w0 w1 w2
    · exact r77_2g_0o ok P j m k f q1 q2 a s l0 w0 w1 w2
  · intro z w hw ok P j m k f q1 q2 a s y l hl
    obtain ⟨l0, rfl⟩ := len1 hl
    obtain ⟨w0, w1, w2, rfl⟩ := len3 hw
    cases z
    · exact r77_2r_0x ok P j m k f q1 q2 a s l0 y w0 w1 w2
    · exact r77_2g_0x ok P j m k f q1 q2 a s l0 y w0 w1 w2
theorem rd7_2_1g : Rd7 2 1 .g := by
  constructor
  · intro z w hw ok P j m k f q1 q2 a s l hl
    obtain ⟨l0, l1, rfl⟩ := len2 hl
    obtain ⟨w0, w1, w2, rfl⟩ := len3 hw
    cases z
    · exact r77_2r_1g ok P j m k f q1 q2 a s l0 l1 w0 w1 w2
    · exact r77_2g_1g ok P j m k f q1 q2 a s l0 l1 w0 w1 w2
  · intro z w hw ok P j m k f q1 q2 a s y l hl
    obtain ⟨l0, l1, rfl⟩ := len2 hl
    obtain ⟨w0, w1, w2, rfl⟩ := len3 hw
    cases z
    · exact r77_2r_1x ok P j m k f q1 q2 a s l0 l1 y w0 w1 w2
    · exact r77_2g_1x ok P j m k f q1 q2 a s l0 l1 y w0 w1 w2
theorem rd7_2_1r : Rd7 2 1 .r := by
  constructor
  · intro z w hw ok P j m k f q1 q2 a s l hl
    obtain ⟨l0, l1, rfl⟩ := len2 hl
    obtain ⟨w0, w1, w2, rfl⟩ := len3 hw
    cases z
    · exact r77_2r_1r ok P j m k f q1 q2 a s l0 l1 w0 w1 w2
    · exact r77_2g_1r ok P j m k f q1 q2 a s l0 l1 w0 w1 w2
  · intro z w hw ok P j m k f q1 q2 a s y l hl
    obtain ⟨l0, l1, rfl⟩ := len2 hl
    obtain ⟨w0, w1, w2, rfl⟩ := len3 hw
    cases z
    · exact r77_2r_1x ok P j m k f q1 q2 a s l0 l1 y w0 w1 w2
    · exact r77_2g_1x ok P j m k f q1 q2 a s l0 l1 y w0 w1 w2
theorem rd7_3_0o : Rd7 3 0 .o := by
  constructor
  · intro z w hw ok P j m k f q1 q2 a s l hl
    obtain ⟨l0, rfl⟩ := len1 hl
    obtain ⟨w0, w1, w2, w3, rfl⟩ := len4 hw
    cases z
    · exact r77_3r_0o ok P j m k f q1 q2 a s l0 w0 w1 w2 w3
    · exact r77_3g_0o ok P j m k f q1 q2 a s l0 w0 w1 w2 w3
  · intro z w hw ok P j m k f q1 q2 a s y l hl
    obtain ⟨l0, rfl⟩ := len1 hl
    obtain ⟨w0, w1, w2, w3, rfl⟩ := len4 hw
    cases z
    · exact r77_3r_0x ok P j m k f q1 q2 a s l0 y w0 w1 w2 w3
    · exact r77_3g_0x ok P j m k f q1 q2 a s l0 y w0 w1 w2 w3
theorem rd7_3_1g : Rd7 3 1 .g := by
  constructor
  · intro z w hw ok P j m k f q1 q2 a s l hl
    obtain ⟨l0, l1, rfl⟩ := len2 hl
    obtain ⟨w0, w1, w2, w3, rfl⟩ := len4 hw
    cases z
    · exact r77_3r_1g ok P j m k f q1 q2 a s l0 l1 w0 w1 w2 w3
    · exact r77_3g_1g ok P j m k f q1 q2 a s l0 l1 w0 w1 w2 w3
  · intro z w hw ok P j m k f q1 q2 a s y l hl
    obtain ⟨l0, l1, rfl⟩ := len2 hl
    obtain ⟨w0, w1, w2, w3, rfl⟩ := len4 hw
    cases z
    · exact r77_3r_1x ok P j m k f q1 q2 a s l0 l1 y w0 w1 w2 w3
    · exact r77_3g_1x ok P j m k f q1 q2 a s l0 l1 y w0 w1 w2 w3
theorem rd7_3_1r : Rd7 3 1 .r := by
  constructor
  · intro z w hw ok P j m k f q1 q2 a s l hl
    obtain ⟨l0, l1, rfl⟩ := len2 hl
    obtain ⟨w0, w1, w2, w3, rfl⟩ := len4 hw
    cases z
    · exact r77_3r_1r ok P j m k f q1 q2 a s l0 l1 w0 w1 w2 w3
    · exact r77_3g_1r ok P j m k f q1 q2 a s l0 l1 w0 w1 w2 w3
  · intro z w hw ok P j m k f q1 q2 a s y l hl
    obtain ⟨l0, l1, rfl⟩ := len2 hl
    obtain ⟨w0, w1, w2, w3, rfl⟩ := len4 hw
    cases z
    · exact r77_3r_1x ok P j m k f q1 q2 a s l0 l1 y w0 w1 w2 w3
    · exact r77_3g_1x ok P j m k f q1 q2 a s l0 l1 y w0 w1 w2 w3
theorem rd7_3_2g : Rd7 3 2 .g := by
  constructor
  · intro z w hw ok P j m k f q1 q2 a s l hl
    obtain ⟨l0, l1, l2, rfl⟩ := len3 hl
    obtain ⟨w0, w1, w2, w3, rfl⟩ := len4 hw
    cases z
    · exact r77_3r_2g ok P j m k f q1 q2 a s l0 l1 l2 w0 w1 w2 w3
    · exact r77_3g_2g ok P j m k f q1 q2 a s l0 l1 l2 w0 w1 w2 w3
  · intro z w hw ok P j m k f q1 q2 a s y l hl
    obtain ⟨l0, l1, l2, rfl⟩ := len3 hl
    obtain ⟨w0, w1, w2, w3, rfl⟩ := len4 hw
    cases z
    · exact r77_3r_2x ok P j m k f q1 q2 a s l0 l1 l2 y w0 w1 w2 w3
    · exact r77_3g_2x ok P j m k f q1 q2 a s l0 l1 l2 y w0 w1 w2 w3
theorem rd7_3_2r : Rd7 3 2 .r := by
  constructor
  · intro z w hw ok P j m k f q1 q2 a s l hl
    obtain ⟨l0, l1, l2, rfl⟩ := len3 hl
    obtain ⟨w0, w1, w2, w3, rfl⟩ := len4 hw
    cases z
    · exact r77_3r_2r ok P j m k f q1 q2 a s l0 l1 l2 w0 w1 w2 w3
    · exact r77_3g_2r ok P j m k f q1 q2 a s l0 l1 l2 w0 w1 w2 w3
  · intro z w hw ok P j m k f q1 q2 a s y l hl
    obtain ⟨l0, l1, l2, rfl⟩ := len3 hl
    obtain ⟨w0, w1, w2, w3, rfl⟩ := len4 hw
    cases z
    · exact r77_3r_2x ok P j m k f q1 q2 a s l0 l1 l2 y w0 w1 w2 w3
    · exact r77_3g_2x ok P j m k f q1 q2 a s l0 l1 l2 y w0 w1 w2 w3
theorem rd7_4_0o : Rd7 4 0 .o := by
  constructor
  · intro z w hw ok P j m k f q1 q2 a s l hl
    obtain ⟨l0, rfl⟩ := len1 hl
    obtain ⟨w0, w1, w2, w3, w4, rfl⟩ := len5 hw
    cases z
    · exact r77_4r_0o ok P j m k f q1 q2 a s l0 w0 w1 w2 w3 w4
    · exact r77_4g_0o ok P j m k f q1 q2 a s l0 w0 w1 w2 w3 w4
  · intro z w hw ok P j m k f q1 q2 a s y l hl
    obtain ⟨l0, rfl⟩ := len1 hl
    obtain ⟨w0, w1, w2, w3, w4, rfl⟩ := len5 hw
    cases z
    · exact r77_4r_0x ok P j m k f q1 q2 a s l0 y w0 w1 w2 w3 w4
    · exact r77_4g_0x ok P j m k f q1 q2 a s l0 y w0 w1 w2 w3 w4
theorem rd7_4_1g : Rd7 4 1 .g := by
  constructor
  · intro z w hw ok P j m k f q1 q2 a s l hl
    obtain ⟨l0, l1, rfl⟩ := len2 hl
    obtain ⟨w0, w1, w2, w3, w4, rfl⟩ := len5 hw
    cases z
    · exact r77_4r_1g ok P j m k f q1 q2 a s l0 l1 w0 w1 w2 w3 w4
    · exact r77_4g_1g ok P j m k f q1 q2 a s l0 l1 w0 w1 w2 w3 w4
  · intro z w hw ok P j m k f q1 q2 a s y l hl
    obtain ⟨l0, l1, rfl⟩ := len2 hl
    obtain ⟨w0, w1, w2, w3, w4, rfl⟩ := len5 hw
    cases z
    · exact r77_4r_1x ok P j m k f q1 q2 a s l0 l1 y w0 w1 w2 w3 w4
    · exact r77_4g_1x ok P j m k f q1 q2 a s l0 l1 y w0 w1 w2 w3 w4
theorem rd7_4_1r : Rd7 4 1 .r := by
  constructor
  · intro z w hw ok P j m k f q1 q2 a s l hl
    obtain ⟨l0, l1, rfl⟩ := len2 hl
    obtain ⟨w0, w1, w2, w3, w4, rfl⟩ := len5 hw
    cases z
    · exact r77_4r_1r ok P j m k f q1 q2 a s l0 l1 w0 w1 w2 w3 w4
    · exact r77_4g_1r ok P j m k f q1 q2 a s l0 l1 w0 w1 w2 w3 w4
  · intro z w hw ok P j m k f q1 q2 a s y l hl
    obtain ⟨l0, l1, rfl⟩ := len2 hl
    obtain ⟨w0, w1, w2, w3, w4, rfl⟩ := len5 hw
    cases z
    · exact r77_4r_1x ok P j m k f q1 q2 a s l0 l1 y w0 w1 w2 w3 w4
    · exact r77_4g_1x ok P j m k f q1 q2 a s l0 l1 y w0 w1 w2 w3 w4
theorem rd7_4_2g : Rd7 4 2 .g := by
  constructor
  · intro z w hw ok P j m k f q1 q2 a s l hl
    obtain ⟨l0, l1, l2, rfl⟩ := len3 hl
    obtain ⟨w0, w1, w2, w3, w4, rfl⟩ := len5 hw
    cases z
    · exact r77_4r_2g ok P j m k f q1 q2 a s l0 l1 l2 w0 w1 w2 w3 w4
    · exact r77_4g_2g ok P j m k f q1 q2 a s l0 l1 l2 w0 w1 w2 w3 w4
  · intro z w hw ok P j m k f q1 q2 a s y l hl
    obtain ⟨l0, l1, l2, rfl⟩ := len3 hl
    obtain ⟨w0, w1, w2, w3, w4, rfl⟩ := len5 hw
    cases z
    · exact r77_4r_2x ok P j m k f q1 q2 a s l0 l1 l2 y w0 w1 w2 w3 w4
    · exact r77_4g_2x ok P j m k f q1 q2 a s l0 l1 l2 y w0 w1 w2 w3 w4
theorem rd7_4_2r : Rd7 4 2 .r := by
  constructor
  · intro z w hw ok P j m k f q1 q2 a s l hl
    obtain ⟨l0, l1, l2, rfl⟩ := len3 hl
    obtain ⟨w0, w1, w2, w3, w4, rfl⟩ := len5 hw
    cases z
    · exact r77_4r_2r ok P j m k f q1 q2 a s l0 l1 l2 w0 w1 w2 w3 w4
    · exact r77_4g_2r ok P j m k f q1 q2 a s l0 l1 l2 w0 w1 w2 w3 w4
  · intro z w hw ok P j m k f q1 q2 a s y l hl
    obtain ⟨l0, l1, l2, rfl⟩ := len3 hl
    obtain ⟨w0, w1, w2, w3, w4, rfl⟩ := len5 hw
    cases z
    · exact r77_4r_2x ok P j m k f q1 q2 a s l0 l1 l2 y w0 w1 w2 w3 w4
    · exact r77_4g_2x ok P j m k f q1 q2 a s l0 l1 l2 y w0 w1 w2 w3 w4
theorem rd7_4_3g : Rd7 4 3 .g := by
  constructor
  · intro z w hw ok P j m k f q1 q2 a s l hl
    obtain ⟨l0, l1, l2, l3, rfl⟩ := len4 hl
    obtain ⟨w0, w1, w2, w3, w4, rfl⟩ := len5 hw
    cases z
    · exact r77_4r_3g ok P j m k f q1 q2 a s l0 l1 l2 l3 w0 w1 w2 w3 w4
    · exact r77_4g_3g ok P j m k f q1 q2 a s l0 l1 l2 l3 w0 w1 w2 w3 w4
  · intro z w hw ok P j m k f q1 q2 a s y l hl
    obtain ⟨l0, l1, l2, l3, rfl⟩ := len4 hl
    obtain ⟨w0, w1, w2, w3, w4, rfl⟩ := len5 hw
    cases z
    · exact r77_4r_3x ok P j m k f q1 q2 a s l0 l1 l2 l3 y w0 w1 w2 w3 w4
    · exact r77_4g_3x ok P j m k f q1 q2 a s l0 l1 l2 l3 y w0 w1 w2 w3 w4
theorem rd7_4_3r : Rd7 4 3 .r := by
  constructor
  · intro z w hw ok P j m k f q1 q2 a s l hl
    obtain ⟨l0, l1, l2, l3, rfl⟩ := len4 hl
    obtain ⟨w0, w1, w2, w3, w4, rfl⟩ := len5 hw
    cases z
    · exact r77_4r_3r ok P j m k f q1 q2 a s l0 l1 l2 l3 w0 w1 w2 w3 w4
    · exact r77_4g_3r ok P j m k f q1 q2 a s l0 l1 l2 l3 w0 w1 w2 w3 w4
  · intro z w hw ok P j m k f q1 q2 a s y l hl
    obtain ⟨l0, l1, l2, l3, rfl⟩ := len4 hl
    obtain ⟨w0, w1, w2, w3, w4, rfl⟩ := len5 hw
    cases z
    · exact r77_4r_3x ok P j m k f q1 q2 a s l0 l1 l2 l3 y w0 w1 w2 w3 w4
    · exact r77_4g_3x ok P j m k f q1 q2 a s l0 l1 l2 l3 y w0 w1 w2 w3 w4
theorem rd7_5_0o : Rd7 5 0 .o := by
  constructor
  · intro z w hw ok P j m k f q1 q2 a s l hl
    obtain ⟨l0, rfl⟩ := len1 hl
    obtain ⟨w0, w1, w2, w3, w4, w5, rfl⟩ := len6 hw
    cases z
    · exact r77_5r_0o ok P j m k f q1 q2 a s l0 w0 w1 w2 w3 w4 w5
    · exact r77_5g_0o ok P j m k f q1 q2 a s l0 w0 w1 w2 w3 w4 w5
  · intro z w hw ok P j m k f q1 q2 a s y l hl
    obtain ⟨l0, rfl⟩ := len1 hl
    obtain ⟨w0, w1, w2, w3, w4, w5, rfl⟩ := len6 hw
    cases z
    · exact r77_5r_0x ok P j m k f q1 q2 a s l0 y w0 w1 w2 w3 w4 w5
    · exact r77_5g_0x ok P j m k f q1 q2 a s l0 y w0 w1 w2 w3 w4 w5
theorem rd7_5_1g : Rd7 5 1 .g := by
  constructor
  · intro z w hw ok P j m k f q1 q2 a s l hl
    obtain ⟨l0, l1, rfl⟩ := len2 hl
    obtain ⟨w0, w1, w2, w3, w4, w5, rfl⟩ := len6 hw
    cases z
    · exact r77_5r_1g ok P j m k f q1 q2 a s l0 l1 w0 w1 w2 w3 w4 w5
    · exact r77_5g_1g ok P j m k f q1 q2 a s l0 l1 w0 w1 w2 w3 w4 w5
  · intro z w hw ok P j m k f q1 q2 a s y l hl
    obtain ⟨l0, l1, rfl⟩ := len2 hl
    obtain ⟨w0, w1, w2, w3, w4, w5, rfl⟩ := len6 hw
    cases z
    · exact r77_5r_1x ok P j m k f q1 q2 a s l0 l1 y w0 w1 w2 w3 w4 w5
    · exact r77_5g_1x ok P j m k f q1 q2 a s l0 l1 y w0 w1 w2 w3 w4 w5
theorem rd7_5_1r : Rd7 5 1 .r := by
  constructor
  · intro z w hw ok P j m k f q1 q2 a s l hl
    obtain ⟨l0, l1, rfl⟩ := len2 hl
    obtain ⟨w0, w1, w2, w3, w4, w5, rfl⟩ := len6 hw
    cases z
    · exact r77_5r_1r ok P j m k f q1 q2 a s l0 l1 w0 w1 w2 w3 w4 w5
    · exact r77_5g_1r ok P j m k f q1 q2 a s l0 l1 w0 w1 w2 w3 w4 w5
  · intro z w hw ok P j m k f q1 q2 a s y l hl
    obtain ⟨l0, l1, rfl⟩ := len2 hl
    obtain ⟨w0, w1, w2, w3, w4, w5, rfl⟩ := len6 hw
    cases z
    · exact r77_5r_1x ok P j m k f q1 q2 a s l0 l1 y w0 w1 w2 w3 w4 w5
    · exact r77_5g_1x ok P j m k f q1 q2 a s l0 l1 y w0 w1 w2 w3 w4 w5
theorem rd7_5_2g : Rd7 5 2 .g := by
  constructor
  · intro z w hw ok P j m k f q1 q2 a s l hl
    obtain ⟨l0, l1, l2, rfl⟩ := len3 hl
    obtain ⟨w0, w1, w2, w3, w4, w5, rfl⟩ := len6 hw
    cases z
    · exact r77_5r_2g ok P j m k f q1 q2 a s l0 l1 l2 w0 w1 w2 w3 w4 w5
    · exact r77_5g_2g ok P j m k f q1 q2 a s l0 l1 l2 w0 w1 w2 w3 w4 w5
  · intro z w hw ok P j m k f q1 q2 a s y l hl
    obtain ⟨l0, l1, l2, rfl⟩ := len3 hl
    obtain ⟨w0, w1, w2, w3, w4, w5, rfl⟩ := len6 hw
    cases z
    · exact r77_5r_2x ok P j m k f q1 q2 a s l0 l1 l2 y w0 w1 w2 w3 w4 w5
    · exact r77_5g_2x ok P j m k f q1 q2 a s l0 l1 l2 y w0 w1 w2 w3 w4 w5
theorem rd7_5_2r : Rd7 5 2 .r := by
  constructor
  · intro z w hw ok P j m k f q1 q2 a s l hl
    obtain ⟨l0, l1, l2, rfl⟩ := len3 hl
    obtain ⟨w0, w1, w2, w3, w4, w5, rfl⟩ := len6 hw
    cases z
    · exact r77_5r_2r ok P j m k f q1 q2 a s l0 l1 l2 w0 w1 w2 w3 w4 w5
    · exact r77_5g_2r ok P j m k f q1 q2 a s l0 l1 l2 w0 w1 w2 w3 w4 w5
  · intro z w hw ok P j m k f q1 q2 a s y l hl
    obtain ⟨l0, l1, l2, rfl⟩ := len3 hl
    obtain ⟨w0, w1, w2, w3, w4, w5, rfl⟩ := len6 hw
    cases z
    · exact r77_5r_2x ok P j m k f q1 q2 a s l0 l1 l2 y w0 w1 w2 w3 w4 w5
    · exact r77_5g_2x ok P j m k f q1 q2 a s l0 l1 l2 y w0 w1 w2 w3 w4 w5
theorem rd7_5_3g : Rd7 5 3 .g := by
  constructor
  · intro z w hw ok P j m k f q1 q2 a s l hl
    obtain ⟨l0, l1, l2, l3, rfl⟩ := len4 hl
    obtain ⟨w0, w1, w2, w3, w4, w5, rfl⟩ := len6 hw
    cases z
    · exact r77_5r_3g ok P j m k f q1 q2 a s l0 l1 l2 l3 w0 w1 w2 w3 w4 w5
    · exact r77_5g_3g ok P j m k f q1 q2 a s l0 l1 l2 l3 w0 w1 w2 w3 w4 w5
  · intro z w hw ok P j m k f q1 q2 a s y l hl
    obtain ⟨l0, l1, l2, l3, rfl⟩ := len4 hl
    obtain ⟨w0, w1, w2, w3, w4, w5, rfl⟩ := len6 hw
    cases z
    · exact r77_5r_3x ok P j m k f q1 q2 a s l0 l1 l2 l3 y w0 w1 w2 w3 w4 w5
    · exact r77_5g_3x ok P j m k f q1 q2 a s l0 l1 l2 l3 y w0 w1 w2 w3 w4 w5
theorem rd7_5_3r : Rd7 5 3 .r := by
  constructor
  · intro z w hw ok P j m k f q1 q2 a s l hl
    obtain ⟨l0, l1, l2, l3, rfl⟩ := len4 hl
    obtain ⟨w0, w1, w2, w3, w4, w5, rfl⟩ := len6 hw
    cases z
    · exact r77_5r_3r ok P j m k f q1 q2 a s l0 l1 l2 l3 w0 w1 w2 w3 w4 w5
    · exact r77_5g_3r ok P j m k f q1 q2 a s l0 l1 l2 l3 w0 w1 w2 w3 w4 w5
  · intro z w hw ok P j m k f q1 q2 a s y l hl
    obtain ⟨l0, l1, l2, l3, rfl⟩ := len4 hl
    obtain ⟨w0, w1, w2, w3, w4, w5, rfl⟩ := len6 hw
    cases z
    · exact r77_5r_3x ok P j m k f q1 q2 a s l0 l1 l2 l3 y w0 w1 w2 w3 w4 w5
    · exact r77_5g_3x ok P j m k f q1 q2 a s l0 l1 l2 l3 y w0 w1 w2 w3 w4 w5
theorem rd7_5_4g : Rd7 5 4 .g := by
  constructor
  · intro z w hw ok P j m k f q1 q2 a s l hl
    obtain ⟨l0, l1, l2, l3, l4, rfl⟩ := len5 hl
    obtain ⟨w0, w1, w2, w3, w4, w5, rfl⟩ := len6 hw
    cases z
    · exact r77_5r_4g ok P j m k f q1 q2 a s l0 l1 l2 l3 l4 w0 w1 w2 w3 w4 w5
    · exact r77_5g_4g ok P j m k f q1 q2 a s l0 l1 l2 l3 l4 w0 w1 w2 w3 w4 w5
  · intro z w hw ok P j m k f q1 q2 a s y l hl
    obtain ⟨l0, l1, l2, l3, l4, rfl⟩ := len5 hl
    obtain ⟨w0, w1, w2, w3, w4, w5, rfl⟩ := len6 hw
    cases z
    · exact r77_5r_4x ok P j m k f q1 q2 a s l0 l1 l2 l3 l4 y w0 w1 w2 w3 w4 w5
    · exact r77_5g_4x ok P j m k f q1 q2 a s l0 l1 l2 l3 l4 y w0 w1 w2 w3 w4 w5
theorem rd7_5_4r : Rd7 5 4 .r := by
  constructor
  · intro z w hw ok P j m k f q1 q2 a s l hl
    obtain ⟨l0, l1, l2, l3, l4, rfl⟩ := len5 hl
    obtain ⟨w0, w1, w2, w3, w4, w5, rfl⟩ := len6 hw
    cases z
    · exact r77_5r_4r ok P j m k f q1 q2 a s l0 l1 l2 l3 l4 w0 w1 w2 w3 w4 w5
    · exact r77_5g_4r ok P j m k f q1 q2 a s l0 l1 l2 l3 l4 w0 w1 w2 w3 w4 w5
  · intro z w hw ok P j m k f q1 q2 a s y l hl
    obtain ⟨l0, l1, l2, l3, l4, rfl⟩ := len5 hl
    obtain ⟨w0, w1, w2, w3, w4, w5, rfl⟩ := len6 hw
    cases z
    · exact r77_5r_4x ok P j m k f q1 q2 a s l0 l1 l2 l3 l4 y w0 w1 w2 w3 w4 w5
    · exact r77_5g_4x ok P j m k f q1 q2 a s l0 l1 l2 l3 l4 y w0 w1 w2 w3 w4 w5
theorem rd7_6_0o : Rd7 6 0 .o := by
  constructor
  · intro z w hw ok P j m k f q1 q2 a s l hl
    obtain ⟨l0, rfl⟩ := len1 hl
    obtain ⟨w0, w1, w2, w3, w4, w5, w6, rfl⟩ := len7 hw
    cases z
    · exact r77_6r_0o ok P j m k f q1 q2 a s l0 w0 w1 w2 w3 w4 w5 w6
    · exact r77_6g_0o ok P j m k f q1 q2 a s l0 w0 w1 w2 w3 w4 w5 w6
  · intro z w hw ok P j m k f q1 q2 a s y l hl
    obtain ⟨l0, rfl⟩ := len1 hl
    obtain ⟨w0, w1, w2, w3, w4, w5, w6, rfl⟩ := len7 hw
    cases z
    · exact r77_6r_0x ok P j m k f q1 q2 a s l0 y w0 w1 w2 w3 w4 w5 w6
    · exact r77_6g_0x ok P j m k f q1 q2 a s l0 y w0 w1 w2 w3 w4 w5 w6
theorem rd7_6_1g : Rd7 6 1 .g := by
  constructor
  · intro z w hw ok P j m k f q1 q2 a s l hl
    obtain ⟨l0, l1, rfl⟩ := len2 hl
    obtain ⟨w0, w1, w2, w3, w4, w5, w6, rfl⟩ := len7 hw
    cases z
    · exact r77_6r_1g ok P j m k f q1 q2 a s l0 l1 w0 w1 w2 w3 w4 w5 w6
    · exact r77_6g_1g ok P j m k f q1 q2 a s l0 l1 w0 w1 w2 w3 w4 w5 w6
  · intro z w hw ok P j m k f q1 q2 a s y l hl
    obtain ⟨l0, l1, rfl⟩ := len2 hl
    obtain ⟨w0, w1, w2, w3, w4, w5, w6, rfl⟩ := len7 hw
    cases z
    · exact r77_6r_1x ok P j m k f q1 q2 a s l0 l1 y w0 w1 w2 w3 w4 w5 w6
    · exact r77_6g_1x ok P j m k f q1 q2 a s l0 l1 y w0 w1 w2 w3 w4 w5 w6
theorem rd7_6_1r : Rd7 6 1 .r := by
  constructor
  · intro z w hw ok P j m k f q1 q2 a s l hl
    obtain ⟨l0, l1, rfl⟩ := len2 hl
    obtain ⟨w0, w1, w2, w3, w4, w5, w6, rfl⟩ := len7 hw
    cases z
    · exact r77_6r_1r ok P j m k f q1 q2 a s l0 l1 w0 w1 w2 w3 w4 w5 w6
    · exact r77_6g_1r ok P j m k f q1 q2 a s l0 l1 w0 w1 w2 w3 w4 w5 w6
  · intro z w hw ok P j m k f q1 q2 a s y l hl
    obtain ⟨l0, l1, rfl⟩ := len2 hl
    obtain ⟨w0, w1, w2, w3, w4, w5, w6, rfl⟩ := len7 hw
    cases z
    · exact r77_6r_1x ok P j m k f q1 q2 a s l0 l1 y w0 w1 w2 w3 w4 w5 w6
    · exact r77_6g_1x ok P j m k f q1 q2 a s l0 l1 y w0 w1 w2 w3 w4 w5 w6
theorem rd7_6_2g : Rd7 6 2 .g := by
  constructor
  · intro z w hw ok P j m k f q1 q2 a s l hl
    obtain ⟨l0, l1, l2, rfl⟩ := len3 hl
    obtain ⟨w0, w1, w2, w3, w4, w5, w6, rfl⟩ := len7 hw
    cases z
    · exact r77_6r_2g ok P j m k f q1 q2 a s l0 l1 l2 w0 w1 w2 w3 w4 w5 w6
    · exact r77_6g_2g ok P j m k f q1 q2 a s l0 l1 l2 w0 w1 w2 w3 w4 w5 w6
  · intro z w hw ok P j m k f q1 q2 a s y l hl
    obtain ⟨l0, l1, l2, rfl⟩ := len3 hl
    obtain ⟨w0, w1, w2, w3, w4, w5, w6, rfl⟩ := len7 hw
    cases z
    · exact r77_6r_2x ok P j m k f q1 q2 a s l0 l1 l2 y w0 w1 w2 w3 w4 w5 w6
    · exact r77_6g_2x ok P j m k f q1 q2 a s l0 l1 l2 y w0 w1 w2 w3 w4 w5 w6
theorem rd7_6_2r : Rd7 6 2 .r := by
  constructor
  · intro z w hw ok P j m k f q1 q2 a s l hl
    obtain ⟨l0, l1, l2, rfl⟩ := len3 hl
    obtain ⟨w0, w1, w2, w3, w4, w5, w6, rfl⟩ := len7 hw
    cases z
    · exact r77_6r_2r ok P j m k f q1 q2 a s l0 l1 l2 w0 w1 w2 w3 w4 w5 w6
    · exact r77_6g_2r ok P j m k f q1 q2 a s l0 l1 l2 w0 w1 w2 w3 w4 w5 w6
  · intro z w hw ok P j m k f q1 q2 a s y l hl
    obtain ⟨l0, l1, l2, rfl⟩ := len3 hl
    obtain ⟨w0, w1, w2, w3, w4, w5, w6, rfl⟩ := len7 hw
    cases z
    · exact r77_6r_2x ok P j m k f q1 q2 a s l0 l1 l2 y w0 w1 w2 w3 w4 w5 w6
    · exact r77_6g_2x ok P j m k f q1 q2 a s l0 l1 l2 y w0 w1 w2 w3 w4 w5 w6
theorem rd7_6_3g : Rd7 6 3 .g := by
  constructor
  · intro z w hw ok P j m k f q1 q2 a s l hl
    obtain ⟨l0, l1, l2, l3, rfl⟩ := len4 hl
    obtain ⟨w0, w1, w2, w3, w4, w5, w6, rfl⟩ := len7 hw
    cases z
    · exact r77_6r_3g ok P j m k f q1 q2 a s l0 l1 l2 l3 w0 w1 w2 w3 w4 w5 w6
    · exact r77_6g_3g ok P j m k f q1 q2 a s l0 l1 l2 l3 w0 w1 w2 w3 w4 w5 w6
  · intro z w hw ok P j m k f q1 q2 a s y l hl
    obtain ⟨l0, l1, l2, l3, rfl⟩ := len4 hl
    obtain ⟨w0, w1, w2, w3, w4, w5, w6, rfl⟩ := len7 hw
    cases z
    · exact r77_6r_3x ok P j m k f q1 q2 a s l0 l1 l2 l3 y w0 w1 w2 w3 w4 w5 w6
    · exact r77_6g_3x ok P j m k f q1 q2 a s l0 l1 l2 l3 y w0 w1 w2 w3 w4 w5 w6
theorem rd7_6_3r : Rd7 6 3 .r := by
  constructor
  · intro z w hw ok P j m k f q1 q2 a s l hl
    obtain ⟨l0, l1, l2, l3, rfl⟩ := len4 hl
    obtain ⟨w0, w1, w2, w3, w4, w5, w6, rfl⟩ := len7 hw
    cases z
    · exact r77_6r_3r ok P j m k f q1 q2 a s l0 l1 l2 l3 w0 w1 w2 w3 w4 w5 w6
    · exact r77_6g_3r ok P j m k f q1 q2 a s l0 l1 l2 l3 w0 w1 w2 w3 w4 w5 w6
  · intro z w hw ok P j m k f q1 q2 a s y l hl
    obtain ⟨l0, l1, l2, l3, rfl⟩ := len4 hl
    obtain ⟨w0, w1, w2, w3, w4, w5, w6, rfl⟩ := len7 hw
    cases z
    · exact r77_6r_3x ok P j m k f q1 q2 a s l0 l1 l2 l3 y w0 w1 w2 w3 w4 w5 w6
    · exact r77_6g_3x ok P j m k f q1 q2 a s l0 l1 l2 l3 y w0 w1 w2 w3 w4 w5 w6
theorem rd7_6_4g : Rd7 6 4 .g := by
  constructor
  · intro z w hw ok P j m k f q1 q2 a s l hl
    obtain ⟨l0, l1, l2, l3, l4, rfl⟩ := len5 hl
    obtain ⟨w0, w1, w2, w3, w4, w5, w6, rfl⟩ := len7 hw
    cases z
    · exact r77_6r_4g ok P j m k f q1 q2 a s l0 l1 l2 l3 l4 w0 w1 w2 w3 w4 w5 w6
    · exact r77_6g_4g ok P j m k f q1 q2 a s l0 l1 l2 l3 l4 w0 w1 w2 w3 w4 w5 w6
  · intro z w hw ok P j m k f q1 q2 a s y l hl
    obtain ⟨l0, l1, l2, l3, l4, rfl⟩ := len5 hl
    obtain ⟨w0, w1, w2, w3, w4, w5, w6, rfl⟩ := len7 hw
    cases z
    · exact r77_6r_4x ok P j m k f q1 q2 a s l0 l1 l2 l3 l4 y w0 w1 w2 w3 w4 w5 w6
    · exact r77_6g_4x ok P j m k f q1 q2 a s l0 l1 l2 l3 l4 y w0 w1 w2 w3 w4 w5 w6
theorem rd7_6_4r : Rd7 6 4 .r := by
  constructor
  · intro z w hw ok P j m k f q1 q2 a s l hl
    obtain ⟨l0, l1, l2, l3, l4, rfl⟩ := len5 hl
    obtain ⟨w0, w1, w2, w3, w4, w5, w6, rfl⟩ := len7 hw
    cases z
    · exact r77_6r_4r ok P j m k f q1 q2 a s l0 l1 l2 l3 l4 w0 w1 w2 w3 w4 w5 w6
    · exact r77_6g_4r ok P j m k f q1 q2 a s l0 l1 l2 l3 l4 w0 w1 w2 w3 w4 w5 w6
  · intro z w hw ok P j m k f q1 q2 a s y l hl
    obtain ⟨l0, l1, l2, l3, l4, rfl⟩ := len5 hl
    obtain ⟨w0, w1, w2, w3, w4, w5, w6, rfl⟩ := len7 hw
    cases z
    · exact r77_6r_4x ok P j m k f q1 q2 a s l0 l1 l2 l3 l4 y w0 w1 w2 w3 w4 w5 w6
    · exact r77_6g_4x ok P j m k f q1 q2 a s l0 l1 l2 l3 l4 y w0 w1 w2 w3 w4 w5 w6
theorem rd7_6_5g : Rd7 6 5 .g := by
  constructor
  · intro z w hw ok P j m k f q1 q2 a s l hl
    obtain ⟨l0, l1, l2, l3, l4, l5, rfl⟩ := len6 hl
    obtain ⟨w0, w1, w2, w3, w4, w5, w6, rfl⟩ := len7 hw
    cases z
    · exact r77_6r_5g ok P j m k f q1 q2 a s l0 l1 l2 l3 l4 l5 w0 w1 w2 w3 w4 w5 w6
    · exact r77_6g_5g ok P j m k f q1 q2 a s l0 l1 l2 l3 l4 l5 w0 w1 w2 w3 w4 w5 w6
  · intro z w hw ok P j m k f q1 q2 a s y l hl
    obtain ⟨l0, l1, l2, l3, l4, l5, rfl⟩ := len6 hl
    obtain ⟨w0, w1, w2, w3, w4, w5, w6, rfl⟩ := len7 hw
    cases z
    · exact r77_6r_5x ok P j m k f q1 q2 a s l0 l1 l2 l3 l4 l5 y w0 w1 w2 w3 w4 w5 w6
    · exact r77_6g_5x ok P j m k f q1 q2 a s l0 l1 l2 l3 l4 l5 y w0 w1 w2 w3 w4 w5 w6
theorem rd7_6_5r : Rd7 6 5 .r := by
  constructor
  · intro z w hw ok P j m k f q1 q2 a s l hl
    obtain ⟨l0, l1, l2, l3, l4, l5, rfl⟩ := len6 hl
    obtain ⟨w0, w1, w2, w3, w4, w5, w6, rfl⟩ := len7 hw
    cases z
    · exact r77_6r_5r ok P j m k f q1 q2 a s l0 l1 l2 l3 l4 l5 w0 w1 w2 w3 w4 w5 w6
    · exact r77_6g_5r ok P j m k f q1 q2 a s l0 l1 l2 l3 l4 l5 w0 w1 w2 w3 w4 w5 w6
  · intro z w hw ok P j m k f q1 q2 a s y l hl
    obtain ⟨l0, l1, l2, l3, l4, l5, rfl⟩ := len6 hl
    obtain ⟨w0, w1, w2, w3, w4, w5, w6, rfl⟩ := len7 hw
    cases z
    · exact r77_6r_5x ok P j m k f q1 q2 a s l0 l1 l2 l3 l4 l5 y w0 w1 w2 w3 w4 w5 w6
    · exact r77_6g_5x ok P j m k f q1 q2 a s l0 l1 l2 l3 l4 l5 y w0 w1 w2 w3 w4 w5 w6
theorem rd7_7_0o : Rd7 7 0 .o := by
  constructor
  · intro z w hw ok P j m k f q1 q2 a s l hl
    obtain ⟨l0, rfl⟩ := len1 hl
    obtain ⟨w0, w1, w2, w3, w4, w5, w6, w7, rfl⟩ := len8 hw
    cases z
    · exact r77_7r_0o ok P j m k f q1 q2 a s l0 w0 w1 w2 w3 w4 w5 w6 w7
    · exact r77_7g_0o ok P j m k f q1 q2 a s l0 w0 w1 w2 w3 w4 w5 w6 w7
  · intro z w hw ok P j m k f q1 q2 a s y l hl
    obtain ⟨l0, rfl⟩ := len1 hl
    obtain ⟨w0, w1, w2, w3, w4, w5, w6, w7, rfl⟩ := len8 hw
    cases z
    · exact r77_7r_0x ok P j m k f q1 q2 a s l0 y w0 w1 w2 w3 w4 w5 w6 w7
    · exact r77_7g_0x ok P j m k f q1 q2 a s l0 y w0 w1 w2 w3 w4 w5 w6 w7
theorem rd7_7_1g : Rd7 7 1 .g := by
  constructor
  · intro z w hw ok P j m k f q1 q2 a s l hl
    obtain ⟨l0, l1, rfl⟩ := len2 hl
    obtain ⟨w0, w1, w2, w3, w4, w5, w6, w7, rfl⟩ := len8 hw
    cases z
    · exact r77_7r_1g ok P j m k f q1 q2 a s l0 l1 w0 w1 w2 w3 w4 w5 w6 w7
    · exact r77_7g_1g ok P j m k f q1 q2 a s l0 l1 w0 w1 w2 w3 w4 w5 w6 w7
  · intro z w hw ok P j m k f q1 q2 a s y l hl
    obtain ⟨l0, l1, rfl⟩ := len2 hl
    obtain ⟨w0, w1, w2, w3, w4, w5, w6, w7, rfl⟩ := len8 hw
    cases z
    · exact r77_7r_1x ok P j m k f q1 q2 a s l0 l1 y w0 w1 w2 w3 w4 w5 w6 w7
    · exact r77_7g_1x ok P j m k f q1 q2 a s l0 l1 y w0 w1 w2 w3 w4 w5 w6 w7
theorem rd7_7_1r : Rd7 7 1 .r := by
  constructor
  · intro z w hw ok P j m k f q1 q2 a s l hl
    obtain ⟨l0, l1, rfl⟩ := len2 hl
    obtain ⟨w0, w1, w2, w3, w4, w5, w6, w7, rfl⟩ := len8 hw
    cases z
    · exact r77_7r_1r ok P j m k f q1 q2 a s l0 l1 w0 w1 w2 w3 w4 w5 w6 w7
    · exact r77_7g_1r ok P j m k f q1 q2 a s l0 l1 w0 w1 w2 w3 w4 w5 w6 w7
  · intro z w hw ok P j m k f q1 q2 a s y l hl
    obtain ⟨l0, l1, rfl⟩ := len2 hl
    obtain ⟨w0, w1, w2, w3, w4, w5, w6, w7, rfl⟩ := len8 hw
    cases z
    · exact r77_7r_1x ok P j m k f q1 q2 a s l0 l1 y w0 w1 w2 w3 w4 w5 w6 w7
    · exact r77_7g_1x ok P j m k f q1 q2 a s l0 l1 y w0 w1 w2 w3 w4 w5 w6 w7
theorem rd7_7_2g : Rd7 7 2 .g := by
  constructor
  · intro z w hw ok P j m k f q1 q2 a s l hl
    obtain ⟨l0, l1, l2, rfl⟩ := len3 hl
    obtain ⟨w0, w1, w2, w3, w4, w5, w6, w7, rfl⟩ := len8 hw
    cases z
    · exact r77_7r_2g ok P j m k f q1 q2 a s l0 l1 l2 w0 w1 w2 w3 w4 w5 w6 w7
    · exact r77_7g_2g ok P j m k f q1 q2 a s l0 l1 l2 w0 w1 w2 w3 w4 w5 w6 w7
  · intro z w hw ok P j m k f q1 q2 a s y l hl
    obtain ⟨l0, l1, l2, rfl⟩ := len3 hl
    obtain ⟨w0, w1, w2, w3, w4, w5, w6, w7, rfl⟩ := len8 hw
    cases z
    · exact r77_7r_2x ok P j m k f q1 q2 a s l0 l1 l2 y w0 w1 w2 w3 w4 w5 w6 w7
    · exact r77_7g_2x ok P j m k f q1 q2 a s l0 l1 l2 y w0 w1 w2 w3 w4 w5 w6 w7
theorem rd7_7_2r : Rd7 7 2 .r := by
  constructor
  · intro z w hw ok P j m k f q1 q2 a s l hl
    obtain ⟨l0, l1, l2, rfl⟩ := len3 hl
    obtain ⟨w0, w1, w2, w3, w4, w5, w6, w7, rfl⟩ := len8 hw
    cases z
    · exact r77_7r_2r ok P j m k f q1 q2 a s l0 l1 l2 w0 w1 w2 w3 w4 w5 w6 w7
    · exact r77_7g_2r ok P j m k f q1 q2 a s l0 l1 l2 w0 w1 w2 w3 w4 w5 w6 w7
  · intro z w hw ok P j m k f q1 q2 a s y l hl
    obtain ⟨l0, l1, l2, rfl⟩ := len3 hl
    obtain ⟨w0, w1, w2, w3, w4, w5, w6, w7, rfl⟩ := len8 hw
    cases z
    · exact r77_7r_2x ok P j m k f q1 q2 a s l0 l1 l2 y w0 w1 w2 w3 w4 w5 w6 w7
    · exact r77_7g_2x ok P j m k f q1 q2 a s l0 l1 l2 y w0 w1 w2 w3 w4 w5 w6 w7
theorem rd7_7_3g : Rd7 7 3 .g := by
  constructor
  · intro z w hw ok P j m k f q1 q2 a s l hl
    obtain ⟨l0, l1, l2, l3, rfl⟩ := len4 hl
    obtain ⟨w0, w1, w2, w3, w4, w5, w6, w7, rfl⟩ := len8 hw
    cases z
    · exact r77_7r_3g ok P j m k f q1 q2 a s l0 l1 l2 l3 w0 w1 w2 w3 w4 w5 w6 w7
    · exact r77_7g_3g ok P j m k f q1 q2 a s l0 l1 l2 l3 w0 w1 w2 w3 w4 w5 w6 w7
  · intro z w hw ok P j m k f q1 q2 a s y l hl
    obtain ⟨l0, l1, l2, l3, rfl⟩ := len4 hl
    obtain ⟨w0, w1, w2, w3, w4, w5, w6, w7, rfl⟩ := len8 hw
    cases z
    · exact r77_7r_3x ok P j m k f q1 q2 a s l0 l1 l2 l3 y w0 w1 w2 w3 w4 w5 w6 w7
    · exact r77_7g_3x ok P j m k f q1 q2 a s l0 l1 l2 l3 y w0 w1 w2 w3 w4 w5 w6 w7
theorem rd7_7_3r : Rd7 7 3 .r := by
  constructor
  · intro z w hw ok P j m k f q1 q2 a s l hl
    obtain ⟨l0, l1, l2, l3, rfl⟩ := len4 hl
    obtain ⟨w0, w1, w2, w3, w4, w5, w6, w7, rfl⟩ := len8 hw
    cases z
    · exact r77_7r_3r ok P j m k f q1 q2 a s l0 l1 l2 l3 w0 w1 w2 w3 w4 w5 w6 w7
    · exact r77_7g_3r ok P j m k f q1 q2 a s l0 l1 l2 l3 w0 w1 w2 w3 w4 w5 w6 w7
  · intro z w hw ok P j m k f q1 q2 a s y l hl
    obtain ⟨l0, l1, l2, l3, rfl⟩ := len4 hl
    obtain ⟨w0, w1, w2, w3, w4, w5, w6, w7, rfl⟩ := len8 hw
    cases z
    · exact r77_7r_3x ok P j m k f q1 q2 a s l0 l1 l2 l3 y w0 w1 w2 w3 w4 w5 w6 w7
    · exact r77_7g_3x ok P j m k f q1 q2 a s l0 l1 l2 l3 y w0 w1 w2 w3 w4 w5 w6 w7
theorem rd7_7_4g : Rd7 7 4 .g := by
  constructor
  · intro z w hw ok P j m k f q1 q2 a s l hl
    obtain ⟨l0, l1, l2, l3, l4, rfl⟩ := len5 hl
    obtain ⟨w0, w1, w2, w3, w4, w5, w6, w7, rfl⟩ := len8 hw
    cases z
    · exact r77_7r_4g ok P j m k f q1 q2 a s l0 l1 l2 l3 l4 w0 w1 w2 w3 w4 w5 w6 w7
    · exact r77_7g_4g ok P j m k f q1 q2 a s l0 l1 l2 l3 l4 w0 w1 w2 w3 w4 w5 w6 w7
  · intro z w hw ok P j m k f q1 q2 a s y l hl
    obtain ⟨l0, l1, l2, l3, l4, rfl⟩ := len5 hl
    obtain ⟨w0, w1, w2, w3, w4, w5, w6, w7, rfl⟩ := len8 hw
    cases z
    · exact r77_7r_4x ok P j m k f q1 q2 a s l0 l1 l2 l3 l4 y w0 w1 w2 w3 w4 w5 w6 w7
    · exact r77_7g_4x ok P j m k f q1 q2 a s l0 l1 l2 l3 l4 y w0 w1 w2 w3 w4 w5 w6 w7
theorem rd7_7_4r : Rd7 7 4 .r := by
  constructor
  · intro z w hw ok P j m k f q1 q2 a s l hl
    obtain ⟨l0, l1, l2, l3, l4, rfl⟩ := len5 hl
    obtain ⟨w0, w1, w2, w3, w4, w5, w6, w7, rfl⟩ := len8 hw
    cases z
    · exact r77_7r_4r ok P j m k f q1 q2 a s l0 l1 l2 l3 l4 w0 w1 w2 w3 w4 w5 w6 w7
    · exact r77_7g_4r ok P j m k f q1 q2 a s l0 l1 l2 l3 l4 w0 w1 w2 w3 w4 w5 w6 w7
  · intro z w hw ok P j m k f q1 q2 a s y l hl
    obtain ⟨l0, l1, l2, l3, l4, rfl⟩ := len5 hl
    obtain ⟨w0, w1, w2, w3, w4, w5, w6, w7, rfl⟩ := len8 hw
    cases z
    · exact r77_7r_4x ok P j m k f q1 q2 a s l0 l1 l2 l3 l4 y w0 w1 w2 w3 w4 w5 w6 w7
    · exact r77_7g_4x ok P j m k f q1 q2 a s l0 l1 l2 l3 l4 y w0 w1 w2 w3 w4 w5 w6 w7
theorem rd7_7_5g : Rd7 7 5 .g := by
  constructor
  · intro z w hw ok P j m k f q1 q2 a s l hl
    obtain ⟨l0, l1, l2, l3, l4, l5, rfl⟩ := len6 hl
    obtain ⟨w0, w1, w2, w3, w4, w5, w6, w7, rfl⟩ := len8 hw
    cases z
    · exact r77_7r_5g ok P j m k f q1 q2 a s l0 l1 l2 l3 l4 l5 w0 w1 w2 w3 w4 w5 w6 w7
    · exact r77_7g_5g ok P j m k f q1 q2 a s l0 l1 l2 l3 l4 l5 w0 w1 w2 w3 w4 w5 w6 w7
  · intro z w hw ok P j m k f q1 q2 a s y l hl
    obtain ⟨l0, l1, l2, l3, l4, l5, rfl⟩ := len6 hl
    obtain ⟨w0, w1, w2, w3, w4, w5, w6, w7, rfl⟩ := len8 hw
    cases z
    · exact r77_7r_5x ok P j m k f q1 q2 a s l0 l1 l2 l3 l4 l5 y w0 w1 w2 w3 w4 w5 w6 w7
    · exact r77_7g_5x ok P j m k f q1 q2 a s l0 l1 l2 l3 l4 l5 y w0 w1 w2 w3 w4 w5 w6 w7
theorem rd7_7_5r : Rd7 7 5 .r := by
  constructor
  · intro z w hw ok P j m k f q1 q2 a s l hl
    obtain ⟨l0, l1, l2, l3, l4, l5, rfl⟩ := len6 hl
    obtain ⟨w0, w1, w2, w3, w4, w5, w6, w7, rfl⟩ := len8 hw
    cases z
    · exact r77_7r_5r ok P j m k f q1 q2 a s l0 l1 l2 l3 l4 l5 w0 w1 w2 w3 w4 w5 w6 w7
    · exact r77_7g_5r ok P j m k f q1 q2 a s l0 l1 l2 l3 l4 l5 w0 w1 w2 w3 w4 w5 w6 w7
  · intro z w hw ok P j m k f q1 q2 a s y l hl
    obtain ⟨l0, l1, l2, l3, l4, l5, rfl⟩ := len6 hl
    obtain ⟨w0, w1, w2, w3, w4, w5, w6, w7, rfl⟩ := len8 hw
    cases z
    · exact r77_7r_5x ok P j m k f q1 q2 a s l0 l1 l2 l3 l4 l5 y w0 w1 w2 w3 w4 w5 w6 w7
    · exact r77_7g_5x ok P j m k f q1 q2 a s l0 l1 l2 l3 l4 l5 y w0 w1 w2 w3 w4 w5 w6 w7
theorem rd7_7_6g : Rd7 7 6 .g := by
  constructor
  · intro z w hw ok P j m k f q1 q2 a s l hl
    obtain ⟨l0, l1, l2, l3, l4, l5, l6, rfl⟩ := len7 hl
    obtain ⟨w0, w1, w2, w3, w4, w5, w6, w7, rfl⟩ := len8 hw
    cases z
    · exact r77_7r_6g ok P j m k f q1 q2 a s l0 l1 l2 l3 l4 l5 l6 w0 w1 w2 w3 w4 w5 w6 w7
    · exact r77_7g_6g ok P j m k f q1 q2 a s l0 l1 l2 l3 l4 l5 l6 w0 w1 w2 w3 w4 w5 w6 w7
  · intro z w hw ok P j m k f q1 q2 a s y l hl
    obtain ⟨l0, l1, l2, l3, l4, l5, l6, rfl⟩ := len7 hl
    obtain ⟨w0, w1, w2, w3, w4, w5, w6, w7, rfl⟩ := len8 hw
    cases z
    · exact r77_7r_6x ok P j m k f q1 q2 a s l0 l1 l2 l3 l4 l5 l6 y w0 w1 w2 w3 w4 w5 w6 w7
    · exact r77_7g_6x ok P j m k f q1 q2 a s l0 l1 l2 l3 l4 l5 l6 y w0 w1 w2 w3 w4 w5 w6 w7
theorem rd7_7_6r : Rd7 7 6 .r := by
  constructor
  · intro z w hw ok P j m k f q1 q2 a s l hl
    obtain ⟨l0, l1, l2, l3, l4, l5, l6, rfl⟩ := len7 hl
    obtain ⟨w0, w1, w2, w3, w4, w5, w6, w7, rfl⟩ := len8 hw
    cases z
    · exact r77_7r_6r ok P j m k f q1 q2 a s l0 l1 l2 l3 l4 l5 l6 w0 w1 w2 w3 w4 w5 w6 w7
    · exact r77_7g_6r ok P j m k f q1 q2 a s l0 l1 l2 l3 l4 l5 l6 w0 w1 w2 w3 w4 w5 w6 w7
  · intro z w hw ok P j m k f q1 q2 a s y l hl
    obtain ⟨l0, l1, l2, l3, l4, l5, l6, rfl⟩ := len7 hl
    obtain ⟨w0, w1, w2, w3, w4, w5, w6, w7, rfl⟩ := len8 hw
    cases z
    · exact r77_7r_6x ok P j m k f q1 q2 a s l0 l1 l2 l3 l4 l5 l6 y w0 w1 w2 w3 w4 w5 w6 w7
    · exact r77_7g_6x ok P j m k f q1 q2 a s l0 l1 l2 l3 l4 l5 l6 y w0 w1 w2 w3 w4 w5 w6 w7
theorem rd7_8_0o : Rd7 8 0 .o := by
  constructor
  · intro z w hw ok P j m k f q1 q2 a s l hl
    obtain ⟨l0, rfl⟩ := len1 hl
    obtain ⟨w0, w1, w2, w3, w4, w5, w6, w7, w8, rfl⟩ := len9 hw
    cases z
    · exact r77_8r_0o ok P j m k f q1 q2 a s l0 w0 w1 w2 w3 w4 w5 w6 w7 w8
    · exact r77_8g_0o ok P j m k f q1 q2 a s l0 w0 w1 w2 w3 w4 w5 w6 w7 w8
  · intro z w hw ok P j m k f q1 q2 a s y l hl
    obtain ⟨l0, rfl⟩ := len1 hl
    obtain ⟨w0, w1, w2, w3, w4, w5, w6, w7, w8, rfl⟩ := len9 hw
    cases z
    · exact r77_8r_0x ok P j m k f q1 q2 a s l0 y w0 w1 w2 w3 w4 w5 w6 w7 w8
    · exact r77_8g_0x ok P j m k f q1 q2 a s l0 y w0 w1 w2 w3 w4 w5 w6 w7 w8
theorem rd7_8_1g : Rd7 8 1 .g := by
  constructor
  · intro z w hw ok P j m k f q1 q2 a s l hl
    obtain ⟨l0, l1, rfl⟩ := len2 hl
    obtain ⟨w0, w1, w2, w3, w4, w5, w6, w7, w8, rfl⟩ := len9 hw
    cases z
    · exact r77_8r_1g ok P j m k f q1 q2 a s l0 l1 w0 w1 w2 w3 w4 w5 w6 w7 w8
    · exact r77_8g_1g ok P j m k f q1 q2 a s l0 l1 w0 w1 w2 w3 w4 w5 w6 w7 w8
  · intro z w hw ok P j m k f q1 q2 a s y l hl
    obtain ⟨l0, l1, rfl⟩ := len2 hl
    obtain ⟨w0, w1, w2, w3, w4, w5, w6, w7, w8, rfl⟩ := len9 hw
    cases z
    · exact r77_8r_1x ok P j m k f q1 q2 a s l0 l1 y w0 w1 w2 w3 w4 w5 w6 w7 w8
    · exact r77_8g_1x ok P j m k f q1 q2 a s l0 l1 y w0 w1 w2 w3 w4 w5 w6 w7 w8
theorem rd7_8_1r : Rd7 8 1 .r := by
  constructor
  · intro z w hw ok P j m k f q1 q2 a s l hl
    obtain ⟨l0, l1, rfl⟩ := len2 hl
    obtain ⟨w0, w1, w2, w3, w4, w5, w6, w7, w8, rfl⟩ := len9 hw
    cases z
    · exact r77_8r_1r ok P j m k f q1 q2 a s l0 l1 w0 w1 w2 w3 w4 w5 w6 w7 w8
    · exact r77_8g_1r ok P j m k f q1 q2 a s l0 l1 w0 w1 w2 w3 w4 w5 w6 w7 w8
  · intro z w hw ok P j m k f q1 q2 a s y l hl
    obtain ⟨l0, l1, rfl⟩ := len2 hl
    obtain ⟨w0, w1, w2, w3, w4, w5, w6, w7, w8, rfl⟩ := len9 hw
    cases z
    · exact r77_8r_1x ok P j m k f q1 q2 a s l0 l1 y w0 w1 w2 w3 w4 w5 w6 w7 w8
    · exact r77_8g_1x ok P j m k f q1 q2 a s l0 l1 y w0 w1 w2 w3 w4 w5 w6 w7 w8
theorem rd7_8_2g : Rd7 8 2 .g := by
  constructor
  · intro z w hw ok P j m k f q1 q2 a s l hl
    obtain ⟨l0, l1, l2, rfl⟩ := len3 hl
    obtain ⟨w0, w1, w2, w3, w4, w5, w6, w7, w8, rfl⟩ := len9 hw
    cases z
    · exact r77_8r_2g ok P j m k f q1 q2 a s l0 l1 l2 w0 w1 w2 w3 w4 w5 w6 w7 w8
    · exact r77_8g_2g ok P j m k f q1 q2 a s l0 l1 l2 w0 w1 w2 w3 w4 w5 w6 w7 w8
  · intro z w hw ok P j m k f q1 q2 a s y l hl
    obtain ⟨l0, l1, l2, rfl⟩ := len3 hl
    obtain ⟨w0, w1, w2, w3, w4, w5, w6, w7, w8, rfl⟩ := len9 hw
    cases z
    · exact r77_8r_2x ok P j m k f q1 q2 a s l0 l1 l2 y w0 w1 w2 w3 w4 w5 w6 w7 w8
    · exact r77_8g_2x ok P j m k f q1 q2 a s l0 l1 l2 y w0 w1 w2 w3 w4 w5 w6 w7 w8
theorem rd7_8_2r : Rd7 8 2 .r := by
  constructor
  · intro z w hw ok P j m k f q1 q2 a s l hl
    obtain ⟨l0, l1, l2, rfl⟩ := len3 hl
    obtain ⟨w0, w1, w2, w3, w4, w5, w6, w7, w8, rfl⟩ := len9 hw
    cases z
    · exact r77_8r_2r ok P j m k f q1 q2 a s l0 l1 l2 w0 w1 w2 w3 w4 w5 w6 w7 w8
    · exact r77_8g_2r ok P j m k f q1 q2 a s l0 l1 l2 w0 w1 w2 w3 w4 w5 w6 w7 w8
  · intro z w hw ok P j m k f q1 q2 a s y l hl
    obtain ⟨l0, l1, l2, rfl⟩ := len3 hl
    obtain ⟨w0, w1, w2, w3, w4, w5, w6, w7, w8, rfl⟩ := len9 hw
    cases z
    · exact r77_8r_2x ok P j m k f q1 q2 a s l0 l1 l2 y w0 w1 w2 w3 w4 w5 w6 w7 w8
    · exact r77_8g_2x ok P j m k f q1 q2 a s l0 l1 l2 y w0 w1 w2 w3 w4 w5 w6 w7 w8
theorem rd7_8_3g : Rd7 8 3 .g := by
  constructor
  · intro z w hw ok P j m k f q1 q2 a s l hl
    obtain ⟨l0, l1, l2, l3, rfl⟩ := len4 hl
    obtain ⟨w0, w1, w2, w3, w4, w5, w6, w7, w8, rfl⟩ := len9 hw
    cases z
    · exact r77_8r_3g ok P j m k f q1 q2 a s l0 l1 l2 l3 w0 w1 w2 w3 w4 w5 w6 w7 w8
    · exact r77_8g_3g ok P j m k f q1 q2 a s l0 l1 l2 l3 w0 w1 w2 w3 w4 w5 w6 w7 w8
  · intro z w hw ok P j m k f q1 q2 a s y l hl
    obtain ⟨l0, l1, l2, l3, rfl⟩ := len4 hl
    obtain ⟨w0, w1, w2, w3, w4, w5, w6, w7, w8, rfl⟩ := len9 hw
    cases z
    · exact r77_8r_3x ok P j m k f q1 q2 a s l0 l1 l2 l3 y w0 w1 w2 w3 w4 w5 w6 w7 w8
    · exact r77_8g_3x ok P j m k f q1 q2 a s l0 l1 l2 l3 y w0 w1 w2 w3 w4 w5 w6 w7 w8
theorem rd7_8_3r : Rd7 8 3 .r := by
  constructor
  · intro z w hw ok P j m k f q1 q2 a s l hl
    obtain ⟨l0, l1, l2, l3, rfl⟩ := len4 hl
    obtain ⟨w0, w1, w2, w3, w4, w5, w6, w7, w8, rfl⟩ := len9 hw
    cases z
    · exact r77_8r_3r ok P j m k f q1 q2 a s l0 l1 l2 l3 w0 w1 w2 w3 w4 w5 w6 w7 w8
    · exact r77_8g_3r ok P j m k f q1 q2 a s l0 l1 l2 l3 w0 w1 w2 w3 w4 w5 w6 w7 w8
  · intro z w hw ok P j m k f q1 q2 a s y l hl
    obtain ⟨l0, l1, l2, l3, rfl⟩ := len4 hl
    obtain ⟨w0, w1, w2, w3, w4, w5, w6, w7, w8, rfl⟩ := len9 hw
    cases z
    · exact r77_8r_3x ok P j m k f q1 q2 a s l0 l1 l2 l3 y w0 w1 w2 w3 w4 w5 w6 w7 w8
    · exact r77_8g_3x ok P j m k f q1 q2 a s l0 l1 l2 l3 y w0 w1 w2 w3 w4 w5 w6 w7 w8
theorem rd7_8_4g : Rd7 8 4 .g := by
  constructor
  · intro z w hw ok P j m k f q1 q2 a s l hl
    obtain ⟨l0, l1, l2, l3, l4, rfl⟩ := len5 hl
    obtain ⟨w0, w1, w2, w3, w4, w5, w6, w7, w8, rfl⟩ := len9 hw
    cases z
    · exact r77_8r_4g ok P j m k f q1 q2 a s l0 l1 l2 l3 l4 w0 w1 w2 w3 w4 w5 w6 w7 w8
    · exact r77_8g_4g ok P j m k f q1 q2 a s l0 l1 l2 l3 l4 w0 w1 w2 w3 w4 w5 w6 w7 w8
  · intro z w hw ok P j m k f q1 q2 a s y l hl
    obtain ⟨l0, l1, l2, l3, l4, rfl⟩ := len5 hl
    obtain ⟨w0, w1, w2, w3, w4, w5, w6, w7, w8, rfl⟩ := len9 hw
    cases z
    · exact r77_8r_4x ok P j m k f q1 q2 a s l0 l1 l2 l3 l4 y w0 w1 w2 w3 w4 w5 w6 w7 w8
    · exact r77_8g_4x ok P j m k f q1 q2 a s l0 l1 l2 l3 l4 y w0 w1 w2 w3 w4 w5 w6 w7 w8
theorem rd7_8_4r : Rd7 8 4 .r := by
  constructor
  · intro z w hw ok P j m k f q1 q2 a s l hl
    obtain ⟨l0, l1, l2, l3, l4, rfl⟩ := len5 hl
    obtain ⟨w0, w1, w2, w3, w4, w5, w6, w7, w8, rfl⟩ := len9 hw
    cases z
    · exact r77_8r_4r ok P j m k f q1 q2 a s l0 l1 l2 l3 l4 w0 w1 w2 w3 w4 w5 w6 w7 w8
    · exact r77_8g_4r ok P j m k f q1 q2 a s l0 l1 l2 l3 l4 w0 w1 w2 w3 w4 w5 w6 w7 w8
  · intro z w hw ok P j m k f q1 q2 a s y l hl
    obtain ⟨l0, l1, l2, l3, l4, rfl⟩ := len5 hl
    obtain ⟨w0, w1, w2, w3, w4, w5, w6, w7, w8, rfl⟩ := len9 hw
    cases z
    · exact r77_8r_4x ok P j m k f q1 q2 a s l0 l1 l2 l3 l4 y w0 w1 w2 w3 w4 w5 w6 w7 w8
    · exact r77_8g_4x ok P j m k f q1 q2 a s l0 l1 l2 l3 l4 y w0 w1 w2 w3 w4 w5 w6 w7 w8
theorem rd7_8_5g : Rd7 8 5 .g := by
  constructor
  · intro z w hw ok P j m k f q1 q2 a s l hl
    obtain ⟨l0, l1, l2, l3, l4, l5, rfl⟩ := len6 hl
    obtain ⟨w0, w1, w2, w3, w4, w5, w6, w7, w8, rfl⟩ := len9 hw
    cases z
    · exact r77_8r_5g ok P j m k f q1 q2 a s l0 l1 l2 l3 l4 l5 w0 w1 w2 w3 w4 w5 w6 w7 w8
    · exact r77_8g_5g ok P j m k f q1 q2 a s l0 l1 l2 l3 l4 l5 w0 w1 w2 w3 w4 w5 w6 w7 w8
  · intro z w hw ok P j m k f q1 q2 a s y l hl
    obtain ⟨l0, l1, l2, l3, l4, l5, rfl⟩ := len6 hl
    obtain ⟨w0, w1, w2, w3, w4, w5, w6, w7, w8, rfl⟩ := len9 hw
    cases z
    · exact r77_8r_5x ok P j m k f q1 q2 a s l0 l1 l2 l3 l4 l5 y w0 w1 w2 w3 w4 w5 w6 w7 w8
    · exact r77_8g_5x ok P j m k f q1 q2 a s l0 l1 l2 l3 l4 l5 y w0 w1 w2 w3 w4 w5 w6 w7 w8
theorem rd7_8_5r : Rd7 8 5 .r := by
  constructor
  · intro z w hw ok P j m k f q1 q2 a s l hl
    obtain ⟨l0, l1, l2, l3, l4, l5, rfl⟩ := len6 hl
    obtain ⟨w0, w1, w2, w3, w4, w5, w6, w7, w8, rfl⟩ := len9 hw
    cases z
    · exact r77_8r_5r ok P j m k f q1 q2 a s l0 l1 l2 l3 l4 l5 w0 w1 w2 w3 w4 w5 w6 w7 w8
    · exact r77_8g_5r ok P j m k f q1 q2 a s l0 l1 l2 l3 l4 l5 w0 w1 w2 w3 w4 w5 w6 w7 w8
  · intro z w hw ok P j m k f q1 q2 a s y l hl
    obtain ⟨l0, l1, l2, l3, l4, l5, rfl⟩ := len6 hl
    obtain ⟨w0, w1, w2, w3, w4, w5, w6, w7, w8, rfl⟩ := len9 hw
    cases z
    · exact r77_8r_5x ok P j m k f q1 q2 a s l0 l1 l2 l3 l4 l5 y w0 w1 w2 w3 w4 w5 w6 w7 w8
    · exact r77_8g_5x ok P j m k f q1 q2 a s l0 l1 l2 l3 l4 l5 y w0 w1 w2 w3 w4 w5 w6 w7 w8
theorem rd7_8_6g : Rd7 8 6 .g := by
  constructor
  · intro z w hw ok P j m k f q1 q2 a s l hl
    obtain ⟨l0, l1, l2, l3, l4, l5, l6, rfl⟩ := len7 hl
    obtain ⟨w0, w1, w2, w3, w4, w5, w6, w7, w8, rfl⟩ := len9 hw
    cases z
    · exact r77_8r_6g ok P j m k f q1 q2 a s l0 l1 l2 l3 l4 l5 l6 w0 w1 w2 w3 w4 w5 w6 w7 w8
    · exact r77_8g_6g ok P j m k f q1 q2 a s l0 l1 l2 l3 l4 l5 l6 w0 w1 w2 w3 w4 w5 w6 w7 w8
  · intro z w hw ok P j m k f q1 q2 a s y l hl
    obtain ⟨l0, l1, l2, l3, l4, l5, l6, rfl⟩ := len7 hl
    obtain ⟨w0, w1, w2, w3, w4, w5, w6, w7, w8, rfl⟩ := len9 hw
    cases z
    · exact r77_8r_6x ok P j m k f q1 q2 a s l0 l1 l2 l3 l4 l5 l6 y w0 w1 w2 w3 w4 w5 w6 w7 w8
    · exact r77_8g_6x ok P j m k f q1 q2 a s l0 l1 l2 l3 l4 l5 l6 y w0 w1 w2 w3 w4 w5 w6 w7 w8
theorem rd7_8_6r : Rd7 8 6 .r := by
  constructor
  · intro z w hw ok P j m k f q1 q2 a s l hl
    obtain ⟨l0, l1, l2, l3, l4, l5, l6, rfl⟩ := len7 hl
    obtain ⟨w0, w1, w2, w3, w4, w5, w6, w7, w8, rfl⟩ := len9 hw
    cases z
    · exact r77_8r_6r ok P j m k f q1 q2 a s l0 l1 l2 l3 l4 l5 l6 w0 w1 w2 w3 w4 w5 w6 w7 w8
    · exact r77_8g_6r ok P j m k f q1 q2 a s l0 l1 l2 l3 l4 l5 l6 w0 w1 w2 w3 w4 w5 w6 w7 w8
  · intro z w hw ok P j m k f q1 q2 a s y l hl
    obtain ⟨l0, l1, l2, l3, l4, l5, l6, rfl⟩ := len7 hl
    obtain ⟨w0, w1, w2, w3, w4, w5, w6, w7, w8, rfl⟩ := len9 hw
    cases z
    · exact r77_8r_6x ok P j m k f q1 q2 a s l0 l1 l2 l3 l4 l5 l6 y w0 w1 w2 w3 w4 w5 w6 w7 w8
    · exact r77_8g_6x ok P j m k f q1 q2 a s l0 l1 l2 l3 l4 l5 l6 y w0 w1 w2 w3 w4 w5 w6 w7 w8
theorem rd7_8_7g : Rd7 8 7 .g := by
  constructor
  · intro z w hw ok P j m k f q1 q2 a s l hl
    obtain ⟨l0, l1, l2, l3, l4, l5, l6, l7, rfl⟩ := len8 hl
    obtain ⟨w0, w1, w2, w3, w4, w5, w6, w7, w8, rfl⟩ := len9 hw
    cases z
    · exact r77_8r_7g ok P j m k f q1 q2 a s l0 l1 l2 l3 l4 l5 l6 l7 w0 w1 w2 w3 w4 w5 w6 w7 w8
    · exact r77_8g_7g ok P j m k f q1 q2 a s l0 l1 l2 l3 l4 l5 l6 l7 w0 w1 w2 w3 w4 w5 w6 w7 w8
  · intro z w hw ok P j m k f q1 q2 a s y l hl
    obtain ⟨l0, l1, l2, l3, l4, l5, l6, l7, rfl⟩ := len8 hl
    obtain ⟨w0, w1, w2, w3, w4, w5, w6, w7, w8, rfl⟩ := len9 hw
    cases z
    · exact r77_8r_7x ok P j m k f q1 q2 a s l0 l1 l2 l3 l4 l5 l6 l7 y w0 w1 w2 w3 w4 w5 w6 w7 w8
    · exact r77_8g_7x ok P j m k f q1 q2 a s l0 l1 l2 l3 l4 l5 l6 l7 y w0 w1 w2 w3 w4 w5 w6 w7 w8
theorem rd7_8_7r : Rd7 8 7 .r := by
  constructor
  · intro z w hw ok P j m k f q1 q2 a s l hl
    obtain ⟨l0, l1, l2, l3, l4, l5, l6, l7, rfl⟩ := len8 hl
    obtain ⟨w0, w1, w2, w3, w4, w5, w6, w7, w8, rfl⟩ := len9 hw
    cases z
    · exact r77_8r_7r ok P j m k f q1 q2 a s l0 l1 l2 l3 l4 l5 l6 l7 w0 w1 w2 w3 w4 w5 w6 w7 w8
    · exact r77_8g_7r ok P j m k f q1 q2 a s l0 l1 l2 l3 l4 l5 l6 l7 w0 w1 w2 w3 w4 w5 w6 w7 w8
  · intro z w hw ok P j m k f q1 q2 a s y l hl
    obtain ⟨l0, l1, l2, l3, l4, l5, l6, l7, rfl⟩ := len8 hl
    obtain ⟨w0, w1, w2, w3, w4, w5, w6, w7, w8, rfl⟩ := len9 hw
    cases z
    · exact r77_8r_7x ok P j m k f q1 q2 a s l0 l1 l2 l3 l4 l5 l6 l7 y w0 w1 w2 w3 w4 w5 w6 w7 w8
    · exact r77_8g_7x ok P j m k f q1 q2 a s l0 l1 l2 l3 l4 l5 l6 l7 y w0 w1 w2 w3 w4 w5 w6 w7 w8
theorem rd7_9_0o : Rd7 9 0 .o := by
  constructor
  · intro z w hw ok P j m k f q1 q2 a s l hl
    obtain ⟨l0, rfl⟩ := len1 hl
    obtain ⟨w0, w1, w2, w3, w4, w5, w6, w7, w8, w9, rfl⟩ := len10 hw
    cases z
    · exact r77_9r_0o ok P j m k f q1 q2 a s l0 w0 w1 w2 w3 w4 w5 w6 w7 w8 w9
    · exact r77_9g_0o ok P j m k f q1 q2 a s l0 w0 w1 w2 w3 w4 w5 w6 w7 w8 w9
  · intro z w hw ok P j m k f q1 q2 a s y l hl
    obtain ⟨l0, rfl⟩ := len1 hl
    obtain ⟨w0, w1, w2, w3, w4, w5, w6, w7, w8, w9, rfl⟩ := len10 hw
    cases z
    · exact r77_9r_0x ok P j m k f q1 q2 a s l0 y w0 w1 w2 w3 w4 w5 w6 w7 w8 w9
    · exact r77_9g_0x ok P j m k f q1 q2 a s l0 y w0 w1 w2 w3 w4 w5 w6 w7 w8 w9
theorem rd7_9_1g : Rd7 9 1 .g := by
  constructor
  · intro z w hw ok P j m k f q1 q2 a s l hl
    obtain ⟨l0, l1, rfl⟩ := len2 hl
    obtain ⟨w0, w1, w2, w3, w4, w5, w6, w7, w8, w9, rfl⟩ := len10 hw
    cases z
    · exact r77_9r_1g ok P j m k f q1 q2 a s l0 l1 w0 w1 w2 w3 w4 w5 w6 w7 w8 w9
    · exact r77_9g_1g ok P j m k f q1 q2 a s l0 l1 w0 w1 w2 w3 w4 w5 w6 w7 w8 w9
  · intro z w hw ok P j m k f q1 q2 a s y l hl
    obtain ⟨l0, l1, rfl⟩ := len2 hl
    obtain ⟨w0, w1, w2, w3, w4, w5, w6, w7, w8, w9, rfl⟩ := len10 hw
    cases z
    · exact r77_9r_1x ok P j m k f q1 q2 a s l0 l1 y w0 w1 w2 w3 w4 w5 w6 w7 w8 w9
    · exact r77_9g_1x ok P j m k f q1 q2 a s l0 l1 y w0 w1 w2 w3 w4 w5 w6 w7 w8 w9
theorem rd7_9_1r : Rd7 9 1 .r := by
  constructor
  · intro z w hw ok P j m k f q1 q2 a s l hl
    obtain ⟨l0, l1, rfl⟩ := len2 hl
    obtain ⟨w0, w1, w2, w3, w4, w5, w6, w7, w8, w9, rfl⟩ := len10 hw
    cases z
    · exact r77_9r_1r ok P j m k f q1 q2 a s l0 l1 w0 w1 w2 w3 w4 w5 w6 w7 w8 w9
    · exact r77_9g_1r ok P j m k f q1 q2 a s l0 l1 w0 w1 w2 w3 w4 w5 w6 w7 w8 w9
  · intro z w hw ok P j m k f q1 q2 a s y l hl
    obtain ⟨l0, l1, rfl⟩ := len2 hl
    obtain ⟨w0, w1, w2, w3, w4, w5, w6, w7, w8, w9, rfl⟩ := len10 hw
    cases z
    · exact r77_9r_1x ok P j m k f q1 q2 a s l0 l1 y w0 w1 w2 w3 w4 w5 w6 w7 w8 w9
    · exact r77_9g_1x ok P j m k f q1 q2 a s l0 l1 y w0 w1 w2 w3 w4 w5 w6 w7 w8 w9
theorem rd7_9_2g : Rd7 9 2 .g := by
  constructor
  · intro z w hw ok P j m k f q1 q2 a s l hl
    obtain ⟨l0, l1, l2, rfl⟩ := len3 hl
    obtain ⟨w0, w1, w2, w3, w4, w5, w6, w7, w8, w9, rfl⟩ := len10 hw
    cases z
    · exact r77_9r_2g ok P j m k f q1 q2 a s l0 l1 l2 w0 w1 w2 w3 w4 w5 w6 w7 w8 w9
    · exact r77_9g_2g ok P j m k f q1 q2 a s l0 l1 l2 w0 w1 w2 w3 w4 w5 w6 w7 w8 w9
  · intro z w hw ok P j m k f q1 q2 a s y l hl
    obtain ⟨l0, l1, l2, rfl⟩ := len3 hl
    obtain ⟨w0, w1, w2, w3, w4, w5, w6, w7, w8, w9, rfl⟩ := len10 hw
    cases z
    · exact r77_9r_2x ok P j m k f q1 q2 a s l0 l1 l2 y w0 w1 w2 w3 w4 w5 w6 w7 w8 w9
    · exact r77_9g_2x ok P j m k f q1 q2 a s l0 l1 l2 y w0 w1 w2 w3 w4 w5 w6 w7 w8 w9
theorem rd7_9_2r : Rd7 9 2 .r := by
  constructor
  · intro z w hw ok P j m k f q1 q2 a s l hl
    obtain ⟨l0, l1, l2, rfl⟩ := len3 hl
    obtain ⟨w0, w1, w2, w3, w4, w5, w6, w7, w8, w9, rfl⟩ := len10 hw
    cases z
    · exact r77_9r_2r ok P j m k f q1 q2 a s l0 l1 l2 w0 w1 w2 w3 w4 w5 w6 w7 w8 w9
    · exact r77_9g_2r ok P j m k f q1 q2 a s l0 l1 l2 w0 w1 w2 w3 w4 w5 w6 w7 w8 w9
  · intro z w hw ok P j m k f q1 q2 a s y l hl
    obtain ⟨l0, l1, l2, rfl⟩ := len3 hl
    obtain ⟨w0, w1, w2, w3, w4, w5, w6, w7, w8, w9, rfl⟩ := len10 hw
    cases z
    · exact r77_9r_2x ok P j m k f q1 q2 a s l0 l1 l2 y w0 w1 w2 w3 w4 w5 w6 w7 w8 w9
    · exact r77_9g_2x ok P j m k f q1 q2 a s l0 l1 l2 y w0 w1 w2 w3 w4 w5 w6 w7 w8 w9
theorem rd7_9_3g : Rd7 9 3 .g := by
  constructor
  · intro z w hw ok P j m k f q1 q2 a s l hl
    obtain ⟨l0, l1, l2, l3, rfl⟩ := len4 hl
    obtain ⟨w0, w1, w2, w3, w4, w5, w6, w7, w8, w9, rfl⟩ := len10 hw
    cases z
    · exact r77_9r_3g ok P j m k f q1 q2 a s l0 l1 l2 l3 w0 w1 w2 w3 w4 w5 w6 w7 w8 w9
    · exact r77_9g_3g ok P j m k f q1 q2 a s l0 l1 l2 l3 w0 w1 w2 w3 w4 w5 w6 w7 w8 w9
  · intro z w hw ok P j m k f q1 q2 a s y l hl
    obtain ⟨l0, l1, l2, l3, rfl⟩ := len4 hl
    obtain ⟨w0, w1, w2, w3, w4, w5, w6, w7, w8, w9, rfl⟩ := len10 hw
    cases z
    · exact r77_9r_3x ok P j m k f q1 q2 a s l0 l1 l2 l3 y w0 w1 w2 w3 w4 w5 w6 w7 w8 w9
    · exact r77_9g_3x ok P j m k f q1 q2 a s l0 l1 l2 l3 y w0 w1 w2 w3 w4 w5 w6 w7 w8 w9
theorem rd7_9_3r : Rd7 9 3 .r := by
  constructor
  · intro z w hw ok P j m k f q1 q2 a s l hl
    obtain ⟨l0, l1, l2, l3, rfl⟩ := len4 hl
    obtain ⟨w0, w1, w2, w3, w4, w5, w6, w7, w8, w9, rfl⟩ := len10 hw
    cases z
    · exact r77_9r_3r ok P j m k f q1 q2 a s l0 l1 l2 l3 w0 w1 w2 w3 w4 w5 w6 w7 w8 w9
    · exact r77_9g_3r ok P j m k f q1 q2 a s l0 l1 l2 l3 w0 w1 w2 w3 w4 w5 w6 w7 w8 w9
  · intro z w hw ok P j m k f q1 q2 a s y l hl
    obtain ⟨l0, l1, l2, l3, rfl⟩ := len4 hl
    obtain ⟨w0, w1, w2, w3, w4, w5, w6, w7, w8, w9, rfl⟩ := len10 hw
    cases z
    · exact r77_9r_3x ok P j m k f q1 q2 a s l0 l1 l2 l3 y w0 w1 w2 w3 w4 w5 w6 w7 w8 w9
    · exact r77_9g_3x ok P j m k f q1 q2 a s l0 l1 l2 l3 y w0 w1 w2 w3 w4 w5 w6 w7 w8 w9
theorem rd7_9_4g : Rd7 9 4 .g := by
  constructor
  · intro z w hw ok P j m k f q1 q2 a s l hl
    obtain ⟨l0, l1, l2, l3, l4, rfl⟩ := len5 hl
    obtain ⟨w0, w1, w2, w3, w4, w5, w6, w7, w8, w9, rfl⟩ := len10 hw
    cases z
    · exact r77_9r_4g ok P j m k f q1 q2 a s l0 l1 l2 l3 l4 w0 w1 w2 w3 w4 w5 w6 w7 w8 w9
    · exact r77_9g_4g ok P j m k f q1 q2 a s l0 l1 l2 l3 l4 w0 w1 w2 w3 w4 w5 w6 w7 w8 w9
  · intro z w hw ok P j m k f q1 q2 a s y l hl
    obtain ⟨l0, l1, l2, l3, l4, rfl⟩ := len5 hl
    obtain ⟨w0, w1, w2, w3, w4, w5, w6, w7, w8, w9, rfl⟩ := len10 hw
    cases z
    · exact r77_9r_4x ok P j m k f q1 q2 a s l0 l1 l2 l3 l4 y w0 w1 w2 w3 w4 w5 w6 w7 w8 w9
    · exact r77_9g_4x ok P j m k f q1 q2 a s l0 l1 l2 l3 l4 y w0 w1 w2 w3 w4 w5 w6 w7 w8 w9
theorem rd7_9_4r : Rd7 9 4 .r := by
  constructor
  · intro z w hw ok P j m k f q1 q2 a s l hl
    obtain ⟨l0, l1, l2, l3, l4, rfl⟩ := len5 hl
    obtain ⟨w0, w1, w2, w3, w4, w5, w6, w7, w8, w9, rfl⟩ := len10 hw
    cases z
    · exact r77_9r_4r ok P j m k f q1 q2 a s l0 l1 l2 l3 l4 w0 w1 w2 w3 w4 w5 w6 w7 w8 w9
    · exact r77_9g_4r ok P j m k f q1 q2 a s l0 l1 l2 l3 l4 w0 w1 w2 w3 w4 w5 w6 w7 w8 w9
  · intro z w hw ok P j m k f q1 q2 a s y l hl
    obtain ⟨l0, l1, l2, l3, l4, rfl⟩ := len5 hl
    obtain ⟨w0, w1, w2, w3, w4, w5, w6, w7, w8, w9, rfl⟩ := len10 hw
    cases z
    · exact r77_9r_4x ok P j m k f q1 q2 a s l0 l1 l2 l3 l4 y w0 w1 w2 w3 w4 w5 w6 w7 w8 w9
    · exact r77_9g_4x ok P j m k f q1 q2 a s l0 l1 l2 l3 l4 y w0 w1 w2 w3 w4 w5 w6 w7 w8 w9
theorem rd7_9_5g : Rd7 9 5 .g := by
  constructor
  · intro z w hw ok P j m k f q1 q2 a s l hl
    obtain ⟨l0, l1, l2, l3, l4, l5, rfl⟩ := len6 hl
    obtain ⟨w0, w1, w2, w3, w4, w5, w6, w7, w8, w9, rfl⟩ := len10 hw
    cases z
    · exact r77_9r_5g ok P j m k f q1 q2 a s l0 l1 l2 l3 l4 l5 w0 w1 w2 w3 w4 w5 w6 w7 w8 w9
    · exact r77_9g_5g ok P j m k f q1 q2 a s l0 l1 l2 l3 l4 l5 w0 w1 w2 w3 w4 w5 w6 w7 w8 w9
  · intro z w hw ok P j m k f q1 q2 a s y l hl
    obtain ⟨l0, l1, l2, l3, l4, l5, rfl⟩ := len6 hl
    obtain ⟨w0, w1, w2, w3, w4, w5, w6, w7, w8, w9, rfl⟩ := len10 hw
    cases z
    · exact r77_9r_5x ok P j m k f q1 q2 a s l0 l1 l2 l3 l4 l5 y w0 w1 w2 w3 w4 w5 w6 w7 w8 w9
    · exact r77_9g_5x ok P j m k f q1 q2 a s l0 l1 l2 l3 l4 l5 y w0 w1 w2 w3 w4 w5 w6 w7 w8 w9
theorem rd7_9_5r : Rd7 9 5 .r := by
  constructor
  · intro z w hw ok P j m k f q1 q2 a s l hl
    obtain ⟨l0, l1, l2, l3, l4, l5, rfl⟩ := len6 hl
    obtain ⟨w0, w1, w2, w3, w4, w5, w6, w7, w8, w9, rfl⟩ := len10 hw
    cases z
    · exact r77_9r_5r ok P j m k f q1 q2 a s l0 l1 l2 l3 l4 l5 w0 w1 w2 w3 w4 w5 w6 w7 w8 w9
    · exact r77_9g_5r ok P j m k f q1 q2 a s l0 l1 l2 l3 l4 l5 w0 w1 w2 w3 w4 w5 w6 w7 w8 w9
  · intro z w hw ok P j m k f q1 q2 a s y l hl
    obtain ⟨l0, l1, l2, l3, l4, l5, rfl⟩ := len6 hl
    obtain ⟨w0, w1, w2, w3, w4, w5, w6, w7, w8, w9, rfl⟩ := len10 hw
    cases z
    · exact r77_9r_5x ok P j m k f q1 q2 a s l0 l1 l2 l3 l4 l5 y w0 w1 w2 w3 w4 w5 w6 w7 w8 w9
    · exact r77_9g_5x ok P j m k f q1 q2 a s l0 l1 l2 l3 l4 l5 y w0 w1 w2 w3 w4 w5 w6 w7 w8 w9
theorem rd7_9_6g : Rd7 9 6 .g := by
  constructor
  · intro z w hw ok P j m k f q1 q2 a s l hl
    obtain ⟨l0, l1, l2, l3, l4, l5, l6, rfl⟩ := len7 hl
    obtain ⟨w0, w1, w2, w3, w4, w5, w6, w7, w8, w9, rfl⟩ := len10 hw
    cases z
    · exact r77_9r_6g ok P j m k f q1 q2 a s l0 l1 l2 l3 l4 l5 l6 w0 w1 w2 w3 w4 w5 w6 w7 w8 w9
    · exact r77_9g_6g ok P j m k f q1 q2 a s l0 l1 l2 l3 l4 l5 l6 w0 w1 w2 w3 w4 w5 w6 w7 w8 w9
  · intro z w hw ok P j m k f q1 q2 a s y l hl
    obtain ⟨l0, l1, l2, l3, l4, l5, l6, rfl⟩ := len7 hl
    obtain ⟨w0, w1, w2, w3, w4, w5, w6, w7, w8, w9, rfl⟩ := len10 hw
    cases z
    · exact r77_9r_6x ok P j m k f q1 q2 a s l0 l1 l2 l3 l4 l5 l6 y w0 w1 w2 w3 w4 w5 w6 w7 w8 w9
    · exact r77_9g_6x ok P j m k f q1 q2 a s l0 l1 l2 l3 l4 l5 l6 y w0 w1 w2 w3 w4 w5 w6 w7 w8 w9
theorem rd7_9_6r : Rd7 9 6 .r := by
  constructor
  · intro z w hw ok P j m k f q1 q2 a s l hl
    obtain ⟨l0, l1, l2, l3, l4, l5, l6, rfl⟩ := len7 hl
    obtain ⟨w0, w1, w2, w3, w4, w5, w6, w7, w8, w9, rfl⟩ := len10 hw
    cases z
    · exact r77_9r_6r ok P j m k f q1 q2 a s l0 l1 l2 l3 l4 l5 l6 w0 w1 w2 w3 w4 w5 w6 w7 w8 w9
    · exact r77_9g_6r ok P j m k f q1 q2 a s l0 l1 l2 l3 l4 l5 l6 w0 w1 w2 w3 w4 w5 w6 w7 w8 w9
  · intro z w hw ok P j m k f q1 q2 a s y l hl
    obtain ⟨l0, l1, l2, l3, l4, l5, l6, rfl⟩ := len7 hl
    obtain ⟨w0, w1, w2, w3, w4, w5, w6, w7, w8, w9, rfl⟩ := len10 hw
    cases z
    · exact r77_9r_6x ok P j m k f q1 q2 a s l0 l1 l2 l3 l4 l5 l6 y w0 w1 w2 w3 w4 w5 w6 w7 w8 w9
    · exact r77_9g_6x ok P j m k f q1 q2 a s l0 l1 l2 l3 l4 l5 l6 y w0 w1 w2 w3 w4 w5 w6 w7 w8 w9
theorem rd7_9_7g : Rd7 9 7 .g := by
  constructor
  · intro z w hw ok P j m k f q1 q2 a s l hl
    obtain ⟨l0, l1, l2, l3, l4, l5, l6, l7, rfl⟩ := len8 hl
    obtain ⟨w0, w1, w2, w3, w4, w5, w6, w7, w8, w9, rfl⟩ := len10 hw
    cases z
    · exact r77_9r_7g ok P j m k f q1 q2 a s l0 l1 l2 l3 l4 l5 l6 l7 w0 w1 w2 w3 w4 w5 w6 w7 w8 w9
    · exact r77_9g_7g ok P j m k f q1 q2 a s l0 l1 l2 l3 l4 l5 l6 l7 w0 w1 w2 w3 w4 w5 w6 w7 w8 w9
  · intro z w hw ok P j m k f q1 q2 a s y l hl
    obtain ⟨l0, l1, l2, l3, l4, l5, l6, l7, rfl⟩ := len8 hl
    obtain ⟨w0, w1, w2, w3, w4, w5, w6, w7, w8, w9, rfl⟩ := len10 hw
    cases z
    · exact r77_9r_7x ok P j m k f q1 q2 a s l0 l1 l2 l3 l4 l5 l6 l7 y w0 w1 w2 w3 w4 w5 w6 w7 w8 w9
    · exact r77_9g_7x ok P j m k f q1 q2 a s l0 l1 l2 l3 l4 l5 l6 l7 y w0 w1 w2 w3 w4 w5 w6 w7 w8 w9
theorem rd7_9_7r : Rd7 9 7 .r := by
  constructor
  · intro z w hw ok P j m k f q1 q2 a s l hl
    obtain ⟨l0, l1, l2, l3, l4, l5, l6, l7, rfl⟩ := len8 hl
    obtain ⟨w0, w1, w2, w3, w4, w5, w6, w7, w8, w9, rfl⟩ := len10 hw
    cases z
    · exact r77_9r_7r ok P j m k f q1 q2 a s l0 l1 l2 l3 l4 l5 l6 l7 w0 w1 w2 w3 w4 w5 w6 w7 w8 w9
    · exact r77_9g_7r ok P j m k f q1 q2 a s l0 l1 l2 l3 l4 l5 l6 l7 w0 w1 w2 w3 w4 w5 w6 w7 w8 w9
  · intro z w hw ok P j m k f q1 q2 a s y l hl
    obtain ⟨l0, l1, l2, l3, l4, l5, l6, l7, rfl⟩ := len8 hl
    obtain ⟨w0, w1, w2, w3, w4, w5, w6, w7, w8, w9, rfl⟩ := len10 hw
    cases z
    · exact r77_9r_7x ok P j m k f q1 q2 a s l0 l1 l2 l3 l4 l5 l6 l7 y w0 w1 w2 w3 w4 w5 w6 w7 w8 w9
    · exact r77_9g_7x ok P j m k f q1 q2 a s l0 l1 l2 l3 l4 l5 l6 l7 y w0 w1 w2 w3 w4 w5 w6 w7 w8 w9
theorem rd7_9_8g : Rd7 9 8 .g := by
  constructor
  · intro z w hw ok P j m k f q1 q2 a s l hl
    obtain ⟨l0, l1, l2, l3, l4, l5, l6, l7, l8, rfl⟩ := len9 hl
    obtain ⟨w0, w1, w2, w3, w4, w5, w6, w7, w8, w9, rfl⟩ := len10 hw
    cases z
    · exact r77_9r_8g ok P j m k f q1 q2 a s l0 l1 l2 l3 l4 l5 l6 l7 l8 w0 w1 w2 w3 w4 w5 w6 w7 w8 w9
    · exact r77_9g_8g ok P j m k f q1 q2 a s l0 l1 l2 l3 l4 l5 l6 l7 l8 w0 w1 w2 w3 w4 w5 w6 w7 w8 w9
  · intro z w hw ok P j m k f q1 q2 a s y l hl
    obtain ⟨l0, l1, l2, l3, l4, l5, l6, l7, l8, rfl⟩ := len9 hl
    obtain ⟨w0, w1, w2, w3, w4, w5, w6, w7, w8, w9, rfl⟩ := len10 hw
    cases z
    · exact r77_9r_8x ok P j m k f q1 q2 a s l0 l1 l2 l3 l4 l5 l6 l7 l8 y w0 w1 w2 w3 w4 w5 w6 w7 w8 w9
    · exact r77_9g_8x ok P j m k f q1 q2 a s l0 l1 l2 l3 l4 l5 l6 l7 l8 y w0 w1 w2 w3 w4 w5 w6 w7 w8 w9
theorem rd7_9_8r : Rd7 9 8 .r := by
  constructor
  · intro z w hw ok P j m k f q1 q2 a s l hl
    obtain ⟨l0, l1, l2, l3, l4, l5, l6, l7, l8, rfl⟩ := len9 hl
    obtain ⟨w0, w1, w2, w3, w4, w5, w6, w7, w8, w9, rfl⟩ := len10 hw
    cases z
    · exact r77_9r_8r ok P j m k f q1 q2 a s l0 l1 l2 l3 l4 l5 l6 l7 l8 w0 w1 w2 w3 w4 w5 w6 w7 w8 w9
    · exact r77_9g_8r ok P j m k f q1 q2 a s l0 l1 l2 l3 l4 l5 l6 l7 l8 w0 w1 w2 w3 w4 w5 w6 w7 w8 w9
  · intro z w hw ok P j m k f q1 q2 a s y l hl
    obtain ⟨l0, l1, l2, l3, l4, l5, l6, l7, l8, rfl⟩ := len9 hl
    obtain ⟨w0, w1, w2, w3, w4, w5, w6, w7, w8, w9, rfl⟩ := len10 hw
    cases z
    · exact r77_9r_8x ok P j m k f q1 q2 a s l0 l1 l2 l3 l4 l5 l6 l7 l8 y w0 w1 w2 w3 w4 w5 w6 w7 w8 w9
    · exact r77_9g_8x ok P j m k f q1 q2 a s l0 l1 l2 l3 l4 l5 l6 l7 l8 y w0 w1 w2 w3 w4 w5 w6 w7 w8 w9
theorem rd7_10_0o : Rd7 10 0 .o := by
  constructor
  · intro z w hw ok P j m k f q1 q2 a s l hl
    obtain ⟨l0, rfl⟩ := len1 hl
    obtain ⟨w0, w1, w2, w3, w4, w5, w6, w7, w8, w9, w10, rfl⟩ := len11 hw
    cases z
    · exact r77_10r_0o ok P j m k f q1 q2 a s l0 w0 w1 w2 w3 w4 w5 w6 w7 w8 w9 w10
    · exact r77_10g_0o ok P j m k f q1 q2 a s l0 w0 w1 w2 w3 w4 w5 w6 w7 w8 w9 w10
  · intro z w hw ok P j m k f q1 q2 a s y l hl
    obtain ⟨l0, rfl⟩ := len1 hl
    obtain ⟨w0, w1, w2, w3, w4, w5, w6, w7, w8, w9, w10, rfl⟩ := len11 hw
    cases z
    · exact r77_10r_0x ok P j m k f q1 q2 a s l0 y w0 w1 w2 w3 w4 w5 w6 w7 w8 w9 w10
    · exact r77_10g_0x ok P j m k f q1 q2 a s l0 y w0 w1 w2 w3 w4 w5 w6 w7 w8 w9 w10
theorem rd7_10_1g : Rd7 10 1 .g := by
  constructor
  · intro z w hw ok P j m k f q1 q2 a s l hl
    obtain ⟨l0, l1, rfl⟩ := len2 hl
    obtain ⟨w0, w1, w2, w3, w4, w5, w6, w7, w8, w9, w10, rfl⟩ := len11 hw
    cases z
    · exact r77_10r_1g ok P j m k f q1 q2 a s l0 l1 w0 w1 w2 w3 w4 w5 w6 w7 w8 w9 w10
    · exact r77_10g_1g ok P j m k f q1 q2 a s l0 l1 w0 w1 w2 w3 w4 w5 w6 w7 w8 w9 w10
  · intro z w hw ok P j m k f q1 q2 a s y l hl
    obtain ⟨l0, l1, rfl⟩ := len2 hl
    obtain ⟨w0, w1, w2, w3, w4, w5, w6, w7, w8, w9, w10, rfl⟩ := len11 hw
    cases z
    · exact r77_10r_1x ok P j m k f q1 q2 a s l0 l1 y w0 w1 w2 w3 w4 w5 w6 w7 w8 w9 w10
    · exact r77_10g_1x ok P j m k f q1 q2 a s l0 l1 y w0 w1 w2 w3 w4 w5 w6 w7 w8 w9 w10
theorem rd7_10_1r : Rd7 10 1 .r := by
  constructor
  · intro z w hw ok P j m k f q1 q2 a s l hl
    obtain ⟨l0, l1, rfl⟩ := len2 hl
    obtain ⟨w0, w1, w2, w3, w4, w5, w6, w7, w8, w9, w10, rfl⟩ := len11 hw
    cases z
    · exact r77_10r_1r ok P j m k f q1 q2 a s l0 l1 w0 w1 w2 w3 w4 w5 w6 w7 w8 w9 w10
    · exact r77_10g_1r ok P j m k f q1 q2 a s l0 l1 w0 w1 w2 w3 w4 w5 w6 w7 w8 w9 w10
  · intro z w hw ok P j m k f q1 q2 a s y l hl
    obtain ⟨l0, l1, rfl⟩ := len2 hl
    obtain ⟨w0, w1, w2, w3, w4, w5, w6, w7, w8, w9, w10, rfl⟩ := len11 hw
    cases z
    · exact r77_10r_1x ok P j m k f q1 q2 a s l0 l1 y w0 w1 w2 w3 w4 w5 w6 w7 w8 w9 w10
    · exact r77_10g_1x ok P j m k f q1 q2 a s l0 l1 y w0 w1 w2 w3 w4 w5 w6 w7 w8 w9 w10
theorem rd7_10_2g : Rd7 10 2 .g := by
  constructor
  · intro z w hw ok P j m k f q1 q2 a s l hl
    obtain ⟨l0, l1, l2, rfl⟩ := len3 hl
    obtain ⟨w0, w1, w2, w3, w4, w5, w6, w7, w8, w9, w10, rfl⟩ := len11 hw
    cases z
    · exact r77_10r_2g ok P j m k f q1 q2 a s l0 l1 l2 w0 w1 w2 w3 w4 w5 w6 w7 w8 w9 w10
    · exact r77_10g_2g ok P j m k f q1 q2 a s l0 l1 l2 w0 w1 w2 w3 w4 w5 w6 w7 w8 w9 w10
  · intro z w hw ok P j m k f q1 q2 a s y l hl
    obtain ⟨l0, l1, l2, rfl⟩ := len3 hl
    obtain ⟨w0, w1, w2, w3, w4, w5, w6, w7, w8, w9, w10, rfl⟩ := len11 hw
    cases z
    · exact r77_10r_2x ok P j m k f q1 q2 a s l0 l1 l2 y w0 w1 w2 w3 w4 w5 w6 w7 w8 w9 w10
    · exact r77_10g_2x ok P j m k f q1 q2 a s l0 l1 l2 y w0 w1 w2 w3 w4 w5 w6 w7 w8 w9 w10
theorem rd7_10_2r : Rd7 10 2 .r := by
  constructor
  · intro z w hw ok P j m k f q1 q2 a s l hl
    obtain ⟨l0, l1, l2, rfl⟩ := len3 hl
    obtain ⟨w0, w1, w2, w3, w4, w5, w6, w7, w8, w9, w10, rfl⟩ := len11 hw
    cases z
    · exact r77_10r_2r ok P j m k f q1 q2 a s l0 l1 l2 w0 w1 w2 w3 w4 w5 w6 w7 w8 w9 w10
    · exact r77_10g_2r ok P j m k f q1 q2 a s l0 l1 l2 w0 w1 w2 w3 w4 w5 w6 w7 w8 w9 w10
  · intro z w hw ok P j m k f q1 q2 a s y l hl
    obtain ⟨l0, l1, l2, rfl⟩ := len3 hl
    obtain ⟨w0, w1, w2, w3, w4, w5, w6, w7, w8, w9, w10, rfl⟩ := len11 hw
    cases z
    · exact r77_10r_2x ok P j m k f q1 q2 a s l0 l1 l2 y w0 w1 w2 w3 w4 w5 w6 w7 w8 w9 w10
    · exact r77_10g_2x ok P j m k f q1 q2 a s l0 l1 l2 y w0 w1 w2 w3 w4 w5 w6 w7 w8 w9 w10
theorem rd7_10_3g : Rd7 10 3 .g := by
  constructor
  · intro z w hw ok P j m k f q1 q2 a s l hl
    obtain ⟨l0, l1, l2, l3, rfl⟩ := len4 hl
    obtain ⟨w0, w1, w2, w3, w4, w5, w6, w7, w8, w9, w10, rfl⟩ := len11 hw
    cases z
    · exact r77_10r_3g ok P j m k f q1 q2 a s l0 l1 l2 l3 w0 w1 w2 w3 w4 w5 w6 w7 w8 w9 w10
    · exact r77_10g_3g ok P j m k f q1 q2 a s l0 l1 l2 l3 w0 w1 w2 w3 w4 w5 w6 w7 w8 w9 w10
  · intro z w hw ok P j m k f q1 q2 a s y l hl
    obtain ⟨l0, l1, l2, l3, rfl⟩ := len4 hl
    obtain ⟨w0, w1, w2, w3, w4, w5, w6, w7, w8, w9, w10, rfl⟩ := len11 hw
    cases z
    · exact r77_10r_3x ok P j m k f q1 q2 a s l0 l1 l2 l3 y w0 w1 w2 w3 w4 w5 w6 w7 w8 w9 w10
    · exact r77_10g_3x ok P j m k f q1 q2 a s l0 l1 l2 l3 y w0 w1 w2 w3 w4 w5 w6 w7 w8 w9 w10
theorem rd7_10_3r : Rd7 10 3 .r := by
  constructor
  · intro z w hw ok P j m k f q1 q2 a s l hl
    obtain ⟨l0, l1, l2, l3, rfl⟩ := len4 hl
    obtain ⟨w0, w1, w2, w3, w4, w5, w6, w7, w8, w9, w10, rfl⟩ := len11 hw
    cases z
    · exact r77_10r_3r ok P j m k f q1 q2 a s l0 l1 l2 l3 w0 w1 w2 w3 w4 w5 w6 w7 w8 w9 w10
    · exact r77_10g_3r ok P j m k f q1 q2 a s l0 l1 l2 l3 w0 w1 w2 w3 w4 w5 w6 w7 w8 w9 w10
  · intro z w hw ok P j m k f q1 q2 a s y l hl
    obtain ⟨l0, l1, l2, l3, rfl⟩ := len4 hl
    obtain ⟨w0, w1, w2, w3, w4, w5, w6, w7, w8, w9, w10, rfl⟩ := len11 hw
    cases z
    · exact r77_10r_3x ok P j m k f q1 q2 a s l0 l1 l2 l3 y w0 w1 w2 w3 w4 w5 w6 w7 w8 w9 w10
    · exact r77_10g_3x ok P j m k f q1 q2 a s l0 l1 l2 l3 y w0 w1 w2 w3 w4 w5 w6 w7 w8 w9 w10
theorem rd7_10_4g : Rd7 10 4 .g := by
  constructor
  · intro z w hw ok P j m k f q1 q2 a s l hl
    obtain ⟨l0, l1, l2, l3, l4, rfl⟩ := len5 hl
    obtain ⟨w0, w1, w2, w3, w4, w5, w6, w7, w8, w9, w10, rfl⟩ := len11 hw
    cases z
    · exact r77_10r_4g ok P j m k f q1 q2 a s l0 l1 l2 l3 l4 w0 w1 w2 w3 w4 w5 w6 w7 w8 w9 w10
    · exact r77_10g_4g ok P j m k f q1 q2 a s l0 l1 l2 l3 l4 w0 w1 w2 w3 w4 w5 w6 w7 w8 w9 w10
  · intro z w hw ok P j m k f q1 q2 a s y l hl
    obtain ⟨l0, l1, l2, l3, l4, rfl⟩ := len5 hl
    obtain ⟨w0, w1, w2, w3, w4, w5, w6, w7, w8, w9, w10, rfl⟩ := len11 hw
    cases z
    · exact r77_10r_4x ok P j m k f q1 q2 a s l0 l1 l2 l3 l4 y w0 w1 w2 w3 w4 w5 w6 w7 w8 w9 w10
    · exact r77_10g_4x ok P j m k f q1 q2 a s l0 l1 l2 l3 l4 y w0 w1 w2 w3 w4 w5 w6 w7 w8 w9 w10
theorem rd7_10_4r : Rd7 10 4 .r := by
  constructor
  · intro z w hw ok P j m k f q1 q2 a s l hl
    obtain ⟨l0, l1, l2, l3, l4, rfl⟩ := len5 hl
    obtain ⟨w0, w1, w2, w3, w4, w5, w6, w7, w8, w9, w10, rfl⟩ := len11 hw
    cases z
    · exact r77_10r_4r ok P j m k f q1 q2 a s l0 l1 l2 l3 l4 w0 w1 w2 w3 w4 w5 w6 w7 w8 w9 w10
    · exact r77_10g_4r ok P j m k f q1 q2 a s l0 l1 l2 l3 l4 w0 w1 w2 w3 w4 w5 w6 w7 w8 w9 w10
  · intro z w hw ok P j m k f q1 q2 a s y l hl
    obtain ⟨l0, l1, l2, l3, l4, rfl⟩ := len5 hl
    obtain ⟨w0, w1, w2, w3, w4, w5, w6, w7, w8, w9, w10, rfl⟩ := len11 hw
    cases z
    · exact r77_10r_4x ok P j m k f q1 q2 a s l0 l1 l2 l3 l4 y w0 w1 w2 w3 w4 w5 w6 w7 w8 w9 w10
    · exact r77_10g_4x ok P j m k f q1 q2 a s l0 l1 l2 l3 l4 y w0 w1 w2 w3 w4 w5 w6 w7 w8 w9 w10
theorem rd7_10_5g : Rd7 10 5 .g := by
  constructor
  · intro z w hw ok P j m k f q1 q2 a s l hl
    obtain ⟨l0, l1, l2, l3, l4, l5, rfl⟩ := len6 hl
    obtain ⟨w0, w1, w2, w3, w4, w5, w6, w7, w8, w9, w10, rfl⟩ := len11 hw
    cases z
    · exact r77_10r_5g ok P j m k f q1 q2 a s l0 l1 l2 l3 l4 l5 w0 w1 w2 w3 w4 w5 w6 w7 w8 w9 w10
    · exact r77_10g_5g ok P j m k f q1 q2 a s l0 l1 l2 l3 l4 l5 w0 w1 w2 w3 w4 w5 w6 w7 w8 w9 w10
  · intro z w hw ok P j m k f q1 q2 a s y l hl
    obtain ⟨l0, l1, l2, l3, l4, l5, rfl⟩ := len6 hl
    obtain ⟨w0, w1, w2, w3, w4, w5, w6, w7, w8, w9, w10, rfl⟩ := len11 hw
    cases z
    · exact r77_10r_5x ok P j m k f q1 q2 a s l0 l1 l2 l3 l4 l5 y w0 w1 w2 w3 w4 w5 w6 w7 w8 w9 w10
    · exact r77_10g_5x ok P j m k f q1 q2 a s l0 l1 l2 l3 l4 l5 y w0 w1 w2 w3 w4 w5 w6 w7 w8 w9 w10
theorem rd7_10_5r : Rd7 10 5 .r := by
  constructor
  · intro z w hw ok P j m k f q1 q2 a s l hl
    obtain ⟨l0, l1, l2, l3, l4, l5, rfl⟩ := len6 hl
    obtain ⟨w0, w1, w2, w3, w4, w5, w6, w7, w8, w9, w10, rfl⟩ := len11 hw
    cases z
    · exact r77_10r_5r ok P j m k f q1 q2 a s l0 l1 l2 l3 l4 l5 w0 w1 w2 w3 w4 w5 w6 w7 w8 w9 w10
    · exact r77_10g_5r ok P j m k f q1 q2 a s l0 l1 l2 l3 l4 l5 w0 w1 w2 w3 w4 w5 w6 w7 w8 w9 w10
  · intro z w hw ok P j m k f q1 q2 a s y l hl
    obtain ⟨l0, l1, l2, l3, l4, l5, rfl⟩ := len6 hl
    obtain ⟨w0, w1, w2, w3, w4, w5, w6, w7, w8, w9, w10, rfl⟩ := len11 hw
    cases z
    · exact r77_10r_5x ok P j m k f q1 q2 a s l0 l1 l2 l3 l4 l5 y w0 w1 w2 w3 w4 w5 w6 w7 w8 w9 w10
    · exact r77_10g_5x ok P j m k f q1 q2 a s l0 l1 l2 l3 l4 l5 y w0 w1 w2 w3 w4 w5 w6 w7 w8 w9 w10
theorem rd7_10_6g : Rd7 10 6 .g := by
  constructor
  · intro z w hw ok P j m k f q1 q2 a s l hl
    obtain ⟨l0, l1, l2, l3, l4, l5, l6, rfl⟩ := len7 hl
    obtain ⟨w0, w1, w2, w3, w4, w5, w6, w7, w8, w9, w10, rfl⟩ := len11 hw
    cases z
    · exact r77_10r_6g ok P j m k f q1 q2 a s l0 l1 l2 l3 l4 l5 l6 w0 w1 w2 w3 w4 w5 w6 w7 w8 w9 w10
    · exact r77_10g_6g ok P j m k f q1 q2 a s l0 l1 l2 l3 l4 l5 l6 w0 w1 w2 w3 w4 w5 w6 w7 w8 w9 w10
  · intro z w hw ok P j m k f q1 q2 a s y l hl
    obtain ⟨l0, l1, l2, l3, l4, l5, l6, rfl⟩ := len7 hl
    obtain ⟨w0, w1, w2, w3, w4, w5, w6, w7, w8, w9, w10, rfl⟩ := len11 hw
    cases z
    · exact r77_10r_6x ok P j m k f q1 q2 a s l0 l1 l2 l3 l4 l5 l6 y w0 w1 w2 w3 w4 w5 w6 w7 w8 w9 w10
    · exact r77_10g_6x ok P j m k f q1 q2 a s l0 l1 l2 l3 l4 l5 l6 y w0 w1 w2 w3 w4 w5 w6 w7 w8 w9 w10
theorem rd7_10_6r : Rd7 10 6 .r := by
  constructor
  · intro z w hw ok P j m k f q1 q2 a s l hl
    obtain ⟨l0, l1, l2, l3, l4, l5, l6, rfl⟩ := len7 hl
    obtain ⟨w0, w1, w2, w3, w4, w5, w6, w7, w8, w9, w10, rfl⟩ := len11 hw
    cases z
    · exact r77_10r_6r ok P j m k f q1 q2 a s l0 l1 l2 l3 l4 l5 l6 w0 w1 w2 w3 w4 w5 w6 w7 w8 w9 w10
    · exact r77_10g_6r ok P j m k f q1 q2 a s l0 l1 l2 l3 l4 l5 l6 w0 w1 w2 w3 w4 w5 w6 w7 w8 w9 w10
  · intro z w hw ok P j m k f q1 q2 a s y l hl
    obtain ⟨l0, l1, l2, l3, l4, l5, l6, rfl⟩ := len7 hl
    obtain ⟨w0, w1, w2, w3, w4, w5, w6, w7, w8, w9, w10, rfl⟩ := len11 hw
    cases z
    · exact r77_10r_6x ok P j m k f q1 q2 a s l0 l1 l2 l3 l4 l5 l6 y w0 w1 w2 w3 w4 w5 w6 w7 w8 w9 w10
    · exact r77_10g_6x ok P j m k f q1 q2 a s l0 l1 l2 l3 l4 l5 l6 y w0 w1 w2 w3 w4 w5 w6 w7 w8 w9 w10
theorem rd7_10_7g : Rd7 10 7 .g := by
  constructor
  · intro z w hw ok P j m k f q1 q2 a s l hl
    obtain ⟨l0, l1, l2, l3, l4, l5, l6, l7, rfl⟩ := len8 hl
    obtain ⟨w0, w1, w2, w3, w4, w5, w6, w7, w8, w9, w10, rfl⟩ := len11 hw
    cases z
    · exact r77_10r_7g ok P j m k f q1 q2 a s l0 l1 l2 l3 l4 l5 l6 l7 w0 w1 w2 w3 w4 w5 w6 w7 w8 w9 w10
    · exact r77_10g_7g ok P j m k f q1 q2 a s l0 l1 l2 l3 l4 l5 l6 l7 w0 w1 w2 w3 w4 w5 w6 w7 w8 w9 w10
  · intro z w hw ok P j m k f q1 q2 a s y l hl
    obtain ⟨l0, l1, l2, l3, l4, l5, l6, l7, rfl⟩ := len8 hl
    obtain ⟨w0, w1, w2, w3, w4, w5, w6, w7, w8, w9, w10, rfl⟩ := len11 hw
    cases z
    · exact r77_10r_7x ok P j m k f q1 q2 a s l0 l1 l2 l3 l4 l5 l6 l7 y w0 w1 w2 w3 w4 w5 w6 w7 w8 w9 w10
    · exact r77_10g_7x ok P j m k f q1 q2 a s l0 l1 l2 l3 l4 l5 l6 l7 y w0 w1 w2 w3 w4 w5 w6 w7 w8 w9 w10
theorem rd7_10_7r : Rd7 10 7 .r := by
  constructor
  · intro z w hw ok P j m k f q1 q2 a s l hl
    obtain ⟨l0, l1, l2, l3, l4, l5, l6, l7, rfl⟩ := len8 hl
    obtain ⟨w0, w1, w2, w3, w4, w5, w6, w7, w8, w9, w10, rfl⟩ := len11 hw
    cases z
    · exact r77_10r_7r ok P j m k f q1 q2 a s l0 l1 l2 l3 l4 l5 l6 l7 w0 w1 w2 w3 w4 w5 w6 w7 w8 w9 w10
    · exact r77_10g_7r ok P j m k f q1 q2 a s l0 l1 l2 l3 l4 l5 l6 l7 w0 w1 w2 w3 w4 w5 w6 w7 w8 w9 w10
  · intro z w hw ok P j m k f q1 q2 a s y l hl
    obtain ⟨l0, l1, l2, l3, l4, l5, l6, l7, rfl⟩ := len8 hl
    obtain ⟨w0, w1, w2, w3, w4, w5, w6, w7, w8, w9, w10, rfl⟩ := len11 hw
    cases z
    · exact r77_10r_7x ok P j m k f q1 q2 a s l0 l1 l2 l3 l4 l5 l6 l7 y w0 w1 w2 w3 w4 w5 w6 w7 w8 w9 w10
    · exact r77_10g_7x ok P j m k f q1 q2 a s l0 l1 l2 l3 l4 l5 l6 l7 y w0 w1 w2 w3 w4 w5 w6 w7 w8 w9 w10
theorem rd7_10_8g : Rd7 10 8 .g := by
  constructor
  · intro z w hw ok P j m k f q1 q2 a s l hl
    obtain ⟨l0, l1, l2, l3, l4, l5, l6, l7, l8, rfl⟩ := len9 hl
    obtain ⟨w0, w1, w2, w3, w4, w5, w6, w7, w8, w9, w10, rfl⟩ := len11 hw
    cases z
    · exact r77_10r_8g ok P j m k f q1 q2 a s l0 l1 l2 l3 l4 l5 l6 l7 l8 w0 w1 w2 w3 w4 w5 w6 w7 w8 w9 w10
    · exact r77_10g_8g ok P j m k f q1 q2 a s l0 l1 l2 l3 l4 l5 l6 l7 l8 w0 w1 w2 w3 w4 w5 w6 w7 w8 w9 w10
  · intro z w hw ok P j m k f q1 q2 a s y l hl
    obtain ⟨l0, l1, l2, l3, l4, l5, l6, l7, l8, rfl⟩ := len9 hl
    obtain ⟨w0, w1, w2, w3, w4, w5, w6, w7, w8, w9, w10, rfl⟩ := len11 hw
    cases z
    · exact r77_10r_8x ok P j m k f q1 q2 a s l0 l1 l2 l3 l4 l5 l6 l7 l8 y w0 w1 w2 w3 w4 w5 w6 w7 w8 w9 w10
    · exact r77_10g_8x ok P j m k f q1 q2 a s l0 l1 l2 l3 l4 l5 l6 l7 l8 y w0 w1 w2 w3 w4 w5 w6 w7 w8 w9 w10
theorem rd7_10_8r : Rd7 10 8 .r := by
  constructor
  · intro z w hw ok P j m k f q1 q2 a s l hl
    obtain ⟨l0, l1, l2, l3, l4, l5, l6, l7, l8, rfl⟩ := len9 hl
    obtain ⟨w0, w1, w2, w3, w4, w5, w6, w7, w8, w9, w10, rfl⟩ := len11 hw
    cases z
    · exact r77_10r_8r ok P j m k f q1 q2 a s l0 l1 l2 l3 l4 l5 l6 l7 l8 w0 w1 w2 w3 w4 w5 w6 w7 w8 w9 w10
    · exact r77_10g_8r ok P j m k f q1 q2 a s l0 l1 l2 l3 l4 l5 l6 l7 l8 w0 w1 w2 w3 w4 w5 w6 w7 w8 w9 w10
  · intro z w hw ok P j m k f q1 q2 a s y l hl
    obtain ⟨l0, l1, l2, l3, l4, l5, l6, l7, l8, rfl⟩ := len9 hl
    obtain ⟨w0, w1, w2, w3, w4, w5, w6, w7, w8, w9, w10, rfl⟩ := len11 hw
    cases z
    · exact r77_10r_8x ok P j m k f q1 q2 a s l0 l1 l2 l3 l4 l5 l6 l7 l8 y w0 w1 w2 w3 w4 w5 w6 w7 w8 w9 w10
    · exact r77_10g_8x ok P j m k f q1 q2 a s l0 l1 l2 l3 l4 l5 l6 l7 l8 y w0 w1 w2 w3 w4 w5 w6 w7 w8 w9 w10
theorem rd7_10_9g : Rd7 10 9 .g := by
  constructor
  · intro z w hw ok P j m k f q1 q2 a s l hl
    obtain ⟨l0, l1, l2, l3, l4, l5, l6, l7, l8, l9, rfl⟩ := len10 hl
    obtain ⟨w0, w1, w2, w3, w4, w5, w6, w7, w8, w9, w10, rfl⟩ := len11 hw
    cases z
    · exact r77_10r_9g ok P j m k f q1 q2 a s l0 l1 l2 l3 l4 l5 l6 l7 l8 l9 w0 w1 w2 w3 w4 w5 w6 w7 w8 w9 w10
    · exact r77_10g_9g ok P j m k f q1 q2 a s l0 l1 l2 l3 l4 l5 l6 l7 l8 l9 w0 w1 w2 w3 w4 w5 w6 w7 w8 w9 w10
  · intro z w hw ok P j m k f q1 q2 a s y l hl
    obtain ⟨l0, l1, l2, l3, l4, l5, l6, l7, l8, l9, rfl⟩ := len10 hl
    obtain ⟨w0, w1, w2, w3, w4, w5, w6, w7, w8, w9, w10, rfl⟩ := len11 hw
    cases z
    · exact r77_10r_9x ok P j m k f q1 q2 a s l0 l1 l2 l3 l4 l5 l6 l7 l8 l9 y w0 w1 w2 w3 w4 w5 w6 w7 w8 w9 w10
    · exact r77_10g_9x ok P j m k f q1 q2 a s l0 l1 l2 l3 l4 l5 l6 l7 l8 l9 y w0 w1 w2 w3 w4 w5 w6 w7 w8 w9 w10
theorem rd7_10_9r : Rd7 10 9 .r := by
  constructor
  · intro z w hw ok P j m k f q1 q2 a s l hl
    obtain ⟨l0, l1, l2, l3, l4, l5, l6, l7, l8, l9, rfl⟩ := len10 hl
    obtain ⟨w0, w1, w2, w3, w4, w5, w6, w7, w8, w9, w10, rfl⟩ := len11 hw
    cases z
    · exact r77_10r_9r ok P j m k f q1 q2 a s l0 l1 l2 l3 l4 l5 l6 l7 l8 l9 w0 w1 w2 w3 w4 w5 w6 w7 w8 w9 w10
    · exact r77_10g_9r ok P j m k f q1 q2 a s l0 l1 l2 l3 l4 l5 l6 l7 l8 l9 w0 w1 w2 w3 w4 w5 w6 w7 w8 w9 w10
  · intro z w hw ok P j m k f q1 q2 a s y l hl
    obtain ⟨l0, l1, l2, l3, l4, l5, l6, l7, l8, l9, rfl⟩ := len10 hl
    obtain ⟨w0, w1, w2, w3, w4, w5, w6, w7, w8, w9, w10, rfl⟩ := len11 hw
    cases z
    · exact r77_10r_9x ok P j m k f q1 q2 a s l0 l1 l2 l3 l4 l5 l6 l7 l8 l9 y w0 w1 w2 w3 w4 w5 w6 w7 w8 w9 w10
    · exact r77_10g_9x ok P j m k f q1 q2 a s l0 l1 l2 l3 l4 l5 l6 l7 l8 l9 y w0 w1 w2 w3 w4 w5 w6 w7 w8 w9 w10
def FoAt (e : Nat) (q : Fo) : Prop := (e = 0 ∧ q = .o) ∨ (1 ≤ e ∧ (q = .g ∨ q = .r))
theorem hd7 {e : Nat} {q : Fo} (he : e ≤ 10) (hq : FoAt e q) : Hd7 e q := by
  have h : e = 0 ∨ e = 1 ∨ e = 2 ∨ e = 3 ∨ e = 4 ∨ e = 5 ∨ e = 6 ∨ e = 7 ∨ e = 8 ∨ e = 9 ∨ e = 10 := by omega
  rcases h with rfl | rfl | rfl | rfl | rfl | rfl | rfl | rfl | rfl | rfl | rfl
  · rcases hq with ⟨_, rfl⟩ | ⟨h, _⟩
    · exact hd7_o0
    · omega
  · rcases hq with ⟨h, _⟩ | ⟨_, rfl | rfl⟩
    · omega
    · exact hd7_g1
    · exact hd7_r1
  · rcases hq with ⟨h, _⟩ | ⟨_, rfl | rfl⟩
    · omega
    · exact hd7_g2
    · exact hd7_r2
  · rcases hq with ⟨h, _⟩ | ⟨_, rfl | rfl⟩
    · omega
    · exact hd7_g3
    · exact hd7_r3
  · rcases hq with ⟨h, _⟩ | ⟨_, rfl | rfl⟩
    · omega
    · exact hd7_g4
    · exact hd7_r4
  · rcases hq with ⟨h, _⟩ | ⟨_, rfl | rfl⟩
    · omega
    · exact hd7_g5
    · exact hd7_r5
  · rcases hq with ⟨h, _⟩ | ⟨_, rfl | rfl⟩
    · omega
    · exact hd7_g6
    · exact hd7_r6
  · rcases hq with ⟨h, _⟩ | ⟨_, rfl | rfl⟩
    · omega
    · exact hd7_g7
    · exact hd7_r7
  · rcases hq with ⟨h, _⟩ | ⟨_, rfl | rfl⟩
    · omega
    · exact hd7_g8
    · exact hd7_r8
  · rcases hq with ⟨h, _⟩ | ⟨_, rfl | rfl⟩
    · omega
    · exact hd7_g9
    · exact hd7_r9
  · rcases hq with ⟨h, _⟩ | ⟨_, rfl | rfl⟩
    · omega
    · exact hd7_g10
    · exact hd7_r10
theorem rd7_1 {e : Nat} {q : Fo} (he : e < 1) (hq : FoAt e q) : Rd7 1 e q := by
  have h : e = 0 := by omega
  rcases h with rfl
  · rcases hq with ⟨_, rfl⟩ | ⟨h, _⟩
    · exact rd7_1_0o
    · omega
theorem rd7_2 {e : Nat} {q : Fo} (he : e < 2) (hq : FoAt e q) : Rd7 2 e q := by
  have h : e = 0 ∨ e = 1 := by omega
  rcases h with rfl | rfl
  · rcases hq with ⟨_, rfl⟩ | ⟨h, _⟩
    · exact rd7_2_0o
    · omega
  · rcases hq with ⟨h, _⟩ | ⟨_, rfl | rfl⟩
    · omega
    · exact rd7_2_1g
    · exact rd7_2_1r
theorem rd7_3 {e : Nat} {q : Fo} (he : e < 3) (hq : FoAt e q) : Rd7 3 e q := by
  have h : e = 0 ∨ e = 1 ∨ e = 2 := by omega
  rcases h with rfl | rfl | rfl
  · rcases hq with ⟨_, rfl⟩ | ⟨h, _⟩
    · exact rd7_3_0o
    · omega
  · rcases hq with ⟨h, _⟩ | ⟨_, rfl | rfl⟩
    · omega
    · exact rd7_3_1g
    · exact rd7_3_1r
  · rcases hq with ⟨h, _⟩ | ⟨_, rfl | rfl⟩
    · omega
    · exact rd7_3_2g
    · exact rd7_3_2r
theorem rd7_4 {e : Nat} {q : Fo} (he : e < 4) (hq : FoAt e q) : Rd7 4 e q := by
  have h : e = 0 ∨ e = 1 ∨ e = 2 ∨ e = 3 := by omega
  rcases h with rfl | rfl | rfl | rfl
  · rcases hq with ⟨_, rfl⟩ | ⟨h, _⟩
    · exact rd7_4_0o
    · omega
  · rcases hq with ⟨h, _⟩ | ⟨_, rfl | rfl⟩
    · omega
    · exact rd7_4_1g
    · exact rd7_4_1r
  · rcases hq with ⟨h, _⟩ | ⟨_, rfl | rfl⟩
    · omega
    · exact rd7_4_2g
    · exact rd7_4_2r
  · rcases hq with ⟨h, _⟩ | ⟨_, rfl | rfl⟩
    · omega
    · exact rd7_4_3g
    · exact rd7_4_3r
theorem rd7_5 {e : Nat} {q : Fo} (he : e < 5) (hq : FoAt e q) : Rd7 5 e q := by
  have h : e = 0 ∨ e = 1 ∨ e = 2 ∨ e = 3 ∨ e = 4 := by omega
  rcases h with rfl | rfl | rfl | rfl | rfl
  · rcases hq with ⟨_, rfl⟩ | ⟨h, _⟩
    · exact rd7_5_0o
    · omega
  · rcases hq with ⟨h, _⟩ | ⟨_, rfl | rfl⟩
    · omega
    · exact rd7_5_1g
    · exact rd7_5_1r
  · rcases hq with ⟨h, _⟩ | ⟨_, rfl | rfl⟩
    · omega
    · exact rd7_5_2g
    · exact rd7_5_2r
  · rcases hq with ⟨h, _⟩ | ⟨_, rfl | rfl⟩
    · omega
    · exact rd7_5_3g
    · exact rd7_5_3r
  · rcases hq with ⟨h, _⟩ | ⟨_, rfl | rfl⟩
    · omega
    · exact rd7_5_4g
    · exact rd7_5_4r
theorem rd7_6 {e : Nat} {q : Fo} (he : e < 6) (hq : FoAt e q) : Rd7 6 e q := by
  have h : e = 0 ∨ e = 1 ∨ e = 2 ∨ e = 3 ∨ e = 4 ∨ e = 5 := by omega
  rcases h with rfl | rfl | rfl | rfl | rfl | rfl
  · rcases hq with ⟨_, rfl⟩ | ⟨h, _⟩
    · exact rd7_6_0o
    · omega
  · rcases hq with ⟨h, _⟩ | ⟨_, rfl | rfl⟩
    · omega
    · exact rd7_6_1g
    · exact rd7_6_1r
  · rcases hq with ⟨h, _⟩ | ⟨_, rfl | rfl⟩
    · omega
    · exact rd7_6_2g
    · exact rd7_6_2r
  · rcases hq with ⟨h, _⟩ | ⟨_, rfl | rfl⟩
    · omega
    · exact rd7_6_3g
    · exact rd7_6_3r
  · rcases hq with ⟨h, _⟩ | ⟨_, rfl | rfl⟩
    · omega
    · exact rd7_6_4g
    · exact rd7_6_4r
  · rcases hq with ⟨h, _⟩ | ⟨_, rfl | rfl⟩
    · omega
    · exact rd7_6_5g
    · exact rd7_6_5r
theorem rd7_7 {e : Nat} {q : Fo} (he : e < 7) (hq : FoAt e q) : Rd7 7 e q := by
  have h : e = 0 ∨ e = 1 ∨ e = 2 ∨ e = 3 ∨ e = 4 ∨ e = 5 ∨ e = 6 := by omega
  rcases h with rfl | rfl | rfl | rfl | rfl | rfl | rfl
  · rcases hq with ⟨_, rfl⟩ | ⟨h, _⟩
    · exact rd7_7_0o
    · omega
  · rcases hq with ⟨h, _⟩ | ⟨_, rfl | rfl⟩
    · omega
    · exact rd7_7_1g
    · exact rd7_7_1r
  · rcases hq with ⟨h, _⟩ | ⟨_, rfl | rfl⟩
    · omega
    · exact rd7_7_2g
    · exact rd7_7_2r
  · rcases hq with ⟨h, _⟩ | ⟨_, rfl | rfl⟩
    · omega
    · exact rd7_7_3g
    · exact rd7_7_3r
  · rcases hq with ⟨h, _⟩ | ⟨_, rfl | rfl⟩
    · omega
    · exact rd7_7_4g
    · exact rd7_7_4r
  · rcases hq with ⟨h, _⟩ | ⟨_, rfl | rfl⟩
    · omega
    · exact rd7_7_5g
    · exact rd7_7_5r
  · rcases hq with ⟨h, _⟩ | ⟨_, rfl | rfl⟩
    · omega
    · exact rd7_7_6g
    · exact rd7_7_6r
theorem rd7_8 {e : Nat} {q : Fo} (he : e < 8) (hq : FoAt e q) : Rd7 8 e q := by
  have h : e = 0 ∨ e = 1 ∨ e = 2 ∨ e = 3 ∨ e = 4 ∨ e = 5 ∨ e = 6 ∨ e = 7 := by omega
  rcases h with rfl | rfl | rfl | rfl | rfl | rfl | rfl | rfl
  · rcases hq with ⟨_, rfl⟩ | ⟨h, _⟩
    · exact rd7_8_0o
    · omega
  · rcases hq with ⟨h, _⟩ | ⟨_, rfl | rfl⟩
    · omega
    · exact rd7_8_1g
    · exact rd7_8_1r
  · rcases hq with ⟨h, _⟩ | ⟨_, rfl | rfl⟩
    · omega
    · exact rd7_8_2g
    · exact rd7_8_2r
  · rcases hq with ⟨h, _⟩ | ⟨_, rfl | rfl⟩
    · omega
    · exact rd7_8_3g
    · exact rd7_8_3r
  · rcases hq with ⟨h, _⟩ | ⟨_, rfl | rfl⟩
    · omega
    · exact rd7_8_4g
    · exact rd7_8_4r
  · rcases hq with ⟨h, _⟩ | ⟨_, rfl | rfl⟩
    · omega
    · exact rd7_8_5g
    · exact rd7_8_5r
  · rcases hq with ⟨h, _⟩ | ⟨_, rfl | rfl⟩
    · omega
    · exact rd7_8_6g
    · exact rd7_8_6r
  · rcases hq with ⟨h, _⟩ | ⟨_, rfl | rfl⟩
    · omega
    · exact rd7_8_7g
    · exact rd7_8_7r
theorem rd7_9 {e : Nat} {q : Fo} (he : e < 9) (hq : FoAt e q) : Rd7 9 e q := by
  have h : e = 0 ∨ e = 1 ∨ e = 2 ∨ e = 3 ∨ e = 4 ∨ e = 5 ∨ e = 6 ∨ e = 7 ∨ e = 8 := by omega
  rcases h with rfl | rfl | rfl | rfl | rfl | rfl | rfl | rfl | rfl
  · rcases hq with ⟨_, rfl⟩ | ⟨h, _⟩
    · exact rd7_9_0o
    · omega
  · rcases hq with ⟨h, _⟩ | ⟨_, rfl | rfl⟩
    · omega
    · exact rd7_9_1g
    · exact rd7_9_1r
  · rcases hq with ⟨h, _⟩ | ⟨_, rfl | rfl⟩
    · omega
    · exact rd7_9_2g
    · exact rd7_9_2r
  · rcases hq with ⟨h, _⟩ | ⟨_, rfl | rfl⟩
    · omega
    · exact rd7_9_3g
    · exact rd7_9_3r
  · rcases hq with ⟨h, _⟩ | ⟨_, rfl | rfl⟩
    · omega
    · exact rd7_9_4g
    · exact rd7_9_4r
  · rcases hq with ⟨h, _⟩ | ⟨_, rfl | rfl⟩
    · omega
    · exact rd7_9_5g
    · exact rd7_9_5r
  · rcases hq with ⟨h, _⟩ | ⟨_, rfl | rfl⟩
    · omega
    · exact rd7_9_6g
    · exact rd7_9_6r
  · rcases hq with ⟨h, _⟩ | ⟨_, rfl | rfl⟩
    · omega
    · exact rd7_9_7g
    · exact rd7_9_7r
  · rcases hq with ⟨h, _⟩ | ⟨_, rfl | rfl⟩
    · omega
    · exact rd7_9_8g
    · exact rd7_9_8r
theorem rd7_10 {e : Nat} {q : Fo} (he : e < 10) (hq : FoAt e q) : Rd7 10 e q := by
  have h : e = 0 ∨ e = 1 ∨ e = 2 ∨ e = 3 ∨ e = 4 ∨ e = 5 ∨ e = 6 ∨ e = 7 ∨ e = 8 ∨ e = 9 := by omega
  rcases h with rfl | rfl | rfl | rfl | rfl | rfl | rfl | rfl | rfl | rfl
  · rcases hq with ⟨_, rfl⟩ | ⟨h, _⟩
    · exact rd7_10_0o
    · omega
  · rcases hq with ⟨h, _⟩ | ⟨_, rfl | rfl⟩
    · omega
    · exact rd7_10_1g
    · exact rd7_10_1r
  · rcases hq with ⟨h, _⟩ | ⟨_, rfl | rfl⟩
    · omega
    · exact rd7_10_2g
    · exact rd7_10_2r
  · rcases hq with ⟨h, _⟩ | ⟨_, rfl | rfl⟩
    · omega
    · exact rd7_10_3g
    · exact rd7_10_3r
  · rcases hq with ⟨h, _⟩ | ⟨_, rfl | rfl⟩
    · omega
    · exact rd7_10_4g
    · exact rd7_10_4r
  · rcases hq with ⟨h, _⟩ | ⟨_, rfl | rfl⟩
    · omega
    · exact rd7_10_5g
    · exact rd7_10_5r
  · rcases hq with ⟨h, _⟩ | ⟨_, rfl | rfl⟩
    · omega
    · exact rd7_10_6g
    · exact rd7_10_6r
  · rcases hq with ⟨h, _⟩ | ⟨_, rfl | rfl⟩
    · omega
    · exact rd7_10_7g
    · exact rd7_10_7r
  · rcases hq with ⟨h, _⟩ | ⟨_, rfl | rfl⟩
    · omega
    · exact rd7_10_8g
    · exact rd7_10_8r
  · rcases hq with ⟨h, _⟩ | ⟨_, rfl | rfl⟩
    · omega
    · exact rd7_10_9g
    · exact rd7_10_9r
theorem rd7 {D e : Nat} {q : Fo} (hD : D ≤ 10) (he : e < D) (hq : FoAt e q) : Rd7 D e q := by
  have h : D = 1 ∨ D = 2 ∨ D = 3 ∨ D = 4 ∨ D = 5 ∨ D = 6 ∨ D = 7 ∨ D = 8 ∨ D = 9 ∨ D = 10 := by omega
  rcases h with rfl | rfl | rfl | rfl | rfl | rfl | rfl | rfl | rfl | rfl
  · exact rd7_1 he hq
  · exact rd7_2 he hq
  · exact rd7_3 he hq
  · exact rd7_4 he hq
  · exact rd7_5 he hq
  · exact rd7_6 he hq
  · exact rd7_7 he hq
  · exact rd7_8 he hq
  · exact rd7_9 he hq
  · exact rd7_10 he hq
end Go.Proofs.Ytjfopbpkophoeaa

/- Chapter 06: what Trip's closure (77) answers, and what it leaves in memory. -/
namespace Go.Proofs.Ytjfopbpkophoeaa
open Go Go.AE
set_option maxRecDepth 100000
def P7 (k : Nat) (f : Nat → Int) (ds : List DV) : Nat → Int := match ds with
  | [_, .int _ n] => pw k f n.toNat
  | _ => f
noncomputable abbrev ok7 (k : Nat) (f : Nat → Int) : Nat → List DV → Bool := okS fun _ ds => .agg (mx25 k (P7 k f ds))
theorem g62 {k : Nat} (h1 : 1 ≤ k) (h5 : k ≤ 5) (f : Nat → Int) (n : Nat) (hn : n ≤ 1000) : ok7 k f 62 [.agg (mx25 k f), iD (n : Int)] = true := okS_is (by
  show PureOK Try.prog 62 _ (.agg (mx25 k (pw k f ((n : Int)).toNat)))
  rw [Int.toNat_natCast]
  exact c62 h1 h5 f n hn)
theorem mx_at (k : Nat) (f : Nat → Int) : ∀ i, i < 25 → nth (mx25 k f) (i + 1) = some (iD (f i))
  | 0, _ => rfl | 1, _ => rfl | 2, _ => rfl | 3, _ => rfl | 4, _ => rfl | 5, _ => rfl | 6, _ => rfl | 7, _ => rfl | 8, _ => rfl | 9, _ => rfl
  | 10, _ => rfl | 11, _ => rfl | 12, _ => rfl | 13, _ => rfl | 14, _ => rfl | 15, _ => rfl | 16, _ => rfl | 17, _ => rfl | 18, _ => rfl | 19, _ => rfl
  | 20, _ => rfl | 21, _ => rfl | 22, _ => rfl | 23, _ => rfl | 24, _ => rfl
  | n + 25, h => absurd h (by omega)
theorem mx_tail (k : Nat) (f : Nat → Int) (i : Nat) (h : i < 25) : nth (mx25 k f).tail i = some (iD (f i)) := mx_at k f i h
theorem nth5 (x1 x2 x3 x4 x5 : Int) (g : Nat → Int) (h1 : x1 = g 0) (h2 : x2 = g 1) (h3 : x3 = g 2) (h4 : x4 = g 3) (h5 : x5 = g 4) : ∀ j, j < 5 → nth [iD x1, iD x2, iD x3, iD x4, iD x5] j = some (iD (g j))
  | 0, _ => by subst h1; rfl
  | 1, _ => by subst h2; rfl
  | 2, _ => by subst h3; rfl
  | 3, _ => by subst h4; rfl
  | 4, _ => by subst h5; rfl
  | n + 5, h => absurd h (by omega)
theorem W77_ok {X : Type} {k : Nat} (h1 : 1 ≤ k) (h5 : k ≤ 5) {f : Nat → Int} (hf : ∀ i < 25, 0 ≤ f i ∧ f i ≤ 9) {j : Nat} (hj : j < k) {a : Nat} (ha : a < k) {D e n : Nat} (he : e + n = D) (hD : D ≤ 10) (zero full loop : Option X) :
    W77 (ok7 k f) (P7 k f) k f (j : Int) (D : Int) (a : Int) ((e + 1 : Nat) : Int) zero full loop = bif reach k f j n a then (bif Nat.beq n 0 then full else loop) else zero := by
  unfold W77
  have hn : IntKind.wrap .i64 (IntKind.wrap .i64 ((D : Int) + 1) - ((e + 1 : Nat) : Int)) = (n : Int) := by
    rw [wrap64_o (n := (D : Int) + 1) (by omega) (by omega), wrap64_o (by omega) (by omega)]; omega
  rw [hn, g62 h1 h5 f n (by omega)]
  have hp : P7 k f [.agg (mx25 k f), iD (n : Int)] = pw k f n := by
    show pw k f ((n : Int)).toNat = _
    rw [Int.toNat_natCast]
  rw [hp]
  simp only [cond_true, Int.toNat_natCast, Nat.mul_one]
  have hi : inRange (a : Int) 5 = true := by simp [inRange]; omega
  have hi2 : inRange (j : Int) 5 = true := by simp [inRange]; omega
  rw [hi, hi2]
  simp only [cond_true]
  rw [mx_tail _ _ _ (by omega), mx_tail _ _ _ (by omega), mx_tail _ _ _ (by omega), mx_tail _ _ _ (by omega), mx_tail _ _ _ (by omega)]
  simp only [getI_some]
  rw [nth5 (pw k f n (a * 5)) (pw k f n (a * 5 + 1)) (pw k f n (a * 5 + 1 + 1)) (pw k f n (a * 5 + 1 + 1 + 1)) (pw k f n (a * 5 + 1 + 1 + 1 + 1)) (fun c => pw k f n (a * 5 + c)) rfl rfl rfl rfl rfl j (by omega), getI_some]
  have hpo := (pw_ok h5 hf hj n (by omega) a ha).2.2
  rw [show a * 5 + j = 5 * a + j by omega]
  have hz : decide ((n : Int) = 0) = Nat.beq n 0 := by
    cases n with
    | zero => rfl
    | succ n => exact (decide_eq_false (by omega)).trans rfl
  rw [hz]
  cases hr : reach k f j n a with
  | true =>
    have := hpo.2 hr
    rw [decide_eq_false this]; rfl
  | false =>
    have : pw k f n (5 * a + j) = 0 := by
      apply Classical.byContradiction
      intro hc
      rw [hpo.1 hc] at hr; cases hr
    rw [decide_eq_true this]; rfl
theorem V77_ok {X : Type} {k : Nat} (h5 : k ≤ 5) (f : Nat → Int) {a s : Nat} (ha : a < k) (hs : s < k) (skip call out : Option X) : V77 k f (a : Int) (s : Int) skip call out = bif decide (f (5 * a + s) = 0) then skip else call := by
  unfold V77
  have hi : inRange (a : Int) 5 = true := by simp [inRange]; omega
  have hi2 : inRange (s : Int) 5 = true := by simp [inRange]; omega
  rw [decide_eq_true (show (s : Int) < (k : Int) by omega), hi, hi2]
  simp only [cond_true, Int.toNat_natCast, Nat.mul_one]
  rw [show 1 + a * 5 + s = (5 * a + s) + 1 by omega, mx_at _ _ _ (by omega), getI_some]
theorem F77_ok (q1 q2 : List AV → List Blk → Bool) {Z : List Blk} (h2 : ∀ xs h, q2 xs h = true → CallOK Try.prog 77 xs h (.d (bD true)) Z) (h1 : ∀ xs h, q1 xs h = true → CallOK Try.prog 77 xs h (.d (bD false)) h) : RulesFOK Try.prog (F77 q1 q2 Z) := by
  refine ⟨fun xs h v h' e => ?_, trivial⟩
  simp only [Tr.val] at e
  rcases cond_some e with ⟨c, e⟩ | ⟨_, e⟩
  · cases e; exact h2 xs h c
  · obtain ⟨c, e⟩ := cond_none e
    cases e; exact h1 xs h c
theorem ev7_ok (k : Nat) (P : List DV → Nat → Int) {F : List (Nat × RuleF)} (hF : RulesFOK Try.prog F) : EvOK Try.prog (ev7 (okS fun _ ds => .agg (mx25 k (P ds))) k P F) :=
  ⟨(evT_ok fun _ ds => .agg (mx25 k (P ds))).pure, (evK_ok (L := []) (F := F) trivial hF).fn, (evK_ok (L := []) (F := F) trivial hF).calm, (evT_ok fun _ ds => .agg (mx25 k (P ds))).round⟩
def lastD : List DV → Int
  | [] => 0
  | [.int _ n] => n
  | _ :: r => lastD r
def lastO : Blk → Int
  | .dc cs => lastD cs
  | _ => 0
def lastB : List Blk → Int
  | [] => 0
  | b :: r => match r with
    | [] => lastO b
    | _ :: _ => lastB r
theorem lastD_app : ∀ (l : List Int) (s : Int), lastD (ints (l ++ [s])) = s
  | [], s => rfl
  | [x], s => rfl
  | x :: y :: l, s => by
    show lastD (iD x :: iD y :: ints (l ++ [s])) = s
    have := lastD_app (y :: l) s
    exact this
theorem lastB_rep : ∀ (n : Nat) (cs : List DV), lastB (List.replicate n .dead ++ [.dc cs]) = lastD cs
  | 0, cs => rfl
  | n + 1, cs => by
    rw [List.replicate_succ, List.cons_append]
    cases n with
    | zero => rfl
    | succ n =>
      have := lastB_rep (n + 1) cs
      rw [List.replicate_succ, List.cons_append] at this ⊢
      exact this
theorem lastB_G {j m : Int} {k : Nat} {f : Nat → Int} {O : Blk} (T : List Blk) (cs : List DV) (n : Nat) (hT : T = List.replicate n .dead ++ [.dc cs]) : lastB (G7 j m k f O T) = lastD cs := by
  subst hT
  have h := lastB_rep n cs
  unfold G7
  cases n with
  | zero => exact h
  | succ n =>
    rw [List.replicate_succ, List.cons_append] at h ⊢
    exact h
theorem lastB_g (j m : Int) (k : Nat) (f : Nat → Int) (e : Nat) (l : List Int) (s : Int) : lastB (hp j m k f .g e (l ++ [s])) = s := (lastB_G _ _ (e - 1) rfl).trans (lastD_app l s)
theorem lastB_r (j m : Int) (k : Nat) (f : Nat → Int) (e : Nat) (l : List Int) (s : Int) : lastB (hp j m k f .r e (l ++ [s])) = s := (lastB_G _ _ (e - 1) rfl).trans (lastD_app l s)
/-- The search for the next state, once the list was cut. -/
theorem loopX {k : Nat} (h5 : k ≤ 5) {f : Nat → Int} {a : Nat} (ha : a < k) {b : Nat} {E : Ev} {q1 q2 : List AV → List Blk → Bool} {Zo : List Blk} {HX CR : Int → List Blk} {g : Nat} (hg : g < k) (hfg : f (5 * a + g) ≠ 0)
    (rX : ∀ y s : Int, startS aeC6 E 77 b Try.f77 (some 0) (s77 a k s (HX y)) (roundD aeC6 77 b 0) = V77 k f a s (some (.norm, s77 a k (IntKind.wrap .i64 (s + 1)) (HX y))) (C77 q1 q2 Zo (CR s) (some (.norm, s77 a k (IntKind.wrap .i64 (s + 1)) (HX s)))) (some (.exit 0, ⟨[], HX y, []⟩)))
    (h2 : ∀ s : Nat, s < g → q2 a7 (CR s) = false) (h1 : ∀ s : Nat, s < g → f (5 * a + s) ≠ 0 → q1 a7 (CR s) = true) (hq : q2 a7 (CR g) = true) :
    ∀ (t s : Nat) (y : Int), s + t = g → LoopAt aeC6 E 77 b Try.f77 0 (s77 a k s (HX y)) .ret ⟨[(5, .d (bD true))], Zo, []⟩
  | 0, s, y, hs => by
    have : s = g := by omega
    subst this
    refine .out k77_0 (by simp) ((rX y s).trans ((V77_ok h5 f ha hg ..).trans ?_))
    rw [decide_eq_false hfg]
    unfold C77
    rw [hq]; rfl
  | t + 1, s, y, hs => by
    have hw : IntKind.wrap .i64 ((s : Int) + 1) = ((s + 1 : Nat) : Int) := by rw [wrap64_o (by omega) (by omega)]; rfl
    have hr := (rX y s).trans (V77_ok h5 f ha (show s < k by omega) ..)
    rw [hw] at hr
    by_cases hz : f (5 * a + s) = 0
    · rw [decide_eq_true hz] at hr
      exact .next k77_0 hr (loopX h5 ha hg hfg rX h2 h1 hq t (s + 1) y (by omega))
    · rw [decide_eq_false hz] at hr
      unfold C77 at hr
      rw [h2 s (by omega), h1 s (by omega) hz] at hr
      exact .next k77_0 hr (loopX h5 ha hg hfg rX h2 h1 hq t (s + 1) s (by omega))
/-- The search for the next state. -/
theorem loopE {k : Nat} (h5 : k ≤ 5) {f : Nat → Int} {a : Nat} (ha : a < k) {b : Nat} {E : Ev} {q1 q2 : List AV → List Blk → Bool} {Zo HE : List Blk} {HX CR CG : Int → List Blk} {g : Nat} (hg : g < k) (hfg : f (5 * a + g) ≠ 0)
    (rE : ∀ s : Int, startS aeC6 E 77 b Try.f77 (some 0) (s77 a k s HE) (roundD aeC6 77 b 0) = V77 k f a s (some (.norm, s77 a k (IntKind.wrap .i64 (s + 1)) HE)) (C77 q1 q2 Zo (CG s) (some (.norm, s77 a k (IntKind.wrap .i64 (s + 1)) (HX s)))) (some (.exit 0, ⟨[], HE, []⟩)))
    (rX : ∀ y s : Int, startS aeC6 E 77 b Try.f77 (some 0) (s77 a k s (HX y)) (roundD aeC6 77 b 0) = V77 k f a s (some (.norm, s77 a k (IntKind.wrap .i64 (s + 1)) (HX y))) (C77 q1 q2 Zo (CR s) (some (.norm, s77 a k (IntKind.wrap .i64 (s + 1)) (HX s)))) (some (.exit 0, ⟨[], HX y, []⟩)))
    (h2 : ∀ s : Nat, s < g → q2 a7 (CR s) = false ∧ q2 a7 (CG s) = false) (h1 : ∀ s : Nat, s < g → f (5 * a + s) ≠ 0 → q1 a7 (CR s) = true ∧ q1 a7 (CG s) = true)
    (hq : ((∀ s : Nat, s < g → f (5 * a + s) = 0) ∧ q2 a7 (CG g) = true) ∨ ((∃ s : Nat, s < g ∧ f (5 * a + s) ≠ 0) ∧ q2 a7 (CR g) = true)) :
    ∀ (t s : Nat), s + t = g → (∀ s' : Nat, s' < s → f (5 * a + s') = 0) → LoopAt aeC6 E 77 b Try.f77 0 (s77 a k s HE) .ret ⟨[(5, .d (bD true))], Zo, []⟩
  | 0, s, hs, hz => by
    have : s = g := by omega
    subst this
    refine .out k77_0 (by simp) ((rE s).trans ((V77_ok h5 f ha hg ..).trans ?_))
    rw [decide_eq_false hfg]
    unfold C77
    rcases hq with ⟨_, hq⟩ | ⟨⟨s', h3, h4⟩, _⟩
    · rw [hq]; rfl
    · exact absurd (hz s' h3) h4
  | t + 1, s, hs, hz => by
    have hw : IntKind.wrap .i64 ((s : Int) + 1) = ((s + 1 : Nat) : Int) := by rw [wrap64_o (by omega) (by omega)]; rfl
    have hr := (rE s).trans (V77_ok h5 f ha (show s < k by omega) ..)
    rw [hw] at hr
    by_cases hz' : f (5 * a + s) = 0
    · rw [decide_eq_true hz'] at hr
      refine .next k77_0 hr (loopE h5 ha hg hfg rE rX h2 h1 hq t (s + 1) (by omega) fun s' h => ?_)
      rcases Nat.lt_or_ge s' s with h6 | h6
      · exact hz s' h6
      · have : s' = s := by omega
        subst this; exact hz'
    · rw [decide_eq_false hz'] at hr
      unfold C77 at hr
      rw [(h2 s (by omega)).2, (h1 s (by omega) hz').2] at hr
      refine .next k77_0 hr (loopX h5 ha hg hfg rX (fun s h => (h2 s h).1) (fun s h h' => (h1 s h h').1) ?_ t (s + 1) s (by omega))
      rcases hq with ⟨h3, _⟩ | ⟨_, hq⟩
      · exact absurd (h3 s (by omega)) hz'
      · exact hq
theorem e77 (ok : Nat → List DV → Bool) (P : List DV → Nat → Int) (F : List (Nat × RuleF)) (j m : Int) (k : Nat) (f : Nat → Int) (O : Blk) (T : List Blk) (b : Nat) : nextS aeC6 (ev7 ok k P F) 77 b Try.f77 none 0 .ret ⟨[(5, .d (bD true))], (G7 j m k f O T), []⟩ (doneE aeC6 Try.f77 b fun v h => some (v, h)) = some (.d (bD true), G7 j m k f O T) := by kernel_rfl
theorem hz_G (j m : Int) (k : Nat) (f : Nat → Int) (q : Fo) (e : Nat) (L : List Int) : ∃ O T, hz j m k f q e L = G7 j m k f O T := by cases q <;> exact ⟨_, _, rfl⟩
theorem hp_len (j m : Int) (k : Nat) (f : Nat → Int) {q : Fo} {e : Nat} (hq : FoAt e q) (L : List Int) : (hp j m k f q e L).length = 5 + e := by
  rcases hq with ⟨rfl, rfl⟩ | ⟨h, rfl | rfl⟩
  · rfl
  · simp only [hp, G7, List.length_cons, List.length_append, List.length_replicate, List.length_nil]; omega
  · simp only [hp, G7, List.length_cons, List.length_append, List.length_replicate, List.length_nil]; omega
theorem hp_hz (j m : Int) (k : Nat) (f : Nat → Int) {e : Nat} {z : Bool} {L : List Int} (hL : L.length = e + 1) : hp j m k f (zf z) e L = hz j m k f (zf z) e L := by
  cases z
  · show hp j m k f .r e L = hz j m k f .r e L
    simp only [hp, hz, hL]
  · rfl
/-- What the closure answers with e + 1 states in the list, n before the end. -/
theorem c77 {k : Nat} (h1 : 1 ≤ k) (h5 : k ≤ 5) {f : Nat → Int} (hf : ∀ i < 25, 0 ≤ f i ∧ f i ≤ 9) {j : Nat} (hj : j < k) {D : Nat} (hD : D ≤ 10) : ∀ (n e : Nat) (q : Fo) (l : List Int) (a : Nat), e + n = D → FoAt e q → l.length = e → a < k →
    (reach k f j n a = false → CallOK Try.prog 77 a7 (hp j D k f q e (l ++ [(a : Int)])) (.d (bD false)) (hp j D k f q e (l ++ [(a : Int)]))) ∧
    (reach k f j n a = true → (n = 0 → CallOK Try.prog 77 a7 (hp j D k f q e (l ++ [(a : Int)])) (.d (bD true)) (hp j D k f q e (l ++ [(a : Int)]))) ∧
      (n ≠ 0 → ∃ z, CallOK Try.prog 77 a7 (hp j D k f q e (l ++ [(a : Int)])) (.d (bD true)) (hz j D k f (zf z) (e + 1) ((l ++ [(a : Int)]) ++ (trip k f j n a).map Int.ofNat)))) := by
  intro n
  induction n with
  | zero =>
    intro e q l a he hq hl ha
    have hlen := hp_len (j : Int) (D : Int) k f hq (l ++ [(a : Int)])
    have hb : (Try.f77.body.isSome && Nat.ble a7.length Try.f77.ntmps) = true := by kernel_rfl
    have dn := ((hd7 (by omega) hq).dn (ok7 k f) (P7 k f) j D k f [] l a hl).trans (W77_ok h1 h5 hf hj ha he hD _ _ _)
    refine ⟨fun hr => ?_, fun hr => ⟨fun _ => ?_, fun h => absurd rfl h⟩⟩
    · rw [hr] at dn
      exact ae_call6 (ev7_ok k (P7 k f) (F := []) trivial) (fn := Try.f77) k77 (by kernel_rfl) hb (by rw [hlen]; exact startF_done k77 done_plain dn)
    · rw [hr] at dn
      exact ae_call6 (ev7_ok k (P7 k f) (F := []) trivial) (fn := Try.f77) k77 (by kernel_rfl) hb (by rw [hlen]; exact startF_done k77 done_plain dn)
  | succ n ih =>
    intro e q l a he hq hl ha
    have hlen := hp_len (j : Int) (D : Int) k f hq (l ++ [(a : Int)])
    have hb : (Try.f77.body.isSome && Nat.ble a7.length Try.f77.ntmps) = true := by kernel_rfl
    have dn := ((hd7 (by omega) hq).dn (ok7 k f) (P7 k f) j D k f [] l a hl).trans (W77_ok h1 h5 hf hj ha he hD _ _ _)
    refine ⟨fun hr => ?_, fun hr => ⟨fun h => absurd h (by omega), fun _ => ?_⟩⟩
    · rw [hr] at dn
      exact ae_call6 (ev7_ok k (P7 k f) (F := []) trivial) (fn := Try.f77) k77 (by kernel_rfl) hb (by rw [hlen]; exact startF_done k77 done_plain dn)
    · obtain ⟨g1, g2, g3, g4⟩ := nxt_ok hr
      have hL : (l ++ [(a : Int)]).length = e + 1 := by simp [hl]
      have qG : FoAt (e + 1) .g := .inr ⟨by omega, .inl rfl⟩
      have qR : FoAt (e + 1) .r := .inr ⟨by omega, .inr rfl⟩
      -- those ahead of the next state lead nowhere
      have no : ∀ s : Nat, s < nxt k f j n a → f (5 * a + s) ≠ 0 → reach k f j n s = false := fun s hs hfs => by
        have := g4 s hs
        have h0 := (hf (5 * a + s) (by omega)).1
        simp only [stepB, Bool.and_eq_false_iff, decide_eq_false_iff_not] at this
        rcases this with h | h
        · exact absurd (show 0 < f (5 * a + s) by omega) h
        · exact h
      have fin : ∀ q' : Fo, FoAt (e + 1) q' → (q' = .g ∨ q' = .r) → ∃ z, CallOK Try.prog 77 a7 (hp j D k f q' (e + 1) ((l ++ [(a : Int)]) ++ [((nxt k f j n a : Nat) : Int)])) (.d (bD true)) (hz j D k f (zf z) (zin D e) ((l ++ [(a : Int)]) ++ (trip k f j (n + 1) a).map Int.ofNat)) := by
        intro q' hq' hgr
        obtain ⟨_, h4⟩ := ih (e + 1) q' (l ++ [(a : Int)]) (nxt k f j n a) (by omega) hq' hL g1
        obtain ⟨h6, h7⟩ := h4 g3
        by_cases hn : n = 0
        · have h8 := h6 hn
          subst hn
          have hzD : zin D e = e + 1 := by
            have : Nat.beq (e + 1) D = true := by rw [show e + 1 = D by omega]; exact Nat.beq_refl D
            unfold zin; rw [this]; simp only [cond_true]; omega
          have ht : (trip k f j (0 + 1) a).map Int.ofNat = [((nxt k f j 0 a : Nat) : Int)] := rfl
          rw [hzD, ht]
          have hLL : ((l ++ [(a : Int)]) ++ [((nxt k f j 0 a : Nat) : Int)]).length = e + 1 + 1 := by simp [hl]
          rcases hgr with rfl | rfl
          · exact ⟨true, by rw [← hp_hz _ _ _ _ (z := true) hLL]; exact h8⟩
          · exact ⟨false, by rw [← hp_hz _ _ _ _ (z := false) hLL]; exact h8⟩
        · obtain ⟨z, h8⟩ := h7 hn
          have hzD : zin D e = e + 2 := by
            have : Nat.beq (e + 1) D = false := by
              cases hb : Nat.beq (e + 1) D with
              | false => rfl
              | true => have := Nat.eq_of_beq_eq_true hb; omega
            unfold zin; rw [this]; rfl
          refine ⟨z, ?_⟩
          rw [hzD]
          have ht : ((l ++ [(a : Int)]) ++ [((nxt k f j n a : Nat) : Int)]) ++ (trip k f j n (nxt k f j n a)).map Int.ofNat = (l ++ [(a : Int)]) ++ (trip k f j (n + 1) a).map Int.ofNat := by
            show _ = (l ++ [(a : Int)]) ++ (Int.ofNat (nxt k f j n a) :: (trip k f j n (nxt k f j n a)).map Int.ofNat)
            rw [List.append_assoc]
            rfl
          rw [← ht]; exact h8
      have hw : ((l ++ [(a : Int)]) ++ (trip k f j (n + 1) a).map Int.ofNat).length = D + 1 := by simp [hl, trip_len]; omega
      -- which call finds the way
      have key : ∃ z, ((∀ s : Nat, s < nxt k f j n a → f (5 * a + s) = 0) ∧ CallOK Try.prog 77 a7 (hp j D k f .g (e + 1) ((l ++ [(a : Int)]) ++ [((nxt k f j n a : Nat) : Int)])) (.d (bD true)) (hz j D k f (zf z) (zin D e) ((l ++ [(a : Int)]) ++ (trip k f j (n + 1) a).map Int.ofNat))) ∨
          ((∃ s : Nat, s < nxt k f j n a ∧ f (5 * a + s) ≠ 0) ∧ CallOK Try.prog 77 a7 (hp j D k f .r (e + 1) ((l ++ [(a : Int)]) ++ [((nxt k f j n a : Nat) : Int)])) (.d (bD true)) (hz j D k f (zf z) (zin D e) ((l ++ [(a : Int)]) ++ (trip k f j (n + 1) a).map Int.ofNat))) := by
        by_cases hx : ∃ s : Nat, s < nxt k f j n a ∧ f (5 * a + s) ≠ 0
        · obtain ⟨z, h⟩ := fin .r qR (.inr rfl)
          exact ⟨z, .inr ⟨hx, h⟩⟩
        · obtain ⟨z, h⟩ := fin .g qG (.inl rfl)
          refine ⟨z, .inl ⟨fun s hs => ?_, h⟩⟩
          apply Classical.byContradiction
          intro hc; exact hx ⟨s, hs, hc⟩
      obtain ⟨z, key⟩ := key
      refine ⟨z, ?_⟩
      let W := (l ++ [(a : Int)]) ++ (trip k f j (n + 1) a).map Int.ofNat
      let q1 : List AV → List Blk → Bool := fun xs h => isP (CallOK Try.prog 77 xs h (.d (bD false)) h)
      let q2 : List AV → List Blk → Bool := fun xs h => isP (CallOK Try.prog 77 xs h (.d (bD true)) (hz j D k f (zf z) (zin D e) W)) && decide (lastB h = ((nxt k f j n a : Nat) : Int))
      have hF : RulesFOK Try.prog (F77 q1 q2 (hz j D k f (zf z) (zin D e) W)) := F77_ok q1 q2 (fun xs h hq => isP_iff.1 (Bool.and_eq_true_iff.1 hq).1) (fun xs h hq => isP_iff.1 hq)
      have hd := ((hd7 (by omega) hq).hd (ok7 k f) (P7 k f) j D k f (F77 q1 q2 (hz j D k f (zf z) (zin D e) W)) l a hl).trans (W77_ok h1 h5 hf hj ha he hD _ _ _)
      rw [hr] at hd
      have rd := rd7 (q := q) hD (show e < D by omega) hq
      have hlo := loopE h5 ha g1 (by omega) (fun s => rd.rE z W hw (ok7 k f) (P7 k f) j D k f q1 q2 a s (l ++ [(a : Int)]) hL) (fun y s => rd.rX z W hw (ok7 k f) (P7 k f) j D k f q1 q2 a s y (l ++ [(a : Int)]) hL)
        (fun s hs => by
          have n1 : decide ((s : Int) = ((nxt k f j n a : Nat) : Int)) = false := decide_eq_false (by omega)
          constructor
          · show (isP _ && decide (lastB (hp _ _ _ _ .r _ _) = _)) = false
            rw [lastB_r, n1, Bool.and_false]
          · show (isP _ && decide (lastB (hp _ _ _ _ .g _ _) = _)) = false
            rw [lastB_g, n1, Bool.and_false])
        (fun s hs hfs => by
          have hrs := no s hs hfs
          exact ⟨isP_iff.2 ((ih (e + 1) .r (l ++ [(a : Int)]) s (by omega) qR hL (by omega)).1 hrs), isP_iff.2 ((ih (e + 1) .g (l ++ [(a : Int)]) s (by omega) qG hL (by omega)).1 hrs)⟩)
        (by
          rcases key with ⟨k1, k2⟩ | ⟨k1, k2⟩
          · refine .inl ⟨k1, ?_⟩
            show (isP _ && decide (lastB (hp _ _ _ _ .g _ _) = _)) = true
            rw [lastB_g, decide_eq_true rfl, Bool.and_true]
            exact isP_iff.2 k2
          · refine .inr ⟨k1, ?_⟩
            show (isP _ && decide (lastB (hp _ _ _ _ .r _ _) = _)) = true
            rw [lastB_r, decide_eq_true rfl, Bool.and_true]
            exact isP_iff.2 k2)
        (nxt k f j n a) 0 (by omega) (fun s' h => absurd h (by omega))
      obtain ⟨O, T, hG⟩ := hz_G (j : Int) (D : Int) k f (zf z) (e + 1) W
      refine ae_call6 (ev7_ok k (P7 k f) hF) (fn := Try.f77) k77 (by kernel_rfl) hb ?_
      rw [hlen]
      refine (startF_seg k77 hd hlo).trans (nextF_done k77 done_plain ?_)
      show nextS aeC6 _ 77 _ Try.f77 none 0 .ret ⟨_, hz j D k f (zf z) (e + 1) W, []⟩ _ = some (_, hz j D k f (zf z) (e + 1) W)
      rw [hG]
      exact e77 ..
end Go.Proofs.Ytjfopbpkophoeaa

/- Chapter 06: sets of states that are reached (76). -/
namespace Go.Proofs.Ytjfopbpkophoeaa
open Go Go.AE
set_option maxRecDepth 100000
def accJ (f : Nat → Int) (N i nx : Nat) : Nat → Nat
  | 0 => nx
  | j + 1 => bif N.testBit i && decide (0 < f (5 * i + j)) then accJ f N i nx j ||| 2 ^ j else accJ f N i nx j
def accI (k : Nat) (f : Nat → Int) (N : Nat) : Nat → Nat
  | 0 => 0
  | i + 1 => accJ f N i (accI k f N i) k
/-- The set of states that are reached, as a number. -/
def setN (k : Nat) (f : Nat → Int) (fr : Nat) : Nat → Nat
  | 0 => 2 ^ fr
  | n + 1 => accI k f (setN k f fr n) k
theorem accJ_lt {f : Nat → Int} {N i nx : Nat} (hnx : nx < 32) : ∀ J : Nat, J ≤ 5 → accJ f N i nx J < 32
  | 0, _ => hnx
  | J + 1, h => by
    have ih := accJ_lt (f := f) (N := N) (i := i) hnx J (by omega)
    unfold accJ
    cases N.testBit i && decide (0 < f (5 * i + J)) with
    | false => exact ih
    | true =>
      have h2 : 2 ^ J < 2 ^ 5 := Nat.pow_lt_pow_right (by decide) (by omega)
      exact Nat.or_lt_two_pow (n := 5) ih h2
theorem accI_lt {k : Nat} (h5 : k ≤ 5) (f : Nat → Int) (N : Nat) : ∀ I : Nat, accI k f N I < 32
  | 0 => by show 0 < 32; decide
  | I + 1 => accJ_lt (accI_lt h5 f N I) k h5
theorem setN_lt {k : Nat} (h5 : k ≤ 5) (f : Nat → Int) {fr : Nat} (hf : fr < k) : ∀ n : Nat, setN k f fr n < 32
  | 0 => Nat.pow_lt_pow_right (a := 2) (m := fr) (n := 5) (by decide) (by omega)
  | n + 1 => accI_lt h5 f _ k
theorem accJ_bit {f : Nat → Int} {N i nx : Nat} (x : Nat) : ∀ J : Nat, (accJ f N i nx J).testBit x = true ↔ nx.testBit x = true ∨ (x < J ∧ N.testBit i = true ∧ 0 < f (5 * i + x))
  | 0 => by simp [accJ]
  | J + 1 => by
    have ih := accJ_bit (f := f) (N := N) (i := i) (nx := nx) x J
    unfold accJ
    cases hb : N.testBit i && decide (0 < f (5 * i + J)) with
    | false =>
      simp only [cond_false]
      rw [ih]
      simp only [Bool.and_eq_false_iff, decide_eq_false_iff_not] at hb
      constructor
      · rintro (h | ⟨h1, h2⟩)
        · exact .inl h
        · exact .inr ⟨by omega, h2⟩
      · rintro (h | ⟨h1, h2, h3⟩)
        · exact .inl h
        · refine .inr ⟨?_, h2, h3⟩
          rcases Nat.lt_or_ge x J with q | q
          · exact q
          · have : x = J := by omega
            subst this
            rcases hb with hb | hb
            · rw [h2] at hb; cases hb
            · exact absurd h3 hb
    | true =>
      simp only [cond_true]
      rw [Nat.testBit_or, Bool.or_eq_true, ih, Nat.testBit_two_pow]
      simp only [Bool.and_eq_true, decide_eq_true_eq] at hb
      simp only [decide_eq_true_eq]
      constructor
      · rintro ((h | ⟨h1, h2⟩) | h)
        · exact .inl h
        · exact .inr ⟨by omega, h2⟩
        · subst h; exact .inr ⟨by omega, hb⟩
      · rintro (h | ⟨h1, h2⟩)
        · exact .inl (.inl h)
        · rcases Nat.lt_or_ge x J with q | q
          · exact .inl (.inr ⟨q, h2⟩)
          · exact .inr (by omega)
theorem accI_bit {k : Nat} {f : Nat → Int} {N : Nat} (x : Nat) : ∀ I : Nat, (accI k f N I).testBit x = true ↔ ∃ i, i < I ∧ x < k ∧ N.testBit i = true ∧ 0 < f (5 * i + x)
  | 0 => by simp [accI]
  | I + 1 => by
    have ih := accI_bit (k := k) (f := f) (N := N) x I
    show (accJ f N I (accI k f N I) k).testBit x = true ↔ _
    rw [accJ_bit, ih]
    constructor
    · rintro (⟨i, h1, h2⟩ | h)
      · exact ⟨i, by omega, h2⟩
      · exact ⟨I, by omega, h⟩
    · rintro ⟨i, h1, h2⟩
      rcases Nat.lt_or_ge i I with q | q
      · exact .inl ⟨i, q, h2⟩
      · have : i = I := by omega
        subst this; exact .inr h2
theorem reach_snoc {k : Nat} {f : Nat → Int} {j : Nat} (hj : j < k) : ∀ (n i : Nat), i < k → (reach k f j (n + 1) i = true ↔ ∃ y, y < k ∧ reach k f y n i = true ∧ 0 < f (5 * y + j))
  | 0, i, hi => by
    rw [reach_succ]
    constructor
    · rintro ⟨x, h1, h2, h3⟩
      have : x = j := Nat.eq_of_beq_eq_true h3
      subst this
      exact ⟨i, hi, Nat.beq_refl i, h2⟩
    · rintro ⟨y, h1, h2, h3⟩
      have : i = y := Nat.eq_of_beq_eq_true h2
      subst this
      exact ⟨j, hj, h3, Nat.beq_refl j⟩
  | n + 1, i, hi => by
    rw [reach_succ]
    constructor
    · rintro ⟨x, h1, h2, h3⟩
      obtain ⟨y, h4, h5, h6⟩ := (reach_snoc hj n x h1).1 h3
      exact ⟨y, h4, reach_succ.2 ⟨x, h1, h2, h5⟩, h6⟩
    · rintro ⟨y, h4, h5, h6⟩
      obtain ⟨x, h1, h2, h3⟩ := reach_succ.1 h5
      exact ⟨x, h1, h2, (reach_snoc hj n x h1).2 ⟨y, h4, h3, h6⟩⟩
/-- Both ways of asking are the same. -/
theorem setN_reach {k : Nat} {f : Nat → Int} : ∀ (n i j : Nat), i < k → j < k → (setN k f i n).testBit j = reach k f j n i
  | 0, i, j, hi, hj => by
    show (2 ^ i).testBit j = Nat.beq i j
    rw [Nat.testBit_two_pow]
    cases h : Nat.beq i j with
    | true => exact decide_eq_true (Nat.eq_of_beq_eq_true h)
    | false =>
      refine decide_eq_false ?_
      rintro rfl
      rw [Nat.beq_refl] at h; cases h
  | n + 1, i, j, hi, hj => by
    rw [Bool.eq_iff_iff]
    show (accI k f (setN k f i n) k).testBit j = true ↔ _
    rw [accI_bit, reach_snoc hj n i hi]
    constructor
    · rintro ⟨y, h1, h2, h3, h4⟩
      rw [setN_reach n i y hi h1] at h3
      exact ⟨y, h1, h3, h4⟩
    · rintro ⟨y, h1, h3, h4⟩
      rw [← setN_reach n i y hi h1] at h3
      exact ⟨y, h1, hj, h3, h4⟩
/-! ### The walk of reached (76) -/
def orT (nx : Int) (j : Nat) : Int := IntKind.wrap .i64 (((BitVec.ofInt 64 nx ||| BitVec.ofInt 64 (IntKind.wrap .i64 (1 * 2 ^ min (Int.toNat (j : Int)) 64))).toNat : Nat) : Int)
def bitT (s : Int) (i : Nat) : Int := Int.tmod (Int.fdiv s (2 ^ min (Int.toNat (i : Int)) 64)) 2
theorem orT_ok : ∀ N < 32, ∀ j < 5, orT (N : Nat) j = ((N ||| 2 ^ j : Nat) : Int) := by decide +kernel
theorem bitT_ok : ∀ N < 32, ∀ i < 5, decide (bitT (N : Nat) i = 1) = N.testBit i := by decide +kernel
theorem pow1_ok : ∀ i < 5, IntKind.wrap IntKind.i64 (1 * 2 ^ min (Int.toNat ((i : Nat) : Int)) 64) = ((2 ^ i : Nat) : Int) := by decide +kernel
def z76 (A : List DV) (n : Nat) (m set st : Int) : St := ⟨[(0, .d (DV.sl A n 1 false false)), (2, .d (iD m)), (7, .d (iD set)), (8, .d (iD st))], [], []⟩
def z762 (A : List DV) (n : Nat) (m set st nx i : Int) : St := ⟨[(0, .d (DV.sl A n 1 false false)), (2, .d (iD m)), (7, .d (iD set)), (8, .d (iD st)), (9, .d (iD nx)), (10, .d (iD i))], [], []⟩
def z762x (A : List DV) (n : Nat) (m st nx : Int) : St := ⟨[(0, .d (DV.sl A n 1 false false)), (2, .d (iD m)), (8, .d (iD st)), (9, .d (iD nx))], [], []⟩
def z764 (A : List DV) (n : Nat) (m set st nx i j : Int) : St := ⟨[(0, .d (DV.sl A n 1 false false)), (2, .d (iD m)), (7, .d (iD set)), (8, .d (iD st)), (9, .d (iD nx)), (10, .d (iD i)), (11, .d (iD j))], [], []⟩
theorem t76_h (A : List DV) (n : Nat) (fr m : Int) : startS aeC Ev.nil 76 0 Try.f76 none ⟨envOf 0 [.d (.sl A n 1 false false), .d (iD fr), .d (iD m)], [], []⟩ (heldD aeC 76 0) =
  bif decide (fr < 0) then none else some (0, z76 A n m (IntKind.wrap IntKind.i64 (1 * 2 ^ min (Int.toNat fr) 64)) 0) := by kernel_rfl
theorem t76_0 (A : List DV) (n : Nat) (m set st : Int) : startS aeC Ev.nil 76 0 Try.f76 (some 0) (z76 A n m set st) (heldD aeC 76 0) = bif decide (st < m) then some (2, z762 A n m set st 0 0) else none := by kernel_rfl
theorem t76_0x (A : List DV) (n : Nat) (m set st : Int) : startS aeC Ev.nil 76 0 Try.f76 (some 0) (z76 A n m set st) (roundD aeC 76 0 0) = bif decide (st < m) then none else some (Ex.exit 0, ⟨[(7, .d (iD set))], [], []⟩) := by kernel_rfl
theorem t76_2 (A : List DV) (n : Nat) (m set st nx i : Int) : startS aeC Ev.nil 76 0 Try.f76 (some 2) (z762 A n m set st nx i) (heldD aeC 76 0) = bif decide (i < (n : Int)) then some (4, z764 A n m set st nx i 0) else none := by kernel_rfl
theorem t76_2x (A : List DV) (n : Nat) (m set st nx i : Int) : startS aeC Ev.nil 76 0 Try.f76 (some 2) (z762 A n m set st nx i) (roundD aeC 76 0 2) = bif decide (i < (n : Int)) then none else some (Ex.exit 2, z762x A n m st nx) := by kernel_rfl
theorem t76_4 (A : List DV) (n : Nat) (m set st nx : Int) (i j : Nat) : startS aeC Ev.nil 76 0 Try.f76 (some 4) (z764 A n m set st nx i j) (roundD aeC 76 0 4) =
  bif decide ((j : Int) < (n : Int)) then (bif decide (bitT set i = 1) then (bif inRange (i : Int) n then (getS (nth A (Int.toNat (i : Int) * 1)) fun cs0 n0 sz0 c0 nl0 => bif nl0 || Nat.beq sz0 1 then (bif inRange (j : Int) n0 then (getI (nth cs0 (Int.toNat (j : Int) * 1)) fun x1 =>
      bif decide (0 < x1) then some (Ex.norm, z764 A n m set st (orT nx j) i (IntKind.wrap IntKind.i64 ((j : Int) + 1))) else some (Ex.norm, z764 A n m set st nx i (IntKind.wrap IntKind.i64 ((j : Int) + 1)))) else none) else none) else none)
    else some (Ex.norm, z764 A n m set st nx i (IntKind.wrap IntKind.i64 ((j : Int) + 1))))
  else some (Ex.exit 4, z762 A n m set st nx i) := by kernel_rfl
theorem t76_4n (A : List DV) (n : Nat) (m set st nx i : Int) : nextS aeC Ev.nil 76 0 Try.f76 (some 2) 4 (.exit 4) (z762 A n m set st nx i) (roundD aeC 76 0 2) = some (.norm, z762 A n m set st nx (IntKind.wrap .i64 (i + 1))) := by kernel_rfl
theorem t76_2n (A : List DV) (n : Nat) (m st nx : Int) : nextS aeC Ev.nil 76 0 Try.f76 (some 0) 2 (.exit 2) (z762x A n m st nx) (roundD aeC 76 0 0) = some (.norm, z76 A n m nx (IntKind.wrap .i64 (st + 1))) := by kernel_rfl
theorem t76_e (s : Int) : nextS aeC Ev.nil 76 0 Try.f76 none 0 (.exit 0) ⟨[(7, .d (iD s))], [], []⟩ (doneE aeC Try.f76 0 fun v h => freezeV h 4 v) = some (iD s) := by kernel_rfl
theorem k76 : OkSeg Try.f76 none [0] := ⟨by kernel_rfl, by kernel_rfl, by decide⟩
theorem k76_0 : OkSeg Try.f76 (some 0) [2] := ⟨by kernel_rfl, by kernel_rfl, by decide⟩
theorem k76_2 : OkSeg Try.f76 (some 2) [4] := ⟨by kernel_rfl, by kernel_rfl, by decide⟩
theorem k76_4 : OkSeg Try.f76 (some 4) [] := ⟨by kernel_rfl, by kernel_rfl, by decide⟩
theorem fM_at (M : List (List Int)) (i : Nat) {j : Nat} (hj : j < 5) : fM M (5 * i + j) = (M.getD i []).getD j 0 := by
  unfold fM
  rw [(idx5 hj).1, (idx5 hj).2]
theorem row_len {k : Nat} {M : List (List Int)} (hM : matB k M) {i : Nat} (hi : i < k) : (M.getD i []).length = k := by
  rw [List.getD_eq_getElem?_getD, List.getElem?_eq_getElem (by rw [hM.1]; exact hi), Option.getD_some]
  exact (hM.2 _ (List.getElem_mem _)).1
theorem wr1 {n : Nat} (h : n ≤ 1000) : IntKind.wrap .i64 ((n : Int) + 1) = ((n + 1 : Nat) : Int) := by rw [wrap64_o (by omega) (by omega)]; rfl
section
variable {k : Nat} {M : List (List Int)}
theorem loop764 (hM : matB k M) (h5 : k ≤ 5) {m st : Int} {N i nx : Nat} (hN : N < 32) (hnx : nx < 32) (hi : i < k) : ∀ (t j : Nat), j + t = k →
    LoopAt aeC Ev.nil 76 0 Try.f76 4 (z764 (M.map rowD) M.length m N st (accJ (fM M) N i nx j : Nat) i j) (.exit 4) (z762 (M.map rowD) M.length m N st (accJ (fM M) N i nx k : Nat) i)
  | 0, j, hj => by
    have : j = k := by omega
    subst this
    exact .out k76_4 (by simp) ((t76_4 ..).trans (cnd_neg (by have := hM.1; omega)))
  | t + 1, j, hj => by
    have ih := loop764 hM h5 (m := m) (st := st) hN hnx hi t (j + 1) (by omega)
    have hl := hM.1
    have ha := (t76_4 (M.map rowD) M.length m N st (accJ (fM M) N i nx j : Nat) i j).trans (cnd_pos (by omega))
    rw [bitT_ok N hN i (by omega), wr1 (by omega)] at ha
    have e1 : Int.toNat (i : Int) * 1 = i := by simp
    have e2 : Int.toNat (j : Int) * 1 = j := by simp
    rw [e1, nth_mat (by omega)] at ha
    have hi2 : inRange (i : Int) M.length = true := by simp [inRange]; omega
    have hrl := row_len hM hi
    unfold rowD at ha
    simp only [getS_some, Nat.beq_refl, Bool.or_true, cond_true, hi2] at ha
    have hj2 : inRange (j : Int) (M.getD i []).length = true := by rw [hrl]; simp [inRange]; omega
    rw [hj2, e2, nth_ints_o (l := M.getD i []) (i := j) (by omega), ← fM_at M i (show j < 5 by omega)] at ha
    simp only [getI_some, cond_true] at ha
    rw [orT_ok _ (accJ_lt hnx j (by omega)) j (by omega)] at ha
    refine .next k76_4 (ha.trans ?_) ih
    show _ = some (Ex.norm, z764 (M.map rowD) M.length m N st ((bif N.testBit i && decide (0 < fM M (5 * i + j)) then accJ (fM M) N i nx j ||| 2 ^ j else accJ (fM M) N i nx j : Nat) : Int) i ((j + 1 : Nat) : Int))
    cases N.testBit i <;> cases decide (0 < fM M (5 * i + j)) <;> rfl
theorem loop762 (hM : matB k M) (h5 : k ≤ 5) {m st : Int} {N : Nat} (hN : N < 32) : ∀ (t i : Nat), i + t = k →
    LoopAt aeC Ev.nil 76 0 Try.f76 2 (z762 (M.map rowD) M.length m N st (accI k (fM M) N i : Nat) i) (.exit 2) (z762x (M.map rowD) M.length m st (accI k (fM M) N k : Nat))
  | 0, i, hi => by
    have : i = k := by omega
    subst this
    exact .out k76_2 (by simp) ((t76_2x ..).trans (cnd_neg (by have := hM.1; omega)))
  | t + 1, i, hi => by
    have ih := loop762 hM h5 (m := m) (st := st) hN t (i + 1) (by omega)
    have hl := hM.1
    have hn := t76_4n (M.map rowD) M.length m N st (accJ (fM M) N i (accI k (fM M) N i) k : Nat) i
    rw [wr1 (by omega)] at hn
    exact .nextF k76_2 ((startF_seg k76_2 ((t76_2 ..).trans (cnd_pos (by omega))) (loop764 hM h5 hN (accI_lt h5 _ _ i) (by omega) k 0 (by omega))).trans (nextF_done k76_2 roundD_plain hn)) ih
theorem loop760 (hM : matB k M) (h5 : k ≤ 5) {fr : Nat} (hf : fr < k) {m : Nat} (hm : m ≤ 1000) : ∀ (t s : Nat), s + t = m →
    LoopAt aeC Ev.nil 76 0 Try.f76 0 (z76 (M.map rowD) M.length m (setN k (fM M) fr s : Nat) s) (.exit 0) ⟨[(7, .d (iD (setN k (fM M) fr m : Nat)))], [], []⟩
  | 0, s, hs => by
    have : s = m := by omega
    subst this
    exact .out k76_0 (by simp) ((t76_0x ..).trans (cnd_neg (by omega)))
  | t + 1, s, hs => by
    have ih := loop760 hM h5 hf hm t (s + 1) (by omega)
    have hn := t76_2n (M.map rowD) M.length m s (accI k (fM M) (setN k (fM M) fr s) k : Nat)
    rw [wr1 (by omega)] at hn
    exact .nextF k76_0 ((startF_seg k76_0 ((t76_0 ..).trans (cnd_pos (by omega))) (loop762 hM h5 (setN_lt h5 _ hf s) k 0 (by omega))).trans (nextF_done k76_0 roundD_plain hn)) ih
theorem c76 (hM : matB k M) (h5 : k ≤ 5) {fr : Nat} (hf : fr < k) {m : Nat} (hm : m ≤ 1000) : PureOK Try.prog 76 [matD M, iD (fr : Int), iD (m : Int)] (iD (setN k (fM M) fr m : Nat)) := by
  have hh := (t76_h (M.map rowD) M.length fr m).trans (cnd_neg (by omega))
  rw [pow1_ok fr (by omega)] at hh
  exact ae_pure EvOK.nil (fn := Try.f76) k76 (by kernel_rfl) (by kernel_rfl) ((startF_seg k76 hh (loop760 hM h5 hf hm m 0 (by omega))).trans (nextF_done k76 done_plain (t76_e ..)))
end
end Go.Proofs.Ytjfopbpkophoeaa

/- Chapter 06: Trip (35), the document's Trip (36), lists compared (37). Written by wip/tools/genW7.py. -/
namespace Go.Proofs.Ytjfopbpkophoeaa
open Go Go.AE
set_option maxRecDepth 100000
def nil3 (e : Int) : DV := .tup [.sl [] 0 0 false true, bD false, iD e]
noncomputable def ev35 (ok : Nat → List DV → Bool) (k : Nat) (f : Nat → Int) (F : List (Nat × RuleF)) : Ev := { evT ok (fun _ _ => .tup [.agg (mx25 k f), iD 0]) with fn := fun f xs h => .node (calmF f) .fail (toldF F f xs h) }
theorem ev35_ok (k : Nat) (f : Nat → Int) {F : List (Nat × RuleF)} (hF : RulesFOK Try.prog F) : EvOK Try.prog (ev35 (okS fun _ _ => .tup [.agg (mx25 k f), iD 0]) k f F) :=
  ⟨(evT_ok fun _ _ => .tup [.agg (mx25 k f), iD 0]).pure, (evK_ok (L := []) (F := F) trivial hF).fn, (evK_ok (L := []) (F := F) trivial hF).calm, (evT_ok fun _ _ => .tup [.agg (mx25 k f), iD 0]).round⟩
def W35 (ok : Nat → List DV → Bool) (a : DV) (k : Nat) (i j m : Int) (q1 q2 : List AV → List Blk → Bool) (H : List Blk) (ans : DV) : Option DV :=
  bif ok 61 [a] then (bif decide ((if j < i then j else i) < 0) then some (nil3 1) else bif decide ((k : Int) ≤ if j > i then j else i) then some (nil3 1) else bif decide (m < 0) then some (nil3 1) else bif decide (10 < m) then some (nil3 1) else
    bif q2 a7 H then some ans else bif q1 a7 H then some (nil3 0) else none) else none
theorem k35 : OkSeg Try.f35 none [] := ⟨by kernel_rfl, by kernel_rfl, by decide⟩
theorem t35_0 (ok : Nat → List DV → Bool) (q1 q2 : List AV → List Blk → Bool) (a : DV) (i j m : Int) (k : Nat) (f : Nat → Int) (w0 : Int) : startS aeC6 (ev35 ok k f (F77 q1 q2 (hp j m k f .o 0 [w0]))) 35 0 Try.f35 none ⟨envOf 0 [.d a, .d (iD i), .d (iD j), .d (iD m)], [], []⟩ (doneE aeC6 Try.f35 0 fun v h => freezeV h 4 v) = W35 ok a k i j m q1 q2 (hp j m k f .o 0 [i]) (.tup [.sl (ints [w0]) 1 1 true false, bD true, iD 0]) := by kernel_rfl
theorem t35_1g (ok : Nat → List DV → Bool) (q1 q2 : List AV → List Blk → Bool) (a : DV) (i j m : Int) (k : Nat) (f : Nat → Int) (w0 w1 : Int) : startS aeC6 (ev35 ok k f (F77 q1 q2 (hz j m k f .g 1 [w0, w1]))) 35 0 Try.f35 none ⟨envOf 0 [.d a, .d (iD i), .d (iD j), .d (iD m)], [], []⟩ (doneE aeC6 Try.f35 0 fun v h => freezeV h 4 v) = W35 ok a k i j m q1 q2 (hp j m k f .o 0 [i]) (.tup [.sl (ints [w0, w1]) 2 1 false false, bD true, iD 0]) := by kernel_rfl
theorem t35_1r (ok : Nat → List DV → Bool) (q1 q2 : List AV → List Blk → Bool) (a : DV) (i j m : Int) (k : Nat) (f : Nat → Int) (w0 w1 : Int) : startS aeC6 (ev35 ok k f (F77 q1 q2 (hz j m k f .r 1 [w0, w1]))) 35 0 Try.f35 none ⟨envOf 0 [.d a, .d (iD i), .d (iD j), .d (iD m)], [], []⟩ (doneE aeC6 Try.f35 0 fun v h => freezeV h 4 v) = W35 ok a k i j m q1 q2 (hp j m k f .o 0 [i]) (.tup [.sl (ints [w0, w1]) 2 1 false false, bD true, iD 0]) := by kernel_rfl
theorem t35_2g (ok : Nat → List DV → Bool) (q1 q2 : List AV → List Blk → Bool) (a : DV) (i j m : Int) (k : Nat) (f : Nat → Int) (w0 w1 w2 : Int) : startS aeC6 (ev35 ok k f (F77 q1 q2 (hz j m k f .g 1 [w0, w1, w2]))) 35 0 Try.f35 none ⟨envOf 0 [.d a, .d (iD i), .d (iD j), .d (iD m)], [], []⟩ (doneE aeC6 Try.f35 0 fun v h => freezeV h 4 v) = W35 ok a k i j m q1 q2 (hp j m k f .o 0 [i]) (.tup [.sl (ints [w0, w1, w2]) 3 1 false false, bD true, iD 0]) := by kernel_rfl
theorem t35_2r (ok : Nat → List DV → Bool) (q1 q2 : List AV → List Blk → Bool) (a : DV) (i j m : Int) (k : Nat) (f : Nat → Int) (w0 w1 w2 : Int) : startS aeC6 (ev35 ok k f (F77 q1 q2 (hz j m k f .r 1 [w0, w1, w2]))) 35 0 Try.f35 none ⟨envOf 0 [.d a, .d (iD i), .d (iD j), .d (iD m)], [], []⟩ (doneE aeC6 Try.f35 0 fun v h => freezeV h 4 v) = W35 ok a k i j m q1 q2 (hp j m k f .o 0 [i]) (.tup [.sl (ints [w0, w1, w2]) 3 1 false false, bD true, iD 0]) := by kernel_rfl
theorem t35_3g (ok : Nat → List DV → Bool) (q1 q2 : List AV → List Blk → Bool) (a : DV) (i j m : Int) (k : Nat) (f : Nat → Int) (w0 w1 w2 w3 : Int) : startS aeC6 (ev35 ok k f (F77 q1 q2 (hz j m k f .g 1 [w0, w1, w2, w3]))) 35 0 Try.f35 none ⟨envOf 0 [.d a, .d (iD i), .d (iD j), .d (iD m)], [], []⟩ (doneE aeC6 Try.f35 0 fun v h => freezeV h 4 v) = W35 ok a k i j m q1 q2 (hp j m k f .o 0 [i]) (.tup [.sl (ints [w0, w1, w2, w3]) 4 1 false false, bD true, iD 0]) := by kernel_rfl
theorem t35_3r (ok : Nat → List DV → Bool) (q1 q2 : List AV → List Blk → Bool) (a : DV) (i j m : Int) (k : Nat) (f : Nat → Int) (w0 w1 w2 w3 : Int) : startS aeC6 (ev35 ok k f (F77 q1 q2 (hz j m k f .r 1 [w0, w1, w2, w3]))) 35 0 Try.f35 none ⟨envOf 0 [.d a, .d (iD i), .d (iD j), .d (iD m)], [], []⟩ (doneE aeC6 Try.f35 0 fun v h => freezeV h 4 v) = W35 ok a k i j m q1 q2 (hp j m k f .o 0 [i]) (.tup [.sl (ints [w0, w1, w2, w3]) 4 1 false false, bD true, iD 0]) := by kernel_rfl
theorem t35_4g (ok : Nat → List DV → Bool) (q1 q2 : List AV → List Blk → Bool) (a : DV) (i j m : Int) (k : Nat) (f : Nat → Int) (w0 w1 w2 w3 w4 : Int) : startS aeC6 (ev35 ok k f (F77 q1 q2 (hz j m k f .g 1 [w0, w1, w2, w3, w4]))) 35 0 Try.f35 none ⟨envOf 0 [.d a, .d (iD i), .d (iD j), .d (iD m)], [], []⟩ (doneE aeC6 Try.f35 0 fun v h => freezeV h 4 v) = W35 ok a k i j m q1 q2 (hp j m k f .o 0 [i]) (.tup [.sl (ints [w0, w1, w2, w3, w4]) 5 1 false false, bD true, iD 0]) := by kernel_rfl
theorem t35_4r (ok : Nat → List DV → Bool) (q1 q2 : List AV → List Blk → Bool) (a : DV) (i j m : Int) (k : Nat) (f : Nat → Int) (w0 w1 w2 w3 w4 : Int) : startS aeC6 (ev35 ok k f (F77 q1 q2 (hz j m k f .r 1 [w0, w1, w2, w3, w4]))) 35 0 Try.f35 none ⟨envOf 0 [.d a, .d (iD i), .d (iD j), .d (iD m)], [], []⟩ (doneE aeC6 Try.f35 0 fun v h => freezeV h 4 v) = W35 ok a k i j m q1 q2 (hp j m k f .o 0 [i]) (.tup [.sl (ints [w0, w1, w2, w3, w4]) 5 1 false false, bD true, iD 0]) := by kernel_rfl
theorem t35_5g (ok : Nat → List DV → Bool) (q1 q2 : List AV → List Blk → Bool) (a : DV) (i j m : Int) (k : Nat) (f : Nat → Int) (w0 w1 w2 w3 w4 w5 : Int) : startS aeC6 (ev35 ok k f (F77 q1 q2 (hz j m k f .g 1 [w0, w1, w2, w3, w4, w5]))) 35 0 Try.f35 none ⟨envOf 0 [.d a, .d (iD i), .d (iD j), .d (iD m)], [], []⟩ (doneE aeC6 Try.f35 0 fun v h => freezeV h 4 v) = W35 ok a k i j m q1 q2 (hp j m k f .o 0 [i]) (.tup [.sl (ints [w0, w1, w2, w3, w4, w5]) 6 1 false false, bD true, iD 0]) := by kernel_rfl
theorem t35_5r (ok : Nat → List DV → Bool) (q1 q2 : List AV → List Blk → Bool) (a : DV) (i j m : Int) (k : Nat) (f : Nat → Int) (w0 w1 w2 w3 w4 w5 : Int) : startS aeC6 (ev35 ok k f (F77 q1 q2 (hz j m k f .r 1 [w0, w1, w2, w3, w4, w5]))) 35 0 Try.f35 none ⟨envOf 0 [.d a, .d (iD i), .d (iD j), .d (iD m)], [], []⟩ (doneE aeC6 Try.f35 0 fun v h => freezeV h 4 v) = W35 ok a k i j m q1 q2 (hp j m k f .o 0 [i]) (.tup [.sl (ints [w0, w1, w2, w3, w4, w5]) 6 1 false false, bD true, iD 0]) := by kernel_rfl
theorem t35_6g (ok : Nat → List DV → Bool) (q1 q2 : List AV → List Blk → Bool) (a : DV) (i j m : Int) (k : Nat) (f : Nat → Int) (w0 w1 w2 w3 w4 w5 w6 : Int) : startS aeC6 (ev35 ok k f (F77 q1 q2 (hz j m k f .g 1 [w0, w1, w2, w3, w4, w5, w6]))) 35 0 Try.f35 none ⟨envOf 0 [.d a, .d (iD i), .d (iD j), .d (iD m)], [], []⟩ (doneE aeC6 Try.f35 0 fun v h => freezeV h 4 v) = W35 ok a k i j m q1 q2 (hp j m k f .o 0 [i]) (.tup [.sl (ints [w0, w1, w2, w3, w4, w5, w6]) 7 1 false false, bD true, iD 0]) := by kernel_rfl
theorem t35_6r (ok : Nat → List DV → Bool) (q1 q2 : List AV → List Blk → Bool) (a : DV) (i j m : Int) (k : Nat) (f : Nat → Int) (w0 w1 w2 w3 w4 w5 w6 : Int) : startS aeC6 (ev35 ok k f (F77 q1 q2 (hz j m k f .r 1 [w0, w1, w2, w3, w4, w5, w6]))) 35 0 Try.f35 none ⟨envOf 0 [.d a, .d (iD i), .d (iD j), .d (iD m)], [], []⟩ (doneE aeC6 Try.f35 0 fun v h => freezeV h 4 v) = W35 ok a k i j m q1 q2 (hp j m k f .o 0 [i]) (.tup [.sl (ints [w0, w1, w2, w3, w4, w5, w6]) 7 1 false false, bD true, iD 0]) := by kernel_rfl
theorem t35_7g (ok : Nat → List DV → Bool) (q1 q2 : List AV → List Blk → Bool) (a : DV) (i j m : Int) (k : Nat) (f : Nat → Int) (w0 w1 w2 w3 w4 w5 w6 w7 : Int) : startS aeC6 (ev35 ok k f (F77 q1 q2 (hz j m k f .g 1 [w0, w1, w2, w3, w4, w5, w6, w7]))) 35 0 Try.f35 none ⟨envOf 0 [.d a, .d (iD i), .d (iD j), .d (iD m)], [], []⟩ (doneE aeC6 Try.f35 0 fun v h => freezeV h 4 v) = W35 ok a k i j m q1 q2 (hp j m k f .o 0 [i]) (.tup [.sl (ints [w0, w1, w2, w3, w4, w5, w6, w7]) 8 1 false false, bD true, iD 0]) := by kernel_rfl
theorem t35_7r (ok : Nat → List DV → Bool) (q1 q2 : List AV → List Blk → Bool) (a : DV) (i j m : Int) (k : Nat) (f : Nat → Int) (w0 w1 w2 w3 w4 w5 w6 w7 : Int) : startS aeC6 (ev35 ok k f (F77 q1 q2 (hz j m k f .r 1 [w0, w1, w2, w3, w4, w5, w6, w7]))) 35 0 Try.f35 none ⟨envOf 0 [.d a, .d (iD i), .d (iD j), .d (iD m)], [], []⟩ (doneE aeC6 Try.f35 0 fun v h => freezeV h 4 v) = W35 ok a k i j m q1 q2 (hp j m k f .o 0 [i]) (.tup [.sl (ints [w0, w1, w2, w3, w4, w5, w6, w7]) 8 1 false false, bD true, iD 0]) := by kernel_rfl
theorem t35_8g (ok : Nat → List DV → Bool) (q1 q2 : List AV → List Blk → Bool) (a : DV) (i j m : Int) (k : Nat) (f : Nat → Int) (w0 w1 w2 w3 w4 w5 w6 w7 w8 : Int) : startS aeC6 (ev35 ok k f (F77 q1 q2 (hz j m k f .g 1 [w0, w1, w2, w3, w4, w5, w6, w7, w8]))) 35 0 Try.f35 none ⟨envOf 0 [.d a, .d (iD i), .d (iD j), .d (iD m)], [], []⟩ (doneE aeC6 Try.f35 0 fun v h => freezeV h 4 v) = W35 ok a k i j m q1 q2 (hp j m k f .o 0 [i]) (.tup [.sl (ints [w0, w1, w2, w3, w4, w5, w6, w7, w8]) 9 1 false false, bD true, iD 0]) := by kernel_rfl
theorem t35_8r (ok : Nat → List DV → Bool) (q1 q2 : List AV → List Blk → Bool) (a : DV) (i j m : Int) (k : Nat) (f : Nat → Int) (w0 w1 w2 w3 w4 w5 w6 w7 w8 : Int) : startS aeC6 (ev35 ok k f (F77 q1 q2 (hz j m k f .r 1 [w0, w1, w2, w3, w4, w5, w6, w7, w8]))) 35 0 Try.f35 none ⟨envOf 0 [.d a, .d (iD i), .d (iD j), .d (iD m)], [], []⟩ (doneE aeC6 Try.f35 0 fun v h => freezeV h 4 v) = W35 ok a k i j m q1 q2 (hp j m k f .o 0 [i]) (.tup [.sl (ints [w0, w1, w2, w3, w4, w5, w6, w7, w8]) 9 1 false false, bD true, iD 0]) := by kernel_rfl
theorem t35_9g (ok : Nat → List DV → Bool) (q1 q2 : List AV → List Blk → Bool) (a : DV) (i j m : Int) (k : Nat) (f : Nat → Int) (w0 w1 w2 w3 w4 w5 w6 w7 w8 w9 : Int) : startS aeC6 (ev35 ok k f (F77 q1 q2 (hz j m k f .g 1 [w0, w1, w2, w3, w4, w5, w6, w7, w8, w9]))) 35 0 Try.f35 none ⟨envOf 0 [.d a, .d (iD i), .d (iD j), .d (iD m)], [], []⟩ (doneE aeC6 Try.f35 0 fun v h => freezeV h 4 v) = W35 ok a k i j m q1 q2 (hp j m k f .o 0 [i]) (.tup [.sl (ints [w0, w1, w2, w3, w4, w5, w6, w7, w8, w9]) 10 1 false false, bD true, iD 0]) := by kernel_rfl
theorem t35_9r (ok : Nat → List DV → Bool) (q1 q2 : List AV → List Blk → Bool) (a : DV) (i j m : Int) (k : Nat) (f : Nat → Int) (w0 w1 w2 w3 w4 w5 w6 w7 w8 w9 : Int) : startS aeC6 (ev35 ok k f (F77 q1 q2 (hz j m k f .r 1 [w0, w1, w2, w3, w4, w5, w6, w7, w8, w9]))) 35 0 Try.f35 none ⟨envOf 0 [.d a, .d (iD i), .d (iD j), .d (iD m)], [], []⟩ (doneE aeC6 Try.f35 0 fun v h => freezeV h 4 v) = W35 ok a k i j m q1 q2 (hp j m k f .o 0 [i]) (.tup [.sl (ints [w0, w1, w2, w3, w4, w5, w6, w7, w8, w9]) 10 1 false false, bD true, iD 0]) := by kernel_rfl
theorem t35_10g (ok : Nat → List DV → Bool) (q1 q2 : List AV → List Blk → Bool) (a : DV) (i j m : Int) (k : Nat) (f : Nat → Int) (w0 w1 w2 w3 w4 w5 w6 w7 w8 w9 w10 : Int) : startS aeC6 (ev35 ok k f (F77 q1 q2 (hz j m k f .g 1 [w0, w1, w2, w3, w4, w5, w6, w7, w8, w9, w10]))) 35 0 Try.f35 none ⟨envOf 0 [.d a, .d (iD i), .d (iD j), .d (iD m)], [], []⟩ (doneE aeC6 Try.f35 0 fun v h => freezeV h 4 v) = W35 ok a k i j m q1 q2 (hp j m k f .o 0 [i]) (.tup [.sl (ints [w0, w1, w2, w3, w4, w5, w6, w7, w8, w9, w10]) 11 1 false false, bD true, iD 0]) := by kernel_rfl
theorem t35_10r (ok : Nat → List DV → Bool) (q1 q2 : List AV → List Blk → Bool) (a : DV) (i j m : Int) (k : Nat) (f : Nat → Int) (w0 w1 w2 w3 w4 w5 w6 w7 w8 w9 w10 : Int) : startS aeC6 (ev35 ok k f (F77 q1 q2 (hz j m k f .r 1 [w0, w1, w2, w3, w4, w5, w6, w7, w8, w9, w10]))) 35 0 Try.f35 none ⟨envOf 0 [.d a, .d (iD i), .d (iD j), .d (iD m)], [], []⟩ (doneE aeC6 Try.f35 0 fun v h => freezeV h 4 v) = W35 ok a k i j m q1 q2 (hp j m k f .o 0 [i]) (.tup [.sl (ints [w0, w1, w2, w3, w4, w5, w6, w7, w8, w9, w10]) 11 1 false false, bD true, iD 0]) := by kernel_rfl
theorem t35 {D : Nat} (h1 : 1 ≤ D) (h10 : D ≤ 10) (z : Bool) {w : List Int} (hw : w.length = D + 1) (ok : Nat → List DV → Bool) (q1 q2 : List AV → List Blk → Bool) (a : DV) (i j m : Int) (k : Nat) (f : Nat → Int) : startS aeC6 (ev35 ok k f (F77 q1 q2 (hz j m k f (zf z) 1 w))) 35 0 Try.f35 none ⟨envOf 0 [.d a, .d (iD i), .d (iD j), .d (iD m)], [], []⟩ (doneE aeC6 Try.f35 0 fun v h => freezeV h 4 v) = W35 ok a k i j m q1 q2 (hp j m k f .o 0 [i]) (.tup [.sl (ints w) (D + 1) 1 false false, bD true, iD 0]) := by
  have h : D = 1 ∨ D = 2 ∨ D = 3 ∨ D = 4 ∨ D = 5 ∨ D = 6 ∨ D = 7 ∨ D = 8 ∨ D = 9 ∨ D = 10 := by omega
  rcases h with rfl | rfl | rfl | rfl | rfl | rfl | rfl | rfl | rfl | rfl
  · obtain ⟨w0, w1, rfl⟩ := len2 hw
    cases z
    · exact t35_1r ok q1 q2 a i j m k f w0 w1
    · exact t35_1g ok q1 q2 a i j m k f w0 w1
  · obtain ⟨w0, w1, w2, rfl⟩ := len3 hw
    cases z
    · exact t35_2r ok q1 q2 a i j m k f w0 w1 w2
    · exact t35_2g ok q1 q2 a i j m k f w0 w1 w2
  · obtain ⟨w0, w1, w2, w3, rfl⟩ := len4 hw
    cases z
    · exact t35_3r ok q1 q2 a i j m k f w0 w1 w2 w3
    · exact t35_3g ok q1 q2 a i j m k f w0 w1 w2 w3
  · obtain ⟨w0, w1, w2, w3, w4, rfl⟩ := len5 hw
    cases z
    · exact t35_4r ok q1 q2 a i j m k f w0 w1 w2 w3 w4
    · exact t35_4g ok q1 q2 a i j m k f w0 w1 w2 w3 w4
  · obtain ⟨w0, w1, w2, w3, w4, w5, rfl⟩ := len6 hw
    cases z
    · exact t35_5r ok q1 q2 a i j m k f w0 w1 w2 w3 w4 w5
    · exact t35_5g ok q1 q2 a i j m k f w0 w1 w2 w3 w4 w5
  · obtain ⟨w0, w1, w2, w3, w4, w5, w6, rfl⟩ := len7 hw
    cases z
    · exact t35_6r ok q1 q2 a i j m k f w0 w1 w2 w3 w4 w5 w6
    · exact t35_6g ok q1 q2 a i j m k f w0 w1 w2 w3 w4 w5 w6
  · obtain ⟨w0, w1, w2, w3, w4, w5, w6, w7, rfl⟩ := len8 hw
    cases z
    · exact t35_7r ok q1 q2 a i j m k f w0 w1 w2 w3 w4 w5 w6 w7
    · exact t35_7g ok q1 q2 a i j m k f w0 w1 w2 w3 w4 w5 w6 w7
  · obtain ⟨w0, w1, w2, w3, w4, w5, w6, w7, w8, rfl⟩ := len9 hw
    cases z
    · exact t35_8r ok q1 q2 a i j m k f w0 w1 w2 w3 w4 w5 w6 w7 w8
    · exact t35_8g ok q1 q2 a i j m k f w0 w1 w2 w3 w4 w5 w6 w7 w8
  · obtain ⟨w0, w1, w2, w3, w4, w5, w6, w7, w8, w9, rfl⟩ := len10 hw
    cases z
    · exact t35_9r ok q1 q2 a i j m k f w0 w1 w2 w3 w4 w5 w6 w7 w8 w9
    · exact t35_9g ok q1 q2 a i j m k f w0 w1 w2 w3 w4 w5 w6 w7 w8 w9
  · obtain ⟨w0, w1, w2, w3, w4, w5, w6, w7, w8, w9, w10, rfl⟩ := len11 hw
    cases z
    · exact t35_10r ok q1 q2 a i j m k f w0 w1 w2 w3 w4 w5 w6 w7 w8 w9 w10
    · exact t35_10g ok q1 q2 a i j m k f w0 w1 w2 w3 w4 w5 w6 w7 w8 w9 w10
def badW (k : Nat) (i j m : Int) : Bool := decide (i < 0) || (decide (j < 0) || (decide ((k : Int) ≤ i) || (decide ((k : Int) ≤ j) || (decide (m < 0) || decide (10 < m)))))
theorem badW_no {k : Nat} {i j m : Int} (h : badW k i j m = false) : ∃ a b n : Nat, i = a ∧ j = b ∧ m = n ∧ a < k ∧ b < k ∧ n ≤ 10 := by
  simp only [badW, Bool.or_eq_false_iff, decide_eq_false_iff_not] at h
  exact ⟨i.toNat, j.toNat, m.toNat, by omega, by omega, by omega, by omega, by omega, by omega⟩
theorem W35_bad {ok : Nat → List DV → Bool} {a : DV} {k : Nat} {i j m : Int} {q1 q2 : List AV → List Blk → Bool} {H : List Blk} {ans : DV} (h : ok 61 [a] = true) (hb : badW k i j m = true) : W35 ok a k i j m q1 q2 H ans = some (nil3 1) := by
  unfold W35
  rw [h]
  simp only [badW, Bool.or_eq_true, decide_eq_true_eq] at hb
  simp only [cond_true]
  by_cases c1 : (if j < i then j else i) < 0
  · rw [decide_eq_true c1]; rfl
  by_cases c2 : (k : Int) ≤ if j > i then j else i
  · rw [decide_eq_false c1, decide_eq_true c2]; rfl
  by_cases c3 : m < 0
  · rw [decide_eq_false c1, decide_eq_false c2, decide_eq_true c3]; rfl
  by_cases c4 : 10 < m
  · rw [decide_eq_false c1, decide_eq_false c2, decide_eq_false c3, decide_eq_true c4]; rfl
  exfalso
  split at c1 <;> split at c2 <;> omega
theorem W35_in {ok : Nat → List DV → Bool} {a : DV} {k : Nat} {i j m : Nat} {q1 q2 : List AV → List Blk → Bool} {H : List Blk} {ans : DV} (h : ok 61 [a] = true) (hi : i < k) (hj : j < k) (hm : m ≤ 10) : W35 ok a k i j m q1 q2 H ans = bif q2 a7 H then some ans else bif q1 a7 H then some (nil3 0) else none := by
  unfold W35
  have c1 : ¬ (if (j : Int) < (i : Int) then (j : Int) else (i : Int)) < 0 := by split <;> omega
  have c2 : ¬ (k : Int) ≤ (if (j : Int) > (i : Int) then (j : Int) else (i : Int)) := by split <;> omega
  rw [h, decide_eq_false c1, decide_eq_false c2, decide_eq_false (show ¬ (m : Int) < 0 by omega), decide_eq_false (show ¬ (10 : Int) < (m : Int) by omega)]
  rfl
/-- The first trip, its first state too. -/
def wayL (k : Nat) (f : Nat → Int) (i j m : Nat) : List Int := [(i : Int)] ++ (trip k f j m i).map Int.ofNat
theorem wayL_len (k : Nat) (f : Nat → Int) (i j m : Nat) : (wayL k f i j m).length = m + 1 := by simp [wayL, trip_len]
def wayD (k : Nat) (f : Nat → Int) (i j m : Nat) : DV := .sl (ints (wayL k f i j m)) (m + 1) 1 (Nat.beq m 0) false
def tripD (M : List (List Int)) (i j m : Int) : DV := bif badW M.length i j m then nil3 1 else bif reach M.length (fM M) j.toNat m.toNat i.toNat then .tup [wayD M.length (fM M) i.toNat j.toNat m.toNat, bD true, iD 0] else nil3 0
theorem c35 {k : Nat} {M : List (List Int)} (hM : matB k M) (h1 : 1 ≤ k) (h5 : k ≤ 5) (i j m : Int) : PureOK Try.prog 35 [matD M, iD i, iD j, iD m] (tripD M i j m) := by
  have h61 : okS (fun _ _ => DV.tup [.agg (mx25 k (fM M)), iD 0]) 61 [matD M] = true := okS_is (by rw [← mtx_mx hM h1 h5]; exact c61 hM h1 h5)
  unfold tripD
  rw [hM.1]
  cases hb : badW k i j m with
  | true =>
    have hF : RulesFOK Try.prog (F77 (fun _ _ => false) (fun _ _ => false) (hp j m k (fM M) .o 0 [0])) := F77_ok _ _ (fun xs h e => by cases e) (fun xs h e => by cases e)
    exact ae_pure6 (ev35_ok k (fM M) hF) (fn := Try.f35) k35 (by kernel_rfl) (by kernel_rfl) (startF_done k35 done_plain ((t35_0 _ _ _ (matD M) i j m k (fM M) 0).trans (W35_bad h61 hb)))
  | false =>
    obtain ⟨a, b, n, rfl, rfl, rfl, ha, hbk, hn⟩ := badW_no hb
    simp only [Int.toNat_natCast, cond_false]
    have hf : ∀ i < 25, 0 ≤ fM M i ∧ fM M i ≤ 9 := fun i _ => fM_b hM i
    obtain ⟨c1, c2⟩ := c77 h1 h5 hf hbk hn n 0 .o [] a (by omega) (.inl ⟨rfl, rfl⟩) rfl ha
    cases hr : reach k (fM M) b n a with
    | false =>
      have hc := c1 hr
      let q1 : List AV → List Blk → Bool := fun xs h => isP (CallOK Try.prog 77 xs h (.d (bD false)) h)
      have hF : RulesFOK Try.prog (F77 q1 (fun _ _ => false) (hp b n k (fM M) .o 0 [0])) := F77_ok _ _ (fun xs h e => by cases e) (fun xs h e => isP_iff.1 e)
      have hq : q1 a7 (hp b n k (fM M) .o 0 [(a : Int)]) = true := isP_iff.2 hc
      refine ae_pure6 (ev35_ok k (fM M) hF) (fn := Try.f35) k35 (by kernel_rfl) (by kernel_rfl) (startF_done k35 done_plain ((t35_0 _ _ _ (matD M) a b n k (fM M) 0).trans ((W35_in h61 ha hbk hn).trans ?_)))
      rw [hq]; rfl
    | true =>
      obtain ⟨c3, c4⟩ := c2 hr
      by_cases h0 : n = 0
      · subst h0
        have hc := c3 rfl
        let q2 : List AV → List Blk → Bool := fun xs h => isP (CallOK Try.prog 77 xs h (.d (bD true)) (hp b (0 : Nat) k (fM M) .o 0 [(a : Int)]))
        have hF : RulesFOK Try.prog (F77 (fun _ _ => false) q2 (hp b (0 : Nat) k (fM M) .o 0 [(a : Int)])) := F77_ok _ _ (fun xs h e => isP_iff.1 e) (fun xs h e => by cases e)
        have hq : q2 a7 (hp b (0 : Nat) k (fM M) .o 0 [(a : Int)]) = true := isP_iff.2 hc
        refine ae_pure6 (ev35_ok k (fM M) hF) (fn := Try.f35) k35 (by kernel_rfl) (by kernel_rfl) (startF_done k35 done_plain ((t35_0 _ _ _ (matD M) a b (0 : Nat) k (fM M) a).trans ((W35_in h61 ha hbk hn).trans ?_)))
        rw [hq]; rfl
      · obtain ⟨z, hc⟩ := c4 h0
        let q2 : List AV → List Blk → Bool := fun xs h => isP (CallOK Try.prog 77 xs h (.d (bD true)) (hz b n k (fM M) (zf z) 1 (wayL k (fM M) a b n)))
        have hF : RulesFOK Try.prog (F77 (fun _ _ => false) q2 (hz b n k (fM M) (zf z) 1 (wayL k (fM M) a b n))) := F77_ok _ _ (fun xs h e => isP_iff.1 e) (fun xs h e => by cases e)
        have hq : q2 a7 (hp b n k (fM M) .o 0 [(a : Int)]) = true := isP_iff.2 hc
        refine ae_pure6 (ev35_ok k (fM M) hF) (fn := Try.f35) k35 (by kernel_rfl) (by kernel_rfl) (startF_done k35 done_plain ((t35 (by omega) hn z (wayL_len k (fM M) a b n) _ _ _ (matD M) a b n k (fM M)).trans ((W35_in h61 ha hbk hn).trans ?_)))
        have hnb : Nat.beq n 0 = false := by cases n with | zero => exact absurd rfl h0 | succ n => rfl
        rw [hq]
        unfold wayD
        rw [hnb]; rfl

end Go.Proofs.Ytjfopbpkophoeaa

/- Chapter 06: the document's Trip (36); lists compared (37). -/
namespace Go.Proofs.Ytjfopbpkophoeaa
open Go Go.AE
set_option maxRecDepth 100000
def nilZ : DV := .sl [] 0 0 false true
theorem bit0_ok : ∀ N < 32, ∀ i < 5, decide (bitT (N : Nat) i = 0) = !N.testBit i := by decide +kernel
def S7 (M : List (List Int)) (ds : List DV) : Int := match ds with
  | [_, .int _ a, .int _ b] => (setN M.length (fM M) a.toNat b.toNat : Nat)
  | _ => 0
noncomputable abbrev ok36 (M : List (List Int)) : Nat → List DV → Bool := okS fun _ ds => iD (S7 M ds)
noncomputable def ev36 (ok : Nat → List DV → Bool) (S : List DV → Int) : Ev := evT ok fun _ ds => iD (S ds)
def z36 (A : List DV) (n : Nat) (i j m : Int) (o : AV) (H : List Blk) : St := ⟨[(0, .d (DV.sl A n 1 false false)), (1, .d (iD i)), (2, .d (iD j)), (3, .d (iD m)), (9, o)], H, []⟩
def z362 (A : List DV) (n : Nat) (i j m : Int) (o : AV) (h : Int) (H : List Blk) : St := ⟨[(0, .d (DV.sl A n 1 false false)), (1, .d (iD i)), (2, .d (iD j)), (3, .d (iD m)), (9, o), (10, .d (iD h))], H, []⟩
def W36 {X : Type} (ok : Nat → List DV → Bool) (S : List DV → Int) (A : List DV) (n i h : Nat) (j m : Int) (skip hit out : Option X) : Option X :=
  bif decide ((h : Int) < (n : Int)) then (bif inRange (i : Int) n then (getS (nth A (Int.toNat (i : Int) * 1)) fun cs0 n0 sz0 c0 nl0 => bif nl0 || Nat.beq sz0 1 then (bif inRange (h : Int) n0 then (getI (nth cs0 (Int.toNat (h : Int) * 1)) fun x1 => bif decide (0 < x1) then
    (bif ok 76 [.sl A n 1 false false, iD (h : Int), iD (IntKind.wrap IntKind.i64 (m - 1))] then (bif decide (j < 0) then none else bif decide (Int.tmod (Int.fdiv (S [.sl A n 1 false false, iD (h : Int), iD (IntKind.wrap IntKind.i64 (m - 1))]) (2 ^ min (Int.toNat j) 64)) 2 = 1) then hit else skip) else none) else skip) else none) else none) else none) else out
theorem t36_h (ok : Nat → List DV → Bool) (S : List DV → Int) (A : List DV) (n : Nat) (i j m : Int) : startS aeC (ev36 ok S) 36 0 Try.f36 none ⟨envOf 0 [.d (.sl A n 1 false false), .d (iD i), .d (iD j), .d (iD m)], [], []⟩ (heldD aeC 36 0) =
  bif ok 76 [.sl A n 1 false false, iD i, iD m] then (bif decide (j < 0) then none else bif decide (Int.tmod (Int.fdiv (S [.sl A n 1 false false, iD i, iD m]) (2 ^ min (Int.toNat j) 64)) 2 = 0) then none else some (0, z36 A n i j m (.d (DV.sl [iD i] 1 1 true false)) [])) else none := by kernel_rfl
theorem t36_d (ok : Nat → List DV → Bool) (S : List DV → Int) (A : List DV) (n : Nat) (i j m : Int) : startS aeC (ev36 ok S) 36 0 Try.f36 none ⟨envOf 0 [.d (.sl A n 1 false false), .d (iD i), .d (iD j), .d (iD m)], [], []⟩ (doneE aeC Try.f36 0 fun v h => freezeV h 4 v) =
  bif ok 76 [.sl A n 1 false false, iD i, iD m] then (bif decide (j < 0) then none else bif decide (Int.tmod (Int.fdiv (S [.sl A n 1 false false, iD i, iD m]) (2 ^ min (Int.toNat j) 64)) 2 = 0) then some nilZ else none) else none := by kernel_rfl
theorem t36_0 (ok : Nat → List DV → Bool) (S : List DV → Int) (A : List DV) (n : Nat) (i j m l : Int) : startS aeC (ev36 ok S) 36 0 Try.f36 (some 0) (z36 A n i j m (.d (DV.sl [iD l] 1 1 true false)) []) (heldD aeC 36 0) = bif decide (0 < m) then some (2, z362 A n i j m (.d (DV.sl [iD l] 1 1 true false)) 0 []) else none := by kernel_rfl
theorem t36_0x (ok : Nat → List DV → Bool) (S : List DV → Int) (A : List DV) (n : Nat) (i j l : Int) : startS aeC (ev36 ok S) 36 0 Try.f36 (some 0) (z36 A n i j 0 (.d (DV.sl [iD l] 1 1 true false)) []) (roundD aeC 36 0 0) = some (Ex.exit 0, ⟨[(9, .d (DV.sl [iD l] 1 1 true false))], [], []⟩) := by kernel_rfl
theorem t36_1 (ok : Nat → List DV → Bool) (S : List DV → Int) (A : List DV) (n : Nat) (i j m : Int) (L : List DV) : startS aeC (ev36 ok S) 36 0 Try.f36 (some 0) (z36 A n i j m (.grow 0 1 true) [.dc L]) (heldD aeC 36 0) = bif decide (0 < m) then some (2, z362 A n i j m (.grow 0 1 true) 0 [.dc L]) else none := by kernel_rfl
theorem t36_1x (ok : Nat → List DV → Bool) (S : List DV → Int) (A : List DV) (n : Nat) (i j : Int) (L : List DV) : startS aeC (ev36 ok S) 36 0 Try.f36 (some 0) (z36 A n i j 0 (.grow 0 1 true) [.dc L]) (roundD aeC 36 0 0) = some (Ex.exit 0, ⟨[(9, AV.grow 0 1 true)], [.dc L], []⟩) := by kernel_rfl
theorem t36_2 (ok : Nat → List DV → Bool) (S : List DV → Int) (A : List DV) (n : Nat) (i h : Nat) (j m l : Int) : startS aeC (ev36 ok S) 36 0 Try.f36 (some 2) (z362 A n i j m (.d (DV.sl [iD l] 1 1 true false)) h []) (roundD aeC 36 0 2) =
  W36 ok S A n i h j m (some (.norm, z362 A n i j m (.d (DV.sl [iD l] 1 1 true false)) (IntKind.wrap .i64 ((h : Int) + 1)) [])) (some (.exit 2, z36 A n h j m (.d (DV.sl [iD l] 1 1 true false)) [])) (some (.exit 2, z36 A n i j m (.d (DV.sl [iD l] 1 1 true false)) [])) := by kernel_rfl
theorem t36_3 (ok : Nat → List DV → Bool) (S : List DV → Int) (A : List DV) (n : Nat) (i h : Nat) (j m : Int) (L : List DV) : startS aeC (ev36 ok S) 36 0 Try.f36 (some 2) (z362 A n i j m (.grow 0 1 true) h [.dc L]) (roundD aeC 36 0 2) =
  W36 ok S A n i h j m (some (.norm, z362 A n i j m (.grow 0 1 true) (IntKind.wrap .i64 ((h : Int) + 1)) [.dc L])) (some (.exit 2, z36 A n h j m (.grow 0 1 true) [.dc L])) (some (.exit 2, z36 A n i j m (.grow 0 1 true) [.dc L])) := by kernel_rfl
theorem t36_n1 (ok : Nat → List DV → Bool) (S : List DV → Int) (A : List DV) (n : Nat) (i j m l : Int) : nextS aeC (ev36 ok S) 36 0 Try.f36 (some 0) 2 (.exit 2) (z36 A n i j m (.d (DV.sl [iD l] 1 1 true false)) []) (roundD aeC 36 0 0) = some (.norm, z36 A n i j (IntKind.wrap .i64 (m - 1)) (.grow 0 1 true) [.dc [iD l, iD i]]) := by kernel_rfl
theorem t36_n2 (ok : Nat → List DV → Bool) (S : List DV → Int) (A : List DV) (n : Nat) (i j m : Int) (L : List DV) : nextS aeC (ev36 ok S) 36 0 Try.f36 (some 0) 2 (.exit 2) (z36 A n i j m (.grow 0 1 true) [.dc L]) (roundD aeC 36 0 0) = bif Nat.ble (lenOf 1 L.length + 1) 1048576 then some (.norm, z36 A n i j (IntKind.wrap .i64 (m - 1)) (.grow 0 1 true) [.dc (L ++ [iD i])]) else none := by kernel_rfl
theorem t36_e (ok : Nat → List DV → Bool) (S : List DV → Int) (L : List DV) : nextS aeC (ev36 ok S) 36 0 Try.f36 none 0 (.exit 0) ⟨[(9, AV.grow 0 1 true)], [.dc L], []⟩ (doneE aeC Try.f36 0 fun v h => freezeV h 4 v) = some (.sl L (lenOf 1 L.length) 1 false false) := by kernel_rfl
theorem t36_e1 (ok : Nat → List DV → Bool) (S : List DV → Int) (l : Int) : nextS aeC (ev36 ok S) 36 0 Try.f36 none 0 (.exit 0) ⟨[(9, .d (DV.sl [iD l] 1 1 true false))], [], []⟩ (doneE aeC Try.f36 0 fun v h => freezeV h 4 v) = some (.sl [iD l] 1 1 true false) := by kernel_rfl
theorem k36 : OkSeg Try.f36 none [0] := ⟨by kernel_rfl, by kernel_rfl, by decide⟩
theorem k36_0 : OkSeg Try.f36 (some 0) [2] := ⟨by kernel_rfl, by kernel_rfl, by decide⟩
theorem k36_2 : OkSeg Try.f36 (some 2) [] := ⟨by kernel_rfl, by kernel_rfl, by decide⟩
section
variable {k : Nat} {M : List (List Int)}
theorem g76 (hM : matB k M) (h5 : k ≤ 5) {a b : Nat} (ha : a < k) (hb : b ≤ 1000) : ok36 M 76 [matD M, iD (a : Int), iD (b : Int)] = true := okS_is (by
  show PureOK Try.prog 76 _ (iD (setN M.length (fM M) ((a : Int)).toNat ((b : Int)).toNat : Nat))
  rw [hM.1, Int.toNat_natCast, Int.toNat_natCast]
  exact c76 hM h5 ha hb)
theorem S7_at (hM : matB k M) (a b : Nat) : S7 M [matD M, iD (a : Int), iD (b : Int)] = (setN k (fM M) a b : Nat) := by
  show ((setN M.length (fM M) ((a : Int)).toNat ((b : Int)).toNat : Nat) : Int) = _
  rw [hM.1, Int.toNat_natCast, Int.toNat_natCast]
theorem W36_ok {X : Type} (hM : matB k M) (h5 : k ≤ 5) {i h j n : Nat} (hi : i < k) (hh : h < k) (hj : j < k) (hn : n ≤ 1000) (skip hit out : Option X) : W36 (ok36 M) (S7 M) (M.map rowD) M.length i h (j : Int) ((n + 1 : Nat) : Int) skip hit out = bif stepB k (fM M) j n i h then hit else skip := by
  unfold W36
  have hl := hM.1
  have hm : IntKind.wrap IntKind.i64 (((n + 1 : Nat) : Int) - 1) = (n : Int) := by rw [wrap64_o (by omega) (by omega)]; omega
  rw [hm, decide_eq_true (show (h : Int) < (M.length : Int) by omega)]
  have e1 : Int.toNat (i : Int) * 1 = i := by simp
  have e2 : Int.toNat (h : Int) * 1 = h := by simp
  have hi2 : inRange (i : Int) M.length = true := by simp [inRange]; omega
  rw [e1, nth_mat (by omega), hi2]
  have hrl := row_len hM hi
  unfold rowD
  simp only [getS_some, Nat.beq_refl, Bool.or_true, cond_true]
  have hh2 : inRange (h : Int) (M.getD i []).length = true := by rw [hrl]; simp [inRange]; omega
  rw [hh2, e2, nth_ints_o (l := M.getD i []) (i := h) (by omega), ← fM_at M i (show h < 5 by omega)]
  simp only [getI_some, cond_true]
  have g := g76 hM h5 hh hn
  have hs := S7_at hM h n
  unfold matD rowD at g hs
  rw [g, hs, decide_eq_false (show ¬ (j : Int) < 0 by omega)]
  have hb := bitT_ok _ (setN_lt h5 (fM M) hh n) j (by omega)
  unfold bitT at hb
  rw [hb, setN_reach n h j hh hj]
  unfold stepB
  cases decide (0 < fM M (5 * i + h)) <;> cases reach k (fM M) j n h <;> rfl
theorem loop362 (hM : matB k M) (h5 : k ≤ 5) {i j n : Nat} (hi : i < k) (hj : j < k) (hn : n ≤ 1000) {o : AV} {H : List Blk}
    (hp : ∀ h : Nat, startS aeC (ev36 (ok36 M) (S7 M)) 36 0 Try.f36 (some 2) (z362 (M.map rowD) M.length i j ((n + 1 : Nat) : Int) o h H) (roundD aeC 36 0 2) = W36 (ok36 M) (S7 M) (M.map rowD) M.length i h j ((n + 1 : Nat) : Int) (some (.norm, z362 (M.map rowD) M.length i j ((n + 1 : Nat) : Int) o (IntKind.wrap .i64 ((h : Int) + 1)) H)) (some (.exit 2, z36 (M.map rowD) M.length h j ((n + 1 : Nat) : Int) o H)) (some (.exit 2, z36 (M.map rowD) M.length i j ((n + 1 : Nat) : Int) o H)))
    {g : Nat} (hg : g < k) (hgood : stepB k (fM M) j n i g = true) (hno : ∀ h < g, stepB k (fM M) j n i h = false) : ∀ (t h : Nat), h + t = g →
    LoopAt aeC (ev36 (ok36 M) (S7 M)) 36 0 Try.f36 2 (z362 (M.map rowD) M.length i j ((n + 1 : Nat) : Int) o h H) (.exit 2) (z36 (M.map rowD) M.length g j ((n + 1 : Nat) : Int) o H)
  | 0, h, ht => by
    have : h = g := by omega
    subst this
    refine .out k36_2 (by simp) ((hp h).trans ((W36_ok hM h5 hi hg hj hn _ _ _).trans ?_))
    rw [hgood]; rfl
  | t + 1, h, ht => by
    have ih := loop362 hM h5 hi hj hn hp hg hgood hno t (h + 1) (by omega)
    refine .next k36_2 ((hp h).trans ((W36_ok hM h5 hi (by omega) hj hn _ _ _).trans ?_)) ih
    rw [hno h (by omega), wr1 (by omega)]; rfl
theorem wm1 {n : Nat} (hn : n ≤ 1000) : IntKind.wrap IntKind.i64 (((n + 1 : Nat) : Int) - 1) = (n : Int) := by rw [wrap64_o (by omega) (by omega)]; omega
theorem loop36g (hM : matB k M) (h5 : k ≤ 5) {j : Nat} (hj : j < k) : ∀ (n i : Nat) (L : List Int), n ≤ 100 → L.length + n ≤ 1000 → i < k → reach k (fM M) j n i = true →
    ∃ S, LoopAt aeC (ev36 (ok36 M) (S7 M)) 36 0 Try.f36 0 (z36 (M.map rowD) M.length i j (n : Nat) (.grow 0 1 true) [.dc (ints L)]) (.exit 0) S ∧ S = ⟨[(9, AV.grow 0 1 true)], [.dc (ints (L ++ (trip k (fM M) j n i).map Int.ofNat))], []⟩
  | 0, i, L, _, _, hi, _ => ⟨_, .out k36_0 (by simp) (t36_1x ..), by simp [trip]⟩
  | n + 1, i, L, hn, hL, hi, hr => by
    obtain ⟨g1, g2, g3, g4⟩ := nxt_ok hr
    have hgood : stepB k (fM M) j n i (nxt k (fM M) j n i) = true := by simp [stepB, g2, g3]
    obtain ⟨S, s1, s2⟩ := loop36g hM h5 hj n (nxt k (fM M) j n i) (L ++ [((nxt k (fM M) j n i : Nat) : Int)]) (by omega) (by simp; omega) g1 g3
    have hx := t36_n2 (ok36 M) (S7 M) (M.map rowD) M.length (nxt k (fM M) j n i : Nat) j ((n + 1 : Nat) : Int) (ints L)
    rw [wm1 (by omega), show Nat.ble (lenOf 1 (ints L).length + 1) 1048576 = true from Nat.ble_eq_true_of_le (by rw [len_ints]; show L.length + 1 ≤ _; omega), ints_app1] at hx
    refine ⟨S, .nextF k36_0 ((startF_seg k36_0 ((t36_1 ..).trans (cnd_pos (by omega))) (loop362 hM h5 hi hj (by omega) (fun h => t36_3 _ _ _ _ i h j _ _) g1 hgood g4 (nxt k (fM M) j n i) 0 (by omega))).trans (nextF_done k36_0 roundD_plain hx)) s1, ?_⟩
    rw [s2]
    simp [trip, List.append_assoc]
theorem c36 (hM : matB k M) (h5 : k ≤ 5) {i j n : Nat} (hi : i < k) (hj : j < k) (hn : n ≤ 10) : PureOK Try.prog 36 [matD M, iD (i : Int), iD (j : Int), iD (n : Int)] (bif reach k (fM M) j n i then wayD k (fM M) i j n else nilZ) := by
  have g := g76 hM h5 hi (show n ≤ 1000 by omega)
  have hs := S7_at hM i n
  have hb := bit0_ok _ (setN_lt h5 (fM M) hi n) j (by omega)
  rw [setN_reach n i j hi hj] at hb
  unfold bitT at hb
  have hj0 : decide ((j : Int) < 0) = false := decide_eq_false (by omega)
  unfold matD at g hs
  cases hr : reach k (fM M) j n i with
  | false =>
    have hd := t36_d (ok36 M) (S7 M) (M.map rowD) M.length i j n
    rw [g, hs, hj0, hb, hr] at hd
    exact ae_pure (evT_ok fun _ ds => iD (S7 M ds)) (fn := Try.f36) k36 (by kernel_rfl) (by kernel_rfl) (startF_done k36 done_plain hd)
  | true =>
    have hd := t36_h (ok36 M) (S7 M) (M.map rowD) M.length i j n
    rw [g, hs, hj0, hb, hr] at hd
    cases n with
    | zero =>
      refine ae_pure (evT_ok fun _ ds => iD (S7 M ds)) (fn := Try.f36) k36 (by kernel_rfl) (by kernel_rfl) ((startF_seg k36 hd (.out k36_0 (by simp) (t36_0x ..))).trans (nextF_done k36 done_plain ((t36_e1 ..).trans ?_)))
      rfl
    | succ n =>
      obtain ⟨g1, g2, g3, g4⟩ := nxt_ok hr
      have hgood : stepB k (fM M) j n i (nxt k (fM M) j n i) = true := by simp [stepB, g2, g3]
      obtain ⟨S, s1, s2⟩ := loop36g hM h5 hj n (nxt k (fM M) j n i) [(i : Int), ((nxt k (fM M) j n i : Nat) : Int)] (by omega) (by simp; omega) g1 g3
      have hx := t36_n1 (ok36 M) (S7 M) (M.map rowD) M.length (nxt k (fM M) j n i : Nat) j ((n + 1 : Nat) : Int) i
      rw [wm1 (by omega)] at hx
      have hlo : LoopAt aeC (ev36 (ok36 M) (S7 M)) 36 0 Try.f36 0 (z36 (M.map rowD) M.length i j ((n + 1 : Nat) : Int) (.d (DV.sl [iD (i : Int)] 1 1 true false)) []) (.exit 0) S :=
        .nextF k36_0 ((startF_seg k36_0 ((t36_0 ..).trans (cnd_pos (by omega))) (loop362 hM h5 hi hj (by omega) (fun h => t36_2 _ _ _ _ i h j _ _) g1 hgood g4 (nxt k (fM M) j n i) 0 (by omega))).trans (nextF_done k36_0 roundD_plain hx)) s1
      rw [s2] at hlo
      refine ae_pure (evT_ok fun _ ds => iD (S7 M ds)) (fn := Try.f36) k36 (by kernel_rfl) (by kernel_rfl) ((startF_seg k36 hd hlo).trans (nextF_done k36 done_plain ((t36_e ..).trans ?_)))
      have hw : [(i : Int), ((nxt k (fM M) j n i : Nat) : Int)] ++ (trip k (fM M) j n (nxt k (fM M) j n i)).map Int.ofNat = wayL k (fM M) i j (n + 1) := rfl
      rw [hw, len_ints, lenOf_1, wayL_len]
      rfl
end
/-! ### Lists compared -/
def z37 (A B : DV) (i : Int) : St := ⟨[(0, .d A), (1, .d B), (5, .d (iD i))], [], []⟩
theorem t37_h (A B : List DV) (n m : Nat) (c z c2 z2 : Bool) : startS aeC Ev.nil 37 0 Try.f37 none ⟨envOf 0 [.d (.sl A n 1 c z), .d (.sl B m 1 c2 z2)], [], []⟩ (heldD aeC 37 0) = bif !decide ((n : Int) = (m : Int)) then none else some (0, z37 (.sl A n 1 c z) (.sl B m 1 c2 z2) 0) := by kernel_rfl
theorem t37_0 (A B : List DV) (n m : Nat) (c z c2 z2 : Bool) (i : Nat) : startS aeC Ev.nil 37 0 Try.f37 (some 0) (z37 (.sl A n 1 c z) (.sl B m 1 c2 z2) i) (roundD aeC 37 0 0) =
  bif decide ((i : Int) < (n : Int)) then (bif inRange (i : Int) n then (getI (nth A (Int.toNat (i : Int) * 1)) fun x0 => bif inRange (i : Int) m then (getI (nth B (Int.toNat (i : Int) * 1)) fun x1 => bif !decide (x0 = x1) then some (Ex.ret, ⟨[(4, .d (bD false))], [], []⟩) else some (Ex.norm, z37 (.sl A n 1 c z) (.sl B m 1 c2 z2) (IntKind.wrap .i64 ((i : Int) + 1)))) else none) else none) else some (Ex.exit 0, ⟨[], [], []⟩) := by kernel_rfl
theorem t37_e : nextS aeC Ev.nil 37 0 Try.f37 none 0 (.exit 0) ⟨[], [], []⟩ (doneE aeC Try.f37 0 fun v h => freezeV h 4 v) = some (bD true) := by kernel_rfl
theorem k37 : OkSeg Try.f37 none [0] := ⟨by kernel_rfl, by kernel_rfl, by decide⟩
theorem k37_0 : OkSeg Try.f37 (some 0) [] := ⟨by kernel_rfl, by kernel_rfl, by decide⟩
theorem loop37 {l : List Int} (hl : l.length ≤ 1000) (c z c2 z2 : Bool) : ∀ (t i : Nat), i + t = l.length → LoopAt aeC Ev.nil 37 0 Try.f37 0 (z37 (.sl (ints l) l.length 1 c z) (.sl (ints l) l.length 1 c2 z2) i) (.exit 0) ⟨[], [], []⟩
  | 0, i, hi => .out k37_0 (by simp) ((t37_0 ..).trans (cnd_neg (by omega)))
  | t + 1, i, hi => by
    have ih := loop37 hl c z c2 z2 t (i + 1) (by omega)
    refine .next k37_0 ((t37_0 ..).trans ((cnd_pos (by omega)).trans ?_)) ih
    have e1 : Int.toNat (i : Int) * 1 = i := by simp
    have hi2 : inRange (i : Int) l.length = true := by simp [inRange]; omega
    rw [e1, hi2, nth_ints_o (l := l) (i := i) (by omega)]
    simp only [getI_some, cond_true, decide_true, Bool.not_true, cond_false]
    rw [wr1 (by omega)]
theorem c37 {l : List Int} (hl : l.length ≤ 1000) (c z c2 z2 : Bool) : PureOK Try.prog 37 [.sl (ints l) l.length 1 c z, .sl (ints l) l.length 1 c2 z2] (bD true) :=
  ae_pure EvOK.nil (fn := Try.f37) k37 (by kernel_rfl) (by kernel_rfl) ((startF_seg k37 ((t37_h ..).trans (by rw [decide_eq_true (rfl : (l.length : Int) = l.length)]; rfl)) (loop37 hl c z c2 z2 l.length 0 (by omega))).trans (nextF_done k37 done_plain t37_e))
end Go.Proofs.Ytjfopbpkophoeaa

/- Chapter 06: law 7 (Ways) on data. -/
namespace Go.Proofs.Ytjfopbpkophoeaa
open Go Go.AE
set_option maxRecDepth 100000
structure T7 where
  Y : List DV → List DV
  N : List DV → Nat
  Z : List DV → Nat
  C : List DV → Bool
  L : List DV → Bool
  I : List DV → Bool
  E : List DV → Int
  B : List DV → Bool
/-- What the functions answer that the law calls. -/
def i7 (A : List DV) (n : Nat) (T : T7) (f : Nat) (ds : List DV) : DV := bif Nat.beq f 14 then .sl A n 1 false false else bif Nat.beq f 35 then .tup [.sl (T.Y ds) (T.N ds) (T.Z ds) (T.C ds) (T.L ds), bD (T.I ds), iD (T.E ds)] else bif Nat.beq f 36 then .sl (T.Y ds) (T.N ds) (T.Z ds) (T.C ds) (T.L ds) else bif Nat.beq f 37 then bD (T.B ds) else bD true
noncomputable def ev7L (ok : Nat → List DV → Bool) (A : List DV) (n : Nat) (T : T7) : Ev := evT ok (i7 A n T)
def q7 (A : List DV) (n : Nat) (i j m r : Int) : St := ⟨[(5, .d (DV.sl A n 1 false false)), (6, .d (iD i)), (7, .d (iD j)), (8, .d (iD m)), (9, .d (iD r))], [], []⟩
def Q7 {X : Type} (ok : Nat → List DV → Bool) (T : T7) (v : List DV) (n : Nat) (i j m : Int) (cont bad : Option X) : Option X :=
  bif ok 35 v then (bif T.L v || Nat.beq (T.Z v) 1 then
    (bif decide (i < 0) then (bif !decide (T.E v = 1) then bad else bif T.I v then bad else bif !decide ((T.N v : Int) = 0) then bad else cont) else
     bif decide (j < 0) then (bif !decide (T.E v = 1) then bad else bif T.I v then bad else bif !decide ((T.N v : Int) = 0) then bad else cont) else
     bif decide ((n : Int) ≤ i) then (bif !decide (T.E v = 1) then bad else bif T.I v then bad else bif !decide ((T.N v : Int) = 0) then bad else cont) else
     bif decide ((n : Int) ≤ j) then (bif !decide (T.E v = 1) then bad else bif T.I v then bad else bif !decide ((T.N v : Int) = 0) then bad else cont) else
     bif decide (m < 0) then (bif !decide (T.E v = 1) then bad else bif T.I v then bad else bif !decide ((T.N v : Int) = 0) then bad else cont) else
     bif decide (10 < m) then (bif !decide (T.E v = 1) then bad else bif T.I v then bad else bif !decide ((T.N v : Int) = 0) then bad else cont) else
     bif ok 36 v then (bif T.L v || Nat.beq (T.Z v) 1 then (bif !decide (T.E v = 0) then bad else bif !decide (T.I v = !T.L v) then bad else
       bif ok 37 [.sl (T.Y v) (T.N v) 1 false (T.L v), .sl (T.Y v) (T.N v) 1 false (T.L v)] then (bif !T.B [.sl (T.Y v) (T.N v) 1 false (T.L v), .sl (T.Y v) (T.N v) 1 false (T.L v)] then bad else cont) else none) else none) else none) else none) else none
theorem t7_h (ok : Nat → List DV → Bool) (A : List DV) (n : Nat) (T : T7) (a : DV) (i j m : Int) : startS aeC (ev7L ok A n T) 7 0 Try.f7 none ⟨envOf 0 [.d a, .d (.agg [iD i, iD j, iD m])], [], []⟩ (heldD aeC 7 0) = bif ok 14 [a, iD 5] then some (0, q7 A n i j m 0) else none := by kernel_rfl
theorem t7_0 (ok : Nat → List DV → Bool) (A : List DV) (n : Nat) (T : T7) (i j m r : Int) : startS aeC (ev7L ok A n T) 7 0 Try.f7 (some 0) (q7 A n i j m r) (roundD aeC 7 0 0) =
  bif decide (r < 2) then Q7 ok T [.sl A n 1 false false, iD i, iD j, iD m] n i j m
    (bif decide (IntKind.wrap IntKind.u64 (n : Int) = 0) then none else bif decide (IntKind.wrap IntKind.u64 (n : Int) = 0) then none else some (Ex.norm, q7 A n (IntKind.wrap IntKind.i64 (Int.tmod (IntKind.wrap IntKind.u64 i) (IntKind.wrap IntKind.u64 (n : Int)))) (IntKind.wrap IntKind.i64 (Int.tmod (IntKind.wrap IntKind.u64 j) (IntKind.wrap IntKind.u64 (n : Int)))) (IntKind.wrap IntKind.i64 (Int.tmod (IntKind.wrap IntKind.u64 m) 11)) (IntKind.wrap IntKind.i64 (r + 1))))
    (some (Ex.ret, ⟨[(4, .d (bD false))], [], []⟩)) else some (Ex.exit 0, ⟨[], [], []⟩) := by kernel_rfl
theorem t7_e (ok : Nat → List DV → Bool) (A : List DV) (n : Nat) (T : T7) : nextS aeC (ev7L ok A n T) 7 0 Try.f7 none 0 (.exit 0) ⟨[], [], []⟩ (doneE aeC Try.f7 0 fun v h => freezeV h 4 v) = bif ok 21 [] then some (bD true) else none := by kernel_rfl
theorem k7 : OkSeg Try.f7 none [0] := ⟨by kernel_rfl, by kernel_rfl, by decide⟩
theorem k7_0 : OkSeg Try.f7 (some 0) [] := ⟨by kernel_rfl, by kernel_rfl, by decide⟩
def argI7 (i : Nat) (ds : List DV) : Int := match nth ds i with
  | some (.int _ n) => n
  | _ => 0
/-- Whether there is a trip. -/
def good7 (M : List (List Int)) (i j m : Int) : Bool := !badW M.length i j m && reach M.length (fM M) j.toNat m.toNat i.toNat
def tF7 {α : Type} (f : Int → Int → Int → α) (ds : List DV) : α := f (argI7 1 ds) (argI7 2 ds) (argI7 3 ds)
def tb7 (M : List (List Int)) : T7 where
  Y := tF7 fun i j m => bif good7 M i j m then ints (wayL M.length (fM M) i.toNat j.toNat m.toNat) else []
  N := tF7 fun i j m => bif good7 M i j m then m.toNat + 1 else 0
  Z := tF7 fun i j m => bif good7 M i j m then 1 else 0
  C := tF7 fun i j m => bif good7 M i j m then Nat.beq m.toNat 0 else false
  L := tF7 fun i j m => !good7 M i j m
  I := tF7 fun i j m => good7 M i j m
  E := tF7 fun i j m => bif badW M.length i j m then 1 else 0
  B := fun _ => true
section
variable {k : Nat} {M : List (List Int)}
noncomputable abbrev ok7L (M : List (List Int)) : Nat → List DV → Bool := okS (i7 (M.map rowD) M.length (tb7 M))
theorem i35 (i j m : Int) : i7 (M.map rowD) M.length (tb7 M) 35 [matD M, iD i, iD j, iD m] = tripD M i j m := by
  show DV.tup [.sl (bif good7 M i j m then ints (wayL M.length (fM M) i.toNat j.toNat m.toNat) else []) (bif good7 M i j m then m.toNat + 1 else 0) (bif good7 M i j m then 1 else 0) (bif good7 M i j m then Nat.beq m.toNat 0 else false) (!good7 M i j m), bD (good7 M i j m), iD (bif badW M.length i j m then 1 else 0)] = _
  unfold tripD good7
  cases badW M.length i j m <;> cases reach M.length (fM M) j.toNat m.toNat i.toNat <;> rfl
theorem i36 {i j m : Int} (hb : badW M.length i j m = false) : i7 (M.map rowD) M.length (tb7 M) 36 [matD M, iD i, iD j, iD m] = bif reach M.length (fM M) j.toNat m.toNat i.toNat then wayD M.length (fM M) i.toNat j.toNat m.toNat else nilZ := by
  show DV.sl (bif good7 M i j m then ints (wayL M.length (fM M) i.toNat j.toNat m.toNat) else []) (bif good7 M i j m then m.toNat + 1 else 0) (bif good7 M i j m then 1 else 0) (bif good7 M i j m then Nat.beq m.toNat 0 else false) (!good7 M i j m) = _
  unfold good7
  rw [hb]
  cases reach M.length (fM M) j.toNat m.toNat i.toNat <;> rfl
theorem Q7_ok {X : Type} (hM : matB k M) (h1 : 1 ≤ k) (h5 : k ≤ 5) (i j m : Int) (cont bad : Option X) : Q7 (ok7L M) (tb7 M) [matD M, iD i, iD j, iD m] M.length i j m cont bad = cont := by
  unfold Q7
  have g35 : ok7L M 35 [matD M, iD i, iD j, iD m] = true := okS_is (by rw [i35]; exact c35 hM h1 h5 i j m)
  have hL : (tb7 M).L [matD M, iD i, iD j, iD m] = !good7 M i j m := rfl
  have hZ : (tb7 M).Z [matD M, iD i, iD j, iD m] = bif good7 M i j m then 1 else 0 := rfl
  have hE : (tb7 M).E [matD M, iD i, iD j, iD m] = bif badW M.length i j m then 1 else 0 := rfl
  have hI : (tb7 M).I [matD M, iD i, iD j, iD m] = good7 M i j m := rfl
  have hN : (tb7 M).N [matD M, iD i, iD j, iD m] = bif good7 M i j m then m.toNat + 1 else 0 := rfl
  have hY : (tb7 M).Y [matD M, iD i, iD j, iD m] = bif good7 M i j m then ints (wayL M.length (fM M) i.toNat j.toNat m.toNat) else [] := rfl
  have hB : ∀ ds, (tb7 M).B ds = true := fun _ => rfl
  have hr : ((!good7 M i j m) || Nat.beq (bif good7 M i j m then 1 else 0) 1) = true := by cases good7 M i j m <;> rfl
  rw [g35, hL, hZ, hr, hE, hI, hN]
  simp only [cond_true]
  cases hb : badW M.length i j m with
  | true =>
    have hg : good7 M i j m = false := by unfold good7; rw [hb]; rfl
    rw [hg]
    simp only [cond_true, cond_false]
    have o : (bif !decide ((1 : Int) = 1) then bad else bif !decide (((0 : Nat) : Int) = 0) then bad else cont) = cont := rfl
    simp only [badW, Bool.or_eq_true, decide_eq_true_eq] at hb
    by_cases c1 : i < 0
    · rw [decide_eq_true c1]; exact o
    by_cases c2 : j < 0
    · rw [decide_eq_false c1, decide_eq_true c2]; exact o
    by_cases c3 : (M.length : Int) ≤ i
    · rw [decide_eq_false c1, decide_eq_false c2, decide_eq_true c3]; exact o
    by_cases c4 : (M.length : Int) ≤ j
    · rw [decide_eq_false c1, decide_eq_false c2, decide_eq_false c3, decide_eq_true c4]; exact o
    by_cases c5 : m < 0
    · rw [decide_eq_false c1, decide_eq_false c2, decide_eq_false c3, decide_eq_false c4, decide_eq_true c5]; exact o
    by_cases c6 : 10 < m
    · rw [decide_eq_false c1, decide_eq_false c2, decide_eq_false c3, decide_eq_false c4, decide_eq_false c5, decide_eq_true c6]; exact o
    omega
  | false =>
    have g36 : ok7L M 36 [matD M, iD i, iD j, iD m] = true := okS_is (by
      rw [i36 hb]
      obtain ⟨a, b, n, rfl, rfl, rfl, ha, hbk, hn⟩ := badW_no hb
      rw [hM.1] at ha hbk ⊢
      simp only [Int.toNat_natCast]
      exact c36 hM h5 ha hbk hn)
    have hb' := hb
    simp only [badW, Bool.or_eq_false_iff, decide_eq_false_iff_not] at hb'
    obtain ⟨c1, c2, c3, c4, c5, c6⟩ := hb'
    rw [decide_eq_false c1, decide_eq_false c2, decide_eq_false c3, decide_eq_false c4, decide_eq_false c5, decide_eq_false c6, g36]
    simp only [cond_true, cond_false, decide_true, Bool.not_true, hB]
    rw [hY]
    have g37 : ∀ c z : Bool, ok7L M 37 [.sl (bif good7 M i j m then ints (wayL M.length (fM M) i.toNat j.toNat m.toNat) else []) (bif good7 M i j m then m.toNat + 1 else 0) 1 c z, .sl (bif good7 M i j m then ints (wayL M.length (fM M) i.toNat j.toNat m.toNat) else []) (bif good7 M i j m then m.toNat + 1 else 0) 1 c z] = true := fun c z => okS_is (by
      show PureOK Try.prog 37 _ (bD true)
      cases good7 M i j m with
      | true =>
        have hw := wayL_len M.length (fM M) i.toNat j.toNat m.toNat
        simp only [cond_true]
        rw [← hw]
        exact c37 (by rw [hw]; omega) c z c z
      | false => exact c37 (l := []) (by simp) c z c z)
    rw [g37]
    cases good7 M i j m <;> rfl
theorem two_no7 {X : Type} {b c : Bool} {x : Option X} (h1 : b = false) (h2 : c = false) : (bif b then none else bif c then none else x) = x := by rw [h1, h2]; rfl
theorem law7 (hM : matB k M) (h1 : 1 ≤ k) (h5 : k ≤ 5) (i j m : Int) : LoopAt aeC (ev7L (ok7L M) (M.map rowD) M.length (tb7 M)) 7 0 Try.f7 0 (q7 (M.map rowD) M.length i j m 0) (.exit 0) ⟨[], [], []⟩ := by
  have hn : decide (IntKind.wrap IntKind.u64 (M.length : Int) = 0) = false := decide_eq_false (by have := hM.1; rw [wrapU_eq]; omega)
  have r : ∀ (i j m r : Int), r < 2 → ∃ i' j' m', startS aeC (ev7L (ok7L M) (M.map rowD) M.length (tb7 M)) 7 0 Try.f7 (some 0) (q7 (M.map rowD) M.length i j m r) (roundD aeC 7 0 0) = some (Ex.norm, q7 (M.map rowD) M.length i' j' m' (IntKind.wrap IntKind.i64 (r + 1))) := fun i j m r h => by
    exact ⟨IntKind.wrap IntKind.i64 (Int.tmod (IntKind.wrap IntKind.u64 i) (IntKind.wrap IntKind.u64 (M.length : Int))), IntKind.wrap IntKind.i64 (Int.tmod (IntKind.wrap IntKind.u64 j) (IntKind.wrap IntKind.u64 (M.length : Int))), IntKind.wrap IntKind.i64 (Int.tmod (IntKind.wrap IntKind.u64 m) 11), (t7_0 ..).trans ((cnd_pos h).trans ((Q7_ok hM h1 h5 i j m _ _).trans (two_no7 hn hn)))⟩
  obtain ⟨i1, j1, m1, e1⟩ := r i j m 0 (by decide)
  obtain ⟨i2, j2, m2, e2⟩ := r i1 j1 m1 1 (by decide)
  exact .next k7_0 e1 (.next k7_0 e2 (.out k7_0 (by simp) ((t7_0 ..).trans (cnd_neg (by decide)))))
end
/-- Law 7 on data. -/
theorem ways_pure (Y : List (List Int × Bool)) (c z : Bool) (i j m : Int) : PureOK Try.prog 7 [.sl (rowsD Y) Y.length 1 c z, .agg [iD i, iD j, iD m]] (bD true) := by
  obtain ⟨k, M, h1, h5, hM, hc⟩ := c14 Y c z 5 (by decide) (by decide)
  have g14 : ok7L M 14 [.sl (rowsD Y) Y.length 1 c z, iD 5] = true := okS_is hc
  have g21 : ok7L M 21 [] = true := okS_is awake_ok
  refine ae_pure (evT_ok (i7 (M.map rowD) M.length (tb7 M))) (fn := Try.f7) k7 (by kernel_rfl) (by kernel_rfl) ((startF_seg k7 ((t7_h (ok7L M) (M.map rowD) M.length (tb7 M) _ i j m).trans (cond_is' g14)) (law7 hM h1 h5 i j m)).trans (nextF_done k7 done_plain ((t7_e ..).trans ?_)))
  rw [g21]; rfl
end Go.Proofs.Ytjfopbpkophoeaa
